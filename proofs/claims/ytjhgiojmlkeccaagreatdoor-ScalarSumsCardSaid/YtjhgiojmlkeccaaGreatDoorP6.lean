/- Walks and plain laws of this proof, joined from smaller texts (6). -/
import Derived.Test.YtjhgiojmlkeccaaGreatDoorRows
import Derived.ProofKit
import Derived.OpenShut
import Derived.Lib.SmallJoins
import Derived.Below
import Derived.ChangeSame
import Derived.Test.YtjhgiojmlkeccaaGreatDoorP5
set_option linter.unusedSimpArgs false
set_option linter.unusedVariables false
namespace Go.Proofs.YtjhgiojmlkeccaaGreatDoor
open Go.RowKit
set_option maxRecDepth 100000 in
set_option maxHeartbeats 4000000 in
theorem great16_no (ka : Int) (nma txa : ByteArray) (na ma : Int) (kb : Int) (nmb txb : ByteArray) (nb mb : Int) (w : World) (h1 : ¬ (1000 : Int) < (txa.size : Int)) (h2 : ¬ (1000 : Int) < (txb.size : Int)) :
    Calls Tryz.prog 7 #[.agg #[.int .u8 ka, .string nma, .string txa, .int .i64 na, .int .i64 ma], .agg #[.int .u8 kb, .string nmb, .string txb, .int .i64 nb, .int .i64 mb]] w fun e w' => e = .returned (.bool false) ∧ Below w.heap.size w w' := by
  go_enter Tryz.func7, Tryz.ntmps7
  go_wp2_with fail
  go_ret
  refine ⟨rfl, by go_grown⟩
set_option maxRecDepth 100000 in
set_option maxHeartbeats 4000000 in
theorem great16_fst (ka : Int) (nma txa : ByteArray) (na ma : Int) (kb : Int) (nmb txb : ByteArray) (nb mb : Int) (w : World) (h1 : (1000 : Int) < (txa.size : Int)) :
    Calls Tryz.prog 7 #[.agg #[.int .u8 ka, .string nma, .string txa, .int .i64 na, .int .i64 ma], .agg #[.int .u8 kb, .string nmb, .string txb, .int .i64 nb, .int .i64 mb]] w fun e w' => e = .returned (.bool true) ∧ Below w.heap.size w w' := by
  go_enter Tryz.func7, Tryz.ntmps7
  go_wp2_with fail
  go_ret
  refine ⟨rfl, by go_grown⟩
set_option maxRecDepth 100000 in
set_option maxHeartbeats 4000000 in
theorem great16_snd (ka : Int) (nma txa : ByteArray) (na ma : Int) (kb : Int) (nmb txb : ByteArray) (nb mb : Int) (w : World) (h1 : ¬ (1000 : Int) < (txa.size : Int)) (h2 : (1000 : Int) < (txb.size : Int)) :
    Calls Tryz.prog 7 #[.agg #[.int .u8 ka, .string nma, .string txa, .int .i64 na, .int .i64 ma], .agg #[.int .u8 kb, .string nmb, .string txb, .int .i64 nb, .int .i64 mb]] w fun e w' => e = .returned (.bool true) ∧ Below w.heap.size w w' := by
  go_enter Tryz.func7, Tryz.ntmps7
  go_wp2_with fail
  go_ret
  refine ⟨rfl, by go_grown⟩
theorem great16_any (a b : Cl) (w : World) : DoesU w 7 #[cellV a, cellV b] (.bool (decide (1000 < a.tx.size ∨ 1000 < b.tx.size))) := fun W _ => by
  by_cases h1 : 1000 < a.tx.size
  · rw [decide_eq_true (Or.inl h1)]
    exact great16_fst _ _ _ _ _ _ _ _ _ _ W (by omega)
  · by_cases h2 : 1000 < b.tx.size
    · rw [decide_eq_true (Or.inr h2)]
      exact great16_snd _ _ _ _ _ _ _ _ _ _ W (by omega) (by omega)
    · rw [decide_eq_false (by rintro (h | h) <;> omega)]
      exact great16_no _ _ _ _ _ _ _ _ _ _ W (by omega) (by omega)
theorem cell_eql (ka : Int) (nma txa : ByteArray) (na ma : Int) (kb : Int) (nmb txb : ByteArray) (nb mb : Int) (w : World) : (binOp .eql 23 (.agg #[.int .u8 ka, .string nma, .string txa, .int .i64 na, .int .i64 ma]) (.agg #[.int .u8 kb, .string nmb, .string txb, .int .i64 nb, .int .i64 mb])).run Tryz.prog w = .ok (.bool (ka == kb && (nma.toList == nmb.toList && (txa.toList == txb.toList && (na == nb && ma == mb))))) w := by
  simp [go_sem]
  by_cases h : ka = kb <;> by_cases h2 : nma.toList = nmb.toList <;> by_cases h3 : txa.toList = txb.toList <;> by_cases h4 : na = nb <;> by_cases h5 : ma = mb <;> simp [h, h2, h3, h4, h5]
set_option maxRecDepth 100000 in
set_option maxHeartbeats 4000000 in
theorem order16_ab (k : Int) (ka : Int) (nma txa : ByteArray) (na ma : Int) (kb : Int) (nmb txb : ByteArray) (nb mb : Int) (kc : Int) (nmc txc : ByteArray) (nc mc : Int) (w : World) (hE : EnvS w) (HG : Hid (DoesU w 7 #[.agg #[.int .u8 ka, .string nma, .string txa, .int .i64 na, .int .i64 ma], .agg #[.int .u8 kb, .string nmb, .string txb, .int .i64 nb, .int .i64 mb]] (.bool true))) :
    Calls Tryz.prog 4 #[.int .u8 k, .agg #[.int .u8 ka, .string nma, .string txa, .int .i64 na, .int .i64 ma], .agg #[.int .u8 kb, .string nmb, .string txb, .int .i64 nb, .int .i64 mb], .agg #[.int .u8 kc, .string nmc, .string txc, .int .i64 nc, .int .i64 mc]] w fun e w' => e = .returned (.bool true) ∧ Below w.heap.size w w' := by
  have HA : Hid (DoesU w 6 #[] (.bool true)) := Lib.hid fun W hW => lalive16 W (hE.below hW)
  go_enter Tryz.func4, Tryz.ntmps4
  go_wp2_with fail
  refine (HA.out _ (by first | exact Below.refl _ _ | (go_grown; done))).mono ?_; rintro e w1 ⟨rfl, hb⟩
  have hh0 : w1.heap[w.heap.size]? = some (.cells #[.int .u8 ka, .string nma, .string txa, .int .i64 na, .int .i64 ma] 23 (0, 0)) := (hb.block _ (by first | omega | (simp; done) | (simp; omega))).trans (heap_old (o' := (.cells #[.int .u8 kc, .string nmc, .string txc, .int .i64 nc, .int .i64 mc] 23 (0, 0))) (heap_old (o' := (.cells #[.int .u8 kb, .string nmb, .string txb, .int .i64 nb, .int .i64 mb] 23 (0, 0))) (heap_new _ _ _ (by first | rfl | simp))))
  have hh1 : w1.heap[w.heap.size + 1]? = some (.cells #[.int .u8 kb, .string nmb, .string txb, .int .i64 nb, .int .i64 mb] 23 (0, 0)) := (hb.block _ (by first | omega | (simp; done) | (simp; omega))).trans (heap_old (o' := (.cells #[.int .u8 kc, .string nmc, .string txc, .int .i64 nc, .int .i64 mc] 23 (0, 0))) (heap_new _ _ _ (by first | rfl | simp)))
  have hh2 : w1.heap[w.heap.size + 1 + 1]? = some (.cells #[.int .u8 kc, .string nmc, .string txc, .int .i64 nc, .int .i64 mc] 23 (0, 0)) := (hb.block _ (by first | omega | (simp; done) | (simp; omega))).trans (heap_new _ _ _ (by first | rfl | simp))
  have hbw1 : Below w.heap.size w w1 := (show Below w.heap.size w _ by first | exact Below.refl _ _ | (go_grown; done)).trans (hb.mono (by first | omega | (simp; done) | (simp; omega)))
  clear hb
  have HH0_1 := Lib.hid hh0
  have lt0 := heap_lt hh0
  have c0_0 : w1.cell? ⟨w.heap.size, 0, none⟩ = some (.int .u8 ka) := by rw [Lib.cell_of_heap hh0]; rfl
  have c0_1 : w1.cell? ⟨w.heap.size, 1, none⟩ = some (.string nma) := by rw [Lib.cell_of_heap hh0]; rfl
  have c0_2 : w1.cell? ⟨w.heap.size, 2, none⟩ = some (.string txa) := by rw [Lib.cell_of_heap hh0]; rfl
  have c0_3 : w1.cell? ⟨w.heap.size, 3, none⟩ = some (.int .i64 na) := by rw [Lib.cell_of_heap hh0]; rfl
  have c0_4 : w1.cell? ⟨w.heap.size, 4, none⟩ = some (.int .i64 ma) := by rw [Lib.cell_of_heap hh0]; rfl
  clear hh0
  have HH1_1 := Lib.hid hh1
  have lt1 := heap_lt hh1
  have c1_0 : w1.cell? ⟨w.heap.size + 1, 0, none⟩ = some (.int .u8 kb) := by rw [Lib.cell_of_heap hh1]; rfl
  have c1_1 : w1.cell? ⟨w.heap.size + 1, 1, none⟩ = some (.string nmb) := by rw [Lib.cell_of_heap hh1]; rfl
  have c1_2 : w1.cell? ⟨w.heap.size + 1, 2, none⟩ = some (.string txb) := by rw [Lib.cell_of_heap hh1]; rfl
  have c1_3 : w1.cell? ⟨w.heap.size + 1, 3, none⟩ = some (.int .i64 nb) := by rw [Lib.cell_of_heap hh1]; rfl
  have c1_4 : w1.cell? ⟨w.heap.size + 1, 4, none⟩ = some (.int .i64 mb) := by rw [Lib.cell_of_heap hh1]; rfl
  clear hh1
  have HH2_1 := Lib.hid hh2
  have lt2 := heap_lt hh2
  have c2_0 : w1.cell? ⟨w.heap.size + 1 + 1, 0, none⟩ = some (.int .u8 kc) := by rw [Lib.cell_of_heap hh2]; rfl
  have c2_1 : w1.cell? ⟨w.heap.size + 1 + 1, 1, none⟩ = some (.string nmc) := by rw [Lib.cell_of_heap hh2]; rfl
  have c2_2 : w1.cell? ⟨w.heap.size + 1 + 1, 2, none⟩ = some (.string txc) := by rw [Lib.cell_of_heap hh2]; rfl
  have c2_3 : w1.cell? ⟨w.heap.size + 1 + 1, 3, none⟩ = some (.int .i64 nc) := by rw [Lib.cell_of_heap hh2]; rfl
  have c2_4 : w1.cell? ⟨w.heap.size + 1 + 1, 4, none⟩ = some (.int .i64 mc) := by rw [Lib.cell_of_heap hh2]; rfl
  clear hh2
  have sz1 := hbw1.size
  have HW1 := Lib.hid hbw1
  go_wp2_with fail
  refine (HG.out _ (by first | exact HW1.out | exact HW1.out.trans ⟨rfl, rfl, rfl, Nat.le_refl _, fun _ _ => rfl⟩ | (go_grown; done))).mono ?_; rintro e w2 ⟨rfl, hb⟩
  have hv0 := HH0_1.out
  have hh0 : w2.heap[w.heap.size]? = some (.cells #[.int .u8 ka, .string nma, .string txa, .int .i64 na, .int .i64 ma] 23 (0, 0)) := (hb.block _ (heap_lt hv0)).trans hv0
  clear hv0
  have hv1 := HH1_1.out
  have hh1 : w2.heap[w.heap.size + 1]? = some (.cells #[.int .u8 kb, .string nmb, .string txb, .int .i64 nb, .int .i64 mb] 23 (0, 0)) := (hb.block _ (heap_lt hv1)).trans hv1
  clear hv1
  have hv2 := HH2_1.out
  have hh2 : w2.heap[w.heap.size + 1 + 1]? = some (.cells #[.int .u8 kc, .string nmc, .string txc, .int .i64 nc, .int .i64 mc] 23 (0, 0)) := (hb.block _ (heap_lt hv2)).trans hv2
  clear hv2
  have hbw2 : Below w.heap.size w w2 := (show Below w.heap.size w _ by first | exact HW1.out.trans ⟨rfl, rfl, rfl, Nat.le_refl _, fun _ _ => rfl⟩ | exact HW1.out | (go_grown; done)).trans (hb.mono (by first | omega | (simp; done) | (simp; omega)))
  clear hb lt0 c0_0 c0_1 c0_2 c0_3 c0_4 lt1 c1_0 c1_1 c1_2 c1_3 c1_4 lt2 c2_0 c2_1 c2_2 c2_3 c2_4 hbw1
  have HH0_2 := Lib.hid hh0
  have lt0 := heap_lt hh0
  have c0_0 : w2.cell? ⟨w.heap.size, 0, none⟩ = some (.int .u8 ka) := by rw [Lib.cell_of_heap hh0]; rfl
  have c0_1 : w2.cell? ⟨w.heap.size, 1, none⟩ = some (.string nma) := by rw [Lib.cell_of_heap hh0]; rfl
  have c0_2 : w2.cell? ⟨w.heap.size, 2, none⟩ = some (.string txa) := by rw [Lib.cell_of_heap hh0]; rfl
  have c0_3 : w2.cell? ⟨w.heap.size, 3, none⟩ = some (.int .i64 na) := by rw [Lib.cell_of_heap hh0]; rfl
  have c0_4 : w2.cell? ⟨w.heap.size, 4, none⟩ = some (.int .i64 ma) := by rw [Lib.cell_of_heap hh0]; rfl
  clear hh0
  have HH1_2 := Lib.hid hh1
  have lt1 := heap_lt hh1
  have c1_0 : w2.cell? ⟨w.heap.size + 1, 0, none⟩ = some (.int .u8 kb) := by rw [Lib.cell_of_heap hh1]; rfl
  have c1_1 : w2.cell? ⟨w.heap.size + 1, 1, none⟩ = some (.string nmb) := by rw [Lib.cell_of_heap hh1]; rfl
  have c1_2 : w2.cell? ⟨w.heap.size + 1, 2, none⟩ = some (.string txb) := by rw [Lib.cell_of_heap hh1]; rfl
  have c1_3 : w2.cell? ⟨w.heap.size + 1, 3, none⟩ = some (.int .i64 nb) := by rw [Lib.cell_of_heap hh1]; rfl
  have c1_4 : w2.cell? ⟨w.heap.size + 1, 4, none⟩ = some (.int .i64 mb) := by rw [Lib.cell_of_heap hh1]; rfl
  clear hh1
  have HH2_2 := Lib.hid hh2
  have lt2 := heap_lt hh2
  have c2_0 : w2.cell? ⟨w.heap.size + 1 + 1, 0, none⟩ = some (.int .u8 kc) := by rw [Lib.cell_of_heap hh2]; rfl
  have c2_1 : w2.cell? ⟨w.heap.size + 1 + 1, 1, none⟩ = some (.string nmc) := by rw [Lib.cell_of_heap hh2]; rfl
  have c2_2 : w2.cell? ⟨w.heap.size + 1 + 1, 2, none⟩ = some (.string txc) := by rw [Lib.cell_of_heap hh2]; rfl
  have c2_3 : w2.cell? ⟨w.heap.size + 1 + 1, 3, none⟩ = some (.int .i64 nc) := by rw [Lib.cell_of_heap hh2]; rfl
  have c2_4 : w2.cell? ⟨w.heap.size + 1 + 1, 4, none⟩ = some (.int .i64 mc) := by rw [Lib.cell_of_heap hh2]; rfl
  clear hh2
  have sz2 := hbw2.size
  have HW2 := Lib.hid hbw2
  go_wp2_with fail
  go_ret
  exact ⟨rfl, by first | exact HW2.out | (go_grown; done)⟩
set_option maxRecDepth 100000 in
set_option maxHeartbeats 4000000 in
theorem order16_c (k : Int) (ka : Int) (nma txa : ByteArray) (na ma : Int) (kb : Int) (nmb txb : ByteArray) (nb mb : Int) (kc : Int) (nmc txc : ByteArray) (nc mc : Int) (w : World) (hE : EnvS w) (HG : Hid (DoesU w 7 #[.agg #[.int .u8 ka, .string nma, .string txa, .int .i64 na, .int .i64 ma], .agg #[.int .u8 kb, .string nmb, .string txb, .int .i64 nb, .int .i64 mb]] (.bool false))) (HH : Hid (DoesU w 7 #[.agg #[.int .u8 kc, .string nmc, .string txc, .int .i64 nc, .int .i64 mc], .agg #[.int .u8 kc, .string nmc, .string txc, .int .i64 nc, .int .i64 mc]] (.bool true))) :
    Calls Tryz.prog 4 #[.int .u8 k, .agg #[.int .u8 ka, .string nma, .string txa, .int .i64 na, .int .i64 ma], .agg #[.int .u8 kb, .string nmb, .string txb, .int .i64 nb, .int .i64 mb], .agg #[.int .u8 kc, .string nmc, .string txc, .int .i64 nc, .int .i64 mc]] w fun e w' => e = .returned (.bool true) ∧ Below w.heap.size w w' := by
  have HA : Hid (DoesU w 6 #[] (.bool true)) := Lib.hid fun W hW => lalive16 W (hE.below hW)
  go_enter Tryz.func4, Tryz.ntmps4
  go_wp2_with fail
  refine (HA.out _ (by first | exact Below.refl _ _ | (go_grown; done))).mono ?_; rintro e w1 ⟨rfl, hb⟩
  have hh0 : w1.heap[w.heap.size]? = some (.cells #[.int .u8 ka, .string nma, .string txa, .int .i64 na, .int .i64 ma] 23 (0, 0)) := (hb.block _ (by first | omega | (simp; done) | (simp; omega))).trans (heap_old (o' := (.cells #[.int .u8 kc, .string nmc, .string txc, .int .i64 nc, .int .i64 mc] 23 (0, 0))) (heap_old (o' := (.cells #[.int .u8 kb, .string nmb, .string txb, .int .i64 nb, .int .i64 mb] 23 (0, 0))) (heap_new _ _ _ (by first | rfl | simp))))
  have hh1 : w1.heap[w.heap.size + 1]? = some (.cells #[.int .u8 kb, .string nmb, .string txb, .int .i64 nb, .int .i64 mb] 23 (0, 0)) := (hb.block _ (by first | omega | (simp; done) | (simp; omega))).trans (heap_old (o' := (.cells #[.int .u8 kc, .string nmc, .string txc, .int .i64 nc, .int .i64 mc] 23 (0, 0))) (heap_new _ _ _ (by first | rfl | simp)))
  have hh2 : w1.heap[w.heap.size + 1 + 1]? = some (.cells #[.int .u8 kc, .string nmc, .string txc, .int .i64 nc, .int .i64 mc] 23 (0, 0)) := (hb.block _ (by first | omega | (simp; done) | (simp; omega))).trans (heap_new _ _ _ (by first | rfl | simp))
  have hbw1 : Below w.heap.size w w1 := (show Below w.heap.size w _ by first | exact Below.refl _ _ | (go_grown; done)).trans (hb.mono (by first | omega | (simp; done) | (simp; omega)))
  clear hb
  have HH0_1 := Lib.hid hh0
  have lt0 := heap_lt hh0
  have c0_0 : w1.cell? ⟨w.heap.size, 0, none⟩ = some (.int .u8 ka) := by rw [Lib.cell_of_heap hh0]; rfl
  have c0_1 : w1.cell? ⟨w.heap.size, 1, none⟩ = some (.string nma) := by rw [Lib.cell_of_heap hh0]; rfl
  have c0_2 : w1.cell? ⟨w.heap.size, 2, none⟩ = some (.string txa) := by rw [Lib.cell_of_heap hh0]; rfl
  have c0_3 : w1.cell? ⟨w.heap.size, 3, none⟩ = some (.int .i64 na) := by rw [Lib.cell_of_heap hh0]; rfl
  have c0_4 : w1.cell? ⟨w.heap.size, 4, none⟩ = some (.int .i64 ma) := by rw [Lib.cell_of_heap hh0]; rfl
  clear hh0
  have HH1_1 := Lib.hid hh1
  have lt1 := heap_lt hh1
  have c1_0 : w1.cell? ⟨w.heap.size + 1, 0, none⟩ = some (.int .u8 kb) := by rw [Lib.cell_of_heap hh1]; rfl
  have c1_1 : w1.cell? ⟨w.heap.size + 1, 1, none⟩ = some (.string nmb) := by rw [Lib.cell_of_heap hh1]; rfl
  have c1_2 : w1.cell? ⟨w.heap.size + 1, 2, none⟩ = some (.string txb) := by rw [Lib.cell_of_heap hh1]; rfl
  have c1_3 : w1.cell? ⟨w.heap.size + 1, 3, none⟩ = some (.int .i64 nb) := by rw [Lib.cell_of_heap hh1]; rfl
  have c1_4 : w1.cell? ⟨w.heap.size + 1, 4, none⟩ = some (.int .i64 mb) := by rw [Lib.cell_of_heap hh1]; rfl
  clear hh1
  have HH2_1 := Lib.hid hh2
  have lt2 := heap_lt hh2
  have c2_0 : w1.cell? ⟨w.heap.size + 1 + 1, 0, none⟩ = some (.int .u8 kc) := by rw [Lib.cell_of_heap hh2]; rfl
  have c2_1 : w1.cell? ⟨w.heap.size + 1 + 1, 1, none⟩ = some (.string nmc) := by rw [Lib.cell_of_heap hh2]; rfl
  have c2_2 : w1.cell? ⟨w.heap.size + 1 + 1, 2, none⟩ = some (.string txc) := by rw [Lib.cell_of_heap hh2]; rfl
  have c2_3 : w1.cell? ⟨w.heap.size + 1 + 1, 3, none⟩ = some (.int .i64 nc) := by rw [Lib.cell_of_heap hh2]; rfl
  have c2_4 : w1.cell? ⟨w.heap.size + 1 + 1, 4, none⟩ = some (.int .i64 mc) := by rw [Lib.cell_of_heap hh2]; rfl
  clear hh2
  have sz1 := hbw1.size
  have HW1 := Lib.hid hbw1
  go_wp2_with fail
  refine (HG.out _ (by first | exact HW1.out | exact HW1.out.trans ⟨rfl, rfl, rfl, Nat.le_refl _, fun _ _ => rfl⟩ | (go_grown; done))).mono ?_; rintro e w2 ⟨rfl, hb⟩
  have hv0 := HH0_1.out
  have hh0 : w2.heap[w.heap.size]? = some (.cells #[.int .u8 ka, .string nma, .string txa, .int .i64 na, .int .i64 ma] 23 (0, 0)) := (hb.block _ (heap_lt hv0)).trans hv0
  clear hv0
  have hv1 := HH1_1.out
  have hh1 : w2.heap[w.heap.size + 1]? = some (.cells #[.int .u8 kb, .string nmb, .string txb, .int .i64 nb, .int .i64 mb] 23 (0, 0)) := (hb.block _ (heap_lt hv1)).trans hv1
  clear hv1
  have hv2 := HH2_1.out
  have hh2 : w2.heap[w.heap.size + 1 + 1]? = some (.cells #[.int .u8 kc, .string nmc, .string txc, .int .i64 nc, .int .i64 mc] 23 (0, 0)) := (hb.block _ (heap_lt hv2)).trans hv2
  clear hv2
  have hbw2 : Below w.heap.size w w2 := (show Below w.heap.size w _ by first | exact HW1.out.trans ⟨rfl, rfl, rfl, Nat.le_refl _, fun _ _ => rfl⟩ | exact HW1.out | (go_grown; done)).trans (hb.mono (by first | omega | (simp; done) | (simp; omega)))
  clear hb lt0 c0_0 c0_1 c0_2 c0_3 c0_4 lt1 c1_0 c1_1 c1_2 c1_3 c1_4 lt2 c2_0 c2_1 c2_2 c2_3 c2_4 hbw1
  have HH0_2 := Lib.hid hh0
  have lt0 := heap_lt hh0
  have c0_0 : w2.cell? ⟨w.heap.size, 0, none⟩ = some (.int .u8 ka) := by rw [Lib.cell_of_heap hh0]; rfl
  have c0_1 : w2.cell? ⟨w.heap.size, 1, none⟩ = some (.string nma) := by rw [Lib.cell_of_heap hh0]; rfl
  have c0_2 : w2.cell? ⟨w.heap.size, 2, none⟩ = some (.string txa) := by rw [Lib.cell_of_heap hh0]; rfl
  have c0_3 : w2.cell? ⟨w.heap.size, 3, none⟩ = some (.int .i64 na) := by rw [Lib.cell_of_heap hh0]; rfl
  have c0_4 : w2.cell? ⟨w.heap.size, 4, none⟩ = some (.int .i64 ma) := by rw [Lib.cell_of_heap hh0]; rfl
  clear hh0
  have HH1_2 := Lib.hid hh1
  have lt1 := heap_lt hh1
  have c1_0 : w2.cell? ⟨w.heap.size + 1, 0, none⟩ = some (.int .u8 kb) := by rw [Lib.cell_of_heap hh1]; rfl
  have c1_1 : w2.cell? ⟨w.heap.size + 1, 1, none⟩ = some (.string nmb) := by rw [Lib.cell_of_heap hh1]; rfl
  have c1_2 : w2.cell? ⟨w.heap.size + 1, 2, none⟩ = some (.string txb) := by rw [Lib.cell_of_heap hh1]; rfl
  have c1_3 : w2.cell? ⟨w.heap.size + 1, 3, none⟩ = some (.int .i64 nb) := by rw [Lib.cell_of_heap hh1]; rfl
  have c1_4 : w2.cell? ⟨w.heap.size + 1, 4, none⟩ = some (.int .i64 mb) := by rw [Lib.cell_of_heap hh1]; rfl
  clear hh1
  have HH2_2 := Lib.hid hh2
  have lt2 := heap_lt hh2
  have c2_0 : w2.cell? ⟨w.heap.size + 1 + 1, 0, none⟩ = some (.int .u8 kc) := by rw [Lib.cell_of_heap hh2]; rfl
  have c2_1 : w2.cell? ⟨w.heap.size + 1 + 1, 1, none⟩ = some (.string nmc) := by rw [Lib.cell_of_heap hh2]; rfl
  have c2_2 : w2.cell? ⟨w.heap.size + 1 + 1, 2, none⟩ = some (.string txc) := by rw [Lib.cell_of_heap hh2]; rfl
  have c2_3 : w2.cell? ⟨w.heap.size + 1 + 1, 3, none⟩ = some (.int .i64 nc) := by rw [Lib.cell_of_heap hh2]; rfl
  have c2_4 : w2.cell? ⟨w.heap.size + 1 + 1, 4, none⟩ = some (.int .i64 mc) := by rw [Lib.cell_of_heap hh2]; rfl
  clear hh2
  have sz2 := hbw2.size
  have HW2 := Lib.hid hbw2
  go_wp2_with fail
  refine (HH.out _ (by first | exact HW2.out | exact HW2.out.trans ⟨rfl, rfl, rfl, Nat.le_refl _, fun _ _ => rfl⟩ | (go_grown; done))).mono ?_; rintro e w3 ⟨rfl, hb⟩
  have hv0 := HH0_2.out
  have hh0 : w3.heap[w.heap.size]? = some (.cells #[.int .u8 ka, .string nma, .string txa, .int .i64 na, .int .i64 ma] 23 (0, 0)) := (hb.block _ (heap_lt hv0)).trans hv0
  clear hv0
  have hv1 := HH1_2.out
  have hh1 : w3.heap[w.heap.size + 1]? = some (.cells #[.int .u8 kb, .string nmb, .string txb, .int .i64 nb, .int .i64 mb] 23 (0, 0)) := (hb.block _ (heap_lt hv1)).trans hv1
  clear hv1
  have hv2 := HH2_2.out
  have hh2 : w3.heap[w.heap.size + 1 + 1]? = some (.cells #[.int .u8 kc, .string nmc, .string txc, .int .i64 nc, .int .i64 mc] 23 (0, 0)) := (hb.block _ (heap_lt hv2)).trans hv2
  clear hv2
  have hbw3 : Below w.heap.size w w3 := (show Below w.heap.size w _ by first | exact HW2.out.trans ⟨rfl, rfl, rfl, Nat.le_refl _, fun _ _ => rfl⟩ | exact HW2.out | (go_grown; done)).trans (hb.mono (by first | omega | (simp; done) | (simp; omega)))
  clear hb lt0 c0_0 c0_1 c0_2 c0_3 c0_4 lt1 c1_0 c1_1 c1_2 c1_3 c1_4 lt2 c2_0 c2_1 c2_2 c2_3 c2_4 hbw2
  have HH0_3 := Lib.hid hh0
  have lt0 := heap_lt hh0
  have c0_0 : w3.cell? ⟨w.heap.size, 0, none⟩ = some (.int .u8 ka) := by rw [Lib.cell_of_heap hh0]; rfl
  have c0_1 : w3.cell? ⟨w.heap.size, 1, none⟩ = some (.string nma) := by rw [Lib.cell_of_heap hh0]; rfl
  have c0_2 : w3.cell? ⟨w.heap.size, 2, none⟩ = some (.string txa) := by rw [Lib.cell_of_heap hh0]; rfl
  have c0_3 : w3.cell? ⟨w.heap.size, 3, none⟩ = some (.int .i64 na) := by rw [Lib.cell_of_heap hh0]; rfl
  have c0_4 : w3.cell? ⟨w.heap.size, 4, none⟩ = some (.int .i64 ma) := by rw [Lib.cell_of_heap hh0]; rfl
  clear hh0
  have HH1_3 := Lib.hid hh1
  have lt1 := heap_lt hh1
  have c1_0 : w3.cell? ⟨w.heap.size + 1, 0, none⟩ = some (.int .u8 kb) := by rw [Lib.cell_of_heap hh1]; rfl
  have c1_1 : w3.cell? ⟨w.heap.size + 1, 1, none⟩ = some (.string nmb) := by rw [Lib.cell_of_heap hh1]; rfl
  have c1_2 : w3.cell? ⟨w.heap.size + 1, 2, none⟩ = some (.string txb) := by rw [Lib.cell_of_heap hh1]; rfl
  have c1_3 : w3.cell? ⟨w.heap.size + 1, 3, none⟩ = some (.int .i64 nb) := by rw [Lib.cell_of_heap hh1]; rfl
  have c1_4 : w3.cell? ⟨w.heap.size + 1, 4, none⟩ = some (.int .i64 mb) := by rw [Lib.cell_of_heap hh1]; rfl
  clear hh1
  have HH2_3 := Lib.hid hh2
  have lt2 := heap_lt hh2
  have c2_0 : w3.cell? ⟨w.heap.size + 1 + 1, 0, none⟩ = some (.int .u8 kc) := by rw [Lib.cell_of_heap hh2]; rfl
  have c2_1 : w3.cell? ⟨w.heap.size + 1 + 1, 1, none⟩ = some (.string nmc) := by rw [Lib.cell_of_heap hh2]; rfl
  have c2_2 : w3.cell? ⟨w.heap.size + 1 + 1, 2, none⟩ = some (.string txc) := by rw [Lib.cell_of_heap hh2]; rfl
  have c2_3 : w3.cell? ⟨w.heap.size + 1 + 1, 3, none⟩ = some (.int .i64 nc) := by rw [Lib.cell_of_heap hh2]; rfl
  have c2_4 : w3.cell? ⟨w.heap.size + 1 + 1, 4, none⟩ = some (.int .i64 mc) := by rw [Lib.cell_of_heap hh2]; rfl
  clear hh2
  have sz3 := hbw3.size
  have HW3 := Lib.hid hbw3
  go_wp2_with fail
  go_ret
  exact ⟨rfl, by first | exact HW3.out | (go_grown; done)⟩
set_option maxRecDepth 100000 in
set_option maxHeartbeats 4000000 in
theorem order16_go (k : Int) (ka : Int) (nma txa : ByteArray) (na ma : Int) (kb : Int) (nmb txb : ByteArray) (nb mb : Int) (kc : Int) (nmc txc : ByteArray) (nc mc : Int) (w : World) (hE : EnvS w) (HG : Hid (DoesU w 7 #[.agg #[.int .u8 ka, .string nma, .string txa, .int .i64 na, .int .i64 ma], .agg #[.int .u8 kb, .string nmb, .string txb, .int .i64 nb, .int .i64 mb]] (.bool false))) (HH : Hid (DoesU w 7 #[.agg #[.int .u8 kc, .string nmc, .string txc, .int .i64 nc, .int .i64 mc], .agg #[.int .u8 kc, .string nmc, .string txc, .int .i64 nc, .int .i64 mc]] (.bool false))) (ab ba bc ac e g h : Int) (q : Bool)
    (H1 : Hid (DoesU w 10 #[.int .u8 k, .agg #[.int .u8 ka, .string nma, .string txa, .int .i64 na, .int .i64 ma], .agg #[.int .u8 kb, .string nmb, .string txb, .int .i64 nb, .int .i64 mb]] (.tuple #[.int .i64 ab, .int .i64 e]))) (H2 : Hid (DoesU w 10 #[.int .u8 k, .agg #[.int .u8 kb, .string nmb, .string txb, .int .i64 nb, .int .i64 mb], .agg #[.int .u8 ka, .string nma, .string txa, .int .i64 na, .int .i64 ma]] (.tuple #[.int .i64 ba, .int .i64 e]))) (H3 : Hid (DoesU w 10 #[.int .u8 k, .agg #[.int .u8 kb, .string nmb, .string txb, .int .i64 nb, .int .i64 mb], .agg #[.int .u8 kc, .string nmc, .string txc, .int .i64 nc, .int .i64 mc]] (.tuple #[.int .i64 bc, .int .i64 g]))) (H4 : Hid (DoesU w 10 #[.int .u8 k, .agg #[.int .u8 ka, .string nma, .string txa, .int .i64 na, .int .i64 ma], .agg #[.int .u8 kc, .string nmc, .string txc, .int .i64 nc, .int .i64 mc]] (.tuple #[.int .i64 ac, .int .i64 h])))
    (hab : (ab = -1 ∧ ba = 1) ∨ (ab = 0 ∧ ba = 0) ∨ (ab = 1 ∧ ba = -1)) (hbc : bc = -1 ∨ bc = 0 ∨ bc = 1) (hq : ∀ w, (binOp .eql 23 (.agg #[.int .u8 ka, .string nma, .string txa, .int .i64 na, .int .i64 ma]) (.agg #[.int .u8 kb, .string nmb, .string txb, .int .i64 nb, .int .i64 mb])).run Tryz.prog w = .ok (.bool q) w) (hq0 : e = 0 → q = decide (ab = 0)) (ht : e = 0 → g = 0 → ab ≤ 0 → bc ≤ 0 → ac = min ab bc) :
    Calls Tryz.prog 4 #[.int .u8 k, .agg #[.int .u8 ka, .string nma, .string txa, .int .i64 na, .int .i64 ma], .agg #[.int .u8 kb, .string nmb, .string txb, .int .i64 nb, .int .i64 mb], .agg #[.int .u8 kc, .string nmc, .string txc, .int .i64 nc, .int .i64 mc]] w fun e w' => e = .returned (.bool true) ∧ Below w.heap.size w w' := by
  have HA : Hid (DoesU w 6 #[] (.bool true)) := Lib.hid fun W hW => lalive16 W (hE.below hW)
  go_enter Tryz.func4, Tryz.ntmps4
  go_wp2_with fail
  refine (HA.out _ (by first | exact Below.refl _ _ | (go_grown; done))).mono ?_; rintro e w1 ⟨rfl, hb⟩
  have hh0 : w1.heap[w.heap.size]? = some (.cells #[.int .u8 ka, .string nma, .string txa, .int .i64 na, .int .i64 ma] 23 (0, 0)) := (hb.block _ (by first | omega | (simp; done) | (simp; omega))).trans (heap_old (o' := (.cells #[.int .u8 kc, .string nmc, .string txc, .int .i64 nc, .int .i64 mc] 23 (0, 0))) (heap_old (o' := (.cells #[.int .u8 kb, .string nmb, .string txb, .int .i64 nb, .int .i64 mb] 23 (0, 0))) (heap_new _ _ _ (by first | rfl | simp))))
  have hh1 : w1.heap[w.heap.size + 1]? = some (.cells #[.int .u8 kb, .string nmb, .string txb, .int .i64 nb, .int .i64 mb] 23 (0, 0)) := (hb.block _ (by first | omega | (simp; done) | (simp; omega))).trans (heap_old (o' := (.cells #[.int .u8 kc, .string nmc, .string txc, .int .i64 nc, .int .i64 mc] 23 (0, 0))) (heap_new _ _ _ (by first | rfl | simp)))
  have hh2 : w1.heap[w.heap.size + 1 + 1]? = some (.cells #[.int .u8 kc, .string nmc, .string txc, .int .i64 nc, .int .i64 mc] 23 (0, 0)) := (hb.block _ (by first | omega | (simp; done) | (simp; omega))).trans (heap_new _ _ _ (by first | rfl | simp))
  have hbw1 : Below w.heap.size w w1 := (show Below w.heap.size w _ by first | exact Below.refl _ _ | (go_grown; done)).trans (hb.mono (by first | omega | (simp; done) | (simp; omega)))
  clear hb
  have HH0_1 := Lib.hid hh0
  have lt0 := heap_lt hh0
  have c0_0 : w1.cell? ⟨w.heap.size, 0, none⟩ = some (.int .u8 ka) := by rw [Lib.cell_of_heap hh0]; rfl
  have c0_1 : w1.cell? ⟨w.heap.size, 1, none⟩ = some (.string nma) := by rw [Lib.cell_of_heap hh0]; rfl
  have c0_2 : w1.cell? ⟨w.heap.size, 2, none⟩ = some (.string txa) := by rw [Lib.cell_of_heap hh0]; rfl
  have c0_3 : w1.cell? ⟨w.heap.size, 3, none⟩ = some (.int .i64 na) := by rw [Lib.cell_of_heap hh0]; rfl
  have c0_4 : w1.cell? ⟨w.heap.size, 4, none⟩ = some (.int .i64 ma) := by rw [Lib.cell_of_heap hh0]; rfl
  clear hh0
  have HH1_1 := Lib.hid hh1
  have lt1 := heap_lt hh1
  have c1_0 : w1.cell? ⟨w.heap.size + 1, 0, none⟩ = some (.int .u8 kb) := by rw [Lib.cell_of_heap hh1]; rfl
  have c1_1 : w1.cell? ⟨w.heap.size + 1, 1, none⟩ = some (.string nmb) := by rw [Lib.cell_of_heap hh1]; rfl
  have c1_2 : w1.cell? ⟨w.heap.size + 1, 2, none⟩ = some (.string txb) := by rw [Lib.cell_of_heap hh1]; rfl
  have c1_3 : w1.cell? ⟨w.heap.size + 1, 3, none⟩ = some (.int .i64 nb) := by rw [Lib.cell_of_heap hh1]; rfl
  have c1_4 : w1.cell? ⟨w.heap.size + 1, 4, none⟩ = some (.int .i64 mb) := by rw [Lib.cell_of_heap hh1]; rfl
  clear hh1
  have HH2_1 := Lib.hid hh2
  have lt2 := heap_lt hh2
  have c2_0 : w1.cell? ⟨w.heap.size + 1 + 1, 0, none⟩ = some (.int .u8 kc) := by rw [Lib.cell_of_heap hh2]; rfl
  have c2_1 : w1.cell? ⟨w.heap.size + 1 + 1, 1, none⟩ = some (.string nmc) := by rw [Lib.cell_of_heap hh2]; rfl
  have c2_2 : w1.cell? ⟨w.heap.size + 1 + 1, 2, none⟩ = some (.string txc) := by rw [Lib.cell_of_heap hh2]; rfl
  have c2_3 : w1.cell? ⟨w.heap.size + 1 + 1, 3, none⟩ = some (.int .i64 nc) := by rw [Lib.cell_of_heap hh2]; rfl
  have c2_4 : w1.cell? ⟨w.heap.size + 1 + 1, 4, none⟩ = some (.int .i64 mc) := by rw [Lib.cell_of_heap hh2]; rfl
  clear hh2
  have sz1 := hbw1.size
  have HW1 := Lib.hid hbw1
  go_wp2_with fail
  refine (HG.out _ (by first | exact HW1.out | exact HW1.out.trans ⟨rfl, rfl, rfl, Nat.le_refl _, fun _ _ => rfl⟩ | (go_grown; done))).mono ?_; rintro e w2 ⟨rfl, hb⟩
  have hv0 := HH0_1.out
  have hh0 : w2.heap[w.heap.size]? = some (.cells #[.int .u8 ka, .string nma, .string txa, .int .i64 na, .int .i64 ma] 23 (0, 0)) := (hb.block _ (heap_lt hv0)).trans hv0
  clear hv0
  have hv1 := HH1_1.out
  have hh1 : w2.heap[w.heap.size + 1]? = some (.cells #[.int .u8 kb, .string nmb, .string txb, .int .i64 nb, .int .i64 mb] 23 (0, 0)) := (hb.block _ (heap_lt hv1)).trans hv1
  clear hv1
  have hv2 := HH2_1.out
  have hh2 : w2.heap[w.heap.size + 1 + 1]? = some (.cells #[.int .u8 kc, .string nmc, .string txc, .int .i64 nc, .int .i64 mc] 23 (0, 0)) := (hb.block _ (heap_lt hv2)).trans hv2
  clear hv2
  have hbw2 : Below w.heap.size w w2 := (show Below w.heap.size w _ by first | exact HW1.out.trans ⟨rfl, rfl, rfl, Nat.le_refl _, fun _ _ => rfl⟩ | exact HW1.out | (go_grown; done)).trans (hb.mono (by first | omega | (simp; done) | (simp; omega)))
  clear hb lt0 c0_0 c0_1 c0_2 c0_3 c0_4 lt1 c1_0 c1_1 c1_2 c1_3 c1_4 lt2 c2_0 c2_1 c2_2 c2_3 c2_4 hbw1
  have HH0_2 := Lib.hid hh0
  have lt0 := heap_lt hh0
  have c0_0 : w2.cell? ⟨w.heap.size, 0, none⟩ = some (.int .u8 ka) := by rw [Lib.cell_of_heap hh0]; rfl
  have c0_1 : w2.cell? ⟨w.heap.size, 1, none⟩ = some (.string nma) := by rw [Lib.cell_of_heap hh0]; rfl
  have c0_2 : w2.cell? ⟨w.heap.size, 2, none⟩ = some (.string txa) := by rw [Lib.cell_of_heap hh0]; rfl
  have c0_3 : w2.cell? ⟨w.heap.size, 3, none⟩ = some (.int .i64 na) := by rw [Lib.cell_of_heap hh0]; rfl
  have c0_4 : w2.cell? ⟨w.heap.size, 4, none⟩ = some (.int .i64 ma) := by rw [Lib.cell_of_heap hh0]; rfl
  clear hh0
  have HH1_2 := Lib.hid hh1
  have lt1 := heap_lt hh1
  have c1_0 : w2.cell? ⟨w.heap.size + 1, 0, none⟩ = some (.int .u8 kb) := by rw [Lib.cell_of_heap hh1]; rfl
  have c1_1 : w2.cell? ⟨w.heap.size + 1, 1, none⟩ = some (.string nmb) := by rw [Lib.cell_of_heap hh1]; rfl
  have c1_2 : w2.cell? ⟨w.heap.size + 1, 2, none⟩ = some (.string txb) := by rw [Lib.cell_of_heap hh1]; rfl
  have c1_3 : w2.cell? ⟨w.heap.size + 1, 3, none⟩ = some (.int .i64 nb) := by rw [Lib.cell_of_heap hh1]; rfl
  have c1_4 : w2.cell? ⟨w.heap.size + 1, 4, none⟩ = some (.int .i64 mb) := by rw [Lib.cell_of_heap hh1]; rfl
  clear hh1
  have HH2_2 := Lib.hid hh2
  have lt2 := heap_lt hh2
  have c2_0 : w2.cell? ⟨w.heap.size + 1 + 1, 0, none⟩ = some (.int .u8 kc) := by rw [Lib.cell_of_heap hh2]; rfl
  have c2_1 : w2.cell? ⟨w.heap.size + 1 + 1, 1, none⟩ = some (.string nmc) := by rw [Lib.cell_of_heap hh2]; rfl
  have c2_2 : w2.cell? ⟨w.heap.size + 1 + 1, 2, none⟩ = some (.string txc) := by rw [Lib.cell_of_heap hh2]; rfl
  have c2_3 : w2.cell? ⟨w.heap.size + 1 + 1, 3, none⟩ = some (.int .i64 nc) := by rw [Lib.cell_of_heap hh2]; rfl
  have c2_4 : w2.cell? ⟨w.heap.size + 1 + 1, 4, none⟩ = some (.int .i64 mc) := by rw [Lib.cell_of_heap hh2]; rfl
  clear hh2
  have sz2 := hbw2.size
  have HW2 := Lib.hid hbw2
  go_wp2_with fail
  refine (HH.out _ (by first | exact HW2.out | exact HW2.out.trans ⟨rfl, rfl, rfl, Nat.le_refl _, fun _ _ => rfl⟩ | (go_grown; done))).mono ?_; rintro e w3 ⟨rfl, hb⟩
  have hv0 := HH0_2.out
  have hh0 : w3.heap[w.heap.size]? = some (.cells #[.int .u8 ka, .string nma, .string txa, .int .i64 na, .int .i64 ma] 23 (0, 0)) := (hb.block _ (heap_lt hv0)).trans hv0
  clear hv0
  have hv1 := HH1_2.out
  have hh1 : w3.heap[w.heap.size + 1]? = some (.cells #[.int .u8 kb, .string nmb, .string txb, .int .i64 nb, .int .i64 mb] 23 (0, 0)) := (hb.block _ (heap_lt hv1)).trans hv1
  clear hv1
  have hv2 := HH2_2.out
  have hh2 : w3.heap[w.heap.size + 1 + 1]? = some (.cells #[.int .u8 kc, .string nmc, .string txc, .int .i64 nc, .int .i64 mc] 23 (0, 0)) := (hb.block _ (heap_lt hv2)).trans hv2
  clear hv2
  have hbw3 : Below w.heap.size w w3 := (show Below w.heap.size w _ by first | exact HW2.out.trans ⟨rfl, rfl, rfl, Nat.le_refl _, fun _ _ => rfl⟩ | exact HW2.out | (go_grown; done)).trans (hb.mono (by first | omega | (simp; done) | (simp; omega)))
  clear hb lt0 c0_0 c0_1 c0_2 c0_3 c0_4 lt1 c1_0 c1_1 c1_2 c1_3 c1_4 lt2 c2_0 c2_1 c2_2 c2_3 c2_4 hbw2
  have HH0_3 := Lib.hid hh0
  have lt0 := heap_lt hh0
  have c0_0 : w3.cell? ⟨w.heap.size, 0, none⟩ = some (.int .u8 ka) := by rw [Lib.cell_of_heap hh0]; rfl
  have c0_1 : w3.cell? ⟨w.heap.size, 1, none⟩ = some (.string nma) := by rw [Lib.cell_of_heap hh0]; rfl
  have c0_2 : w3.cell? ⟨w.heap.size, 2, none⟩ = some (.string txa) := by rw [Lib.cell_of_heap hh0]; rfl
  have c0_3 : w3.cell? ⟨w.heap.size, 3, none⟩ = some (.int .i64 na) := by rw [Lib.cell_of_heap hh0]; rfl
  have c0_4 : w3.cell? ⟨w.heap.size, 4, none⟩ = some (.int .i64 ma) := by rw [Lib.cell_of_heap hh0]; rfl
  clear hh0
  have HH1_3 := Lib.hid hh1
  have lt1 := heap_lt hh1
  have c1_0 : w3.cell? ⟨w.heap.size + 1, 0, none⟩ = some (.int .u8 kb) := by rw [Lib.cell_of_heap hh1]; rfl
  have c1_1 : w3.cell? ⟨w.heap.size + 1, 1, none⟩ = some (.string nmb) := by rw [Lib.cell_of_heap hh1]; rfl
  have c1_2 : w3.cell? ⟨w.heap.size + 1, 2, none⟩ = some (.string txb) := by rw [Lib.cell_of_heap hh1]; rfl
  have c1_3 : w3.cell? ⟨w.heap.size + 1, 3, none⟩ = some (.int .i64 nb) := by rw [Lib.cell_of_heap hh1]; rfl
  have c1_4 : w3.cell? ⟨w.heap.size + 1, 4, none⟩ = some (.int .i64 mb) := by rw [Lib.cell_of_heap hh1]; rfl
  clear hh1
  have HH2_3 := Lib.hid hh2
  have lt2 := heap_lt hh2
  have c2_0 : w3.cell? ⟨w.heap.size + 1 + 1, 0, none⟩ = some (.int .u8 kc) := by rw [Lib.cell_of_heap hh2]; rfl
  have c2_1 : w3.cell? ⟨w.heap.size + 1 + 1, 1, none⟩ = some (.string nmc) := by rw [Lib.cell_of_heap hh2]; rfl
  have c2_2 : w3.cell? ⟨w.heap.size + 1 + 1, 2, none⟩ = some (.string txc) := by rw [Lib.cell_of_heap hh2]; rfl
  have c2_3 : w3.cell? ⟨w.heap.size + 1 + 1, 3, none⟩ = some (.int .i64 nc) := by rw [Lib.cell_of_heap hh2]; rfl
  have c2_4 : w3.cell? ⟨w.heap.size + 1 + 1, 4, none⟩ = some (.int .i64 mc) := by rw [Lib.cell_of_heap hh2]; rfl
  clear hh2
  have sz3 := hbw3.size
  have HW3 := Lib.hid hbw3
  go_wp2_with fail
  refine (H1.out _ (by first | exact HW3.out | exact HW3.out.trans ⟨rfl, rfl, rfl, Nat.le_refl _, fun _ _ => rfl⟩ | (go_grown; done))).mono ?_; rintro e w4 ⟨rfl, hb⟩
  have hv0 := HH0_3.out
  have hh0 : w4.heap[w.heap.size]? = some (.cells #[.int .u8 ka, .string nma, .string txa, .int .i64 na, .int .i64 ma] 23 (0, 0)) := (hb.block _ (heap_lt hv0)).trans hv0
  clear hv0
  have hv1 := HH1_3.out
  have hh1 : w4.heap[w.heap.size + 1]? = some (.cells #[.int .u8 kb, .string nmb, .string txb, .int .i64 nb, .int .i64 mb] 23 (0, 0)) := (hb.block _ (heap_lt hv1)).trans hv1
  clear hv1
  have hv2 := HH2_3.out
  have hh2 : w4.heap[w.heap.size + 1 + 1]? = some (.cells #[.int .u8 kc, .string nmc, .string txc, .int .i64 nc, .int .i64 mc] 23 (0, 0)) := (hb.block _ (heap_lt hv2)).trans hv2
  clear hv2
  have hbw4 : Below w.heap.size w w4 := (show Below w.heap.size w _ by first | exact HW3.out.trans ⟨rfl, rfl, rfl, Nat.le_refl _, fun _ _ => rfl⟩ | exact HW3.out | (go_grown; done)).trans (hb.mono (by first | omega | (simp; done) | (simp; omega)))
  clear hb lt0 c0_0 c0_1 c0_2 c0_3 c0_4 lt1 c1_0 c1_1 c1_2 c1_3 c1_4 lt2 c2_0 c2_1 c2_2 c2_3 c2_4 hbw3
  have HH0_4 := Lib.hid hh0
  have lt0 := heap_lt hh0
  have c0_0 : w4.cell? ⟨w.heap.size, 0, none⟩ = some (.int .u8 ka) := by rw [Lib.cell_of_heap hh0]; rfl
  have c0_1 : w4.cell? ⟨w.heap.size, 1, none⟩ = some (.string nma) := by rw [Lib.cell_of_heap hh0]; rfl
  have c0_2 : w4.cell? ⟨w.heap.size, 2, none⟩ = some (.string txa) := by rw [Lib.cell_of_heap hh0]; rfl
  have c0_3 : w4.cell? ⟨w.heap.size, 3, none⟩ = some (.int .i64 na) := by rw [Lib.cell_of_heap hh0]; rfl
  have c0_4 : w4.cell? ⟨w.heap.size, 4, none⟩ = some (.int .i64 ma) := by rw [Lib.cell_of_heap hh0]; rfl
  clear hh0
  have HH1_4 := Lib.hid hh1
  have lt1 := heap_lt hh1
  have c1_0 : w4.cell? ⟨w.heap.size + 1, 0, none⟩ = some (.int .u8 kb) := by rw [Lib.cell_of_heap hh1]; rfl
  have c1_1 : w4.cell? ⟨w.heap.size + 1, 1, none⟩ = some (.string nmb) := by rw [Lib.cell_of_heap hh1]; rfl
  have c1_2 : w4.cell? ⟨w.heap.size + 1, 2, none⟩ = some (.string txb) := by rw [Lib.cell_of_heap hh1]; rfl
  have c1_3 : w4.cell? ⟨w.heap.size + 1, 3, none⟩ = some (.int .i64 nb) := by rw [Lib.cell_of_heap hh1]; rfl
  have c1_4 : w4.cell? ⟨w.heap.size + 1, 4, none⟩ = some (.int .i64 mb) := by rw [Lib.cell_of_heap hh1]; rfl
  clear hh1
  have HH2_4 := Lib.hid hh2
  have lt2 := heap_lt hh2
  have c2_0 : w4.cell? ⟨w.heap.size + 1 + 1, 0, none⟩ = some (.int .u8 kc) := by rw [Lib.cell_of_heap hh2]; rfl
  have c2_1 : w4.cell? ⟨w.heap.size + 1 + 1, 1, none⟩ = some (.string nmc) := by rw [Lib.cell_of_heap hh2]; rfl
  have c2_2 : w4.cell? ⟨w.heap.size + 1 + 1, 2, none⟩ = some (.string txc) := by rw [Lib.cell_of_heap hh2]; rfl
  have c2_3 : w4.cell? ⟨w.heap.size + 1 + 1, 3, none⟩ = some (.int .i64 nc) := by rw [Lib.cell_of_heap hh2]; rfl
  have c2_4 : w4.cell? ⟨w.heap.size + 1 + 1, 4, none⟩ = some (.int .i64 mc) := by rw [Lib.cell_of_heap hh2]; rfl
  clear hh2
  have sz4 := hbw4.size
  have HW4 := Lib.hid hbw4
  go_wp2_with fail
  refine (H2.out _ (by first | exact HW4.out | exact HW4.out.trans ⟨rfl, rfl, rfl, Nat.le_refl _, fun _ _ => rfl⟩ | (go_grown; done))).mono ?_; rintro e w5 ⟨rfl, hb⟩
  have hv0 := HH0_4.out
  have hh0 : w5.heap[w.heap.size]? = some (.cells #[.int .u8 ka, .string nma, .string txa, .int .i64 na, .int .i64 ma] 23 (0, 0)) := (hb.block _ (heap_lt hv0)).trans hv0
  clear hv0
  have hv1 := HH1_4.out
  have hh1 : w5.heap[w.heap.size + 1]? = some (.cells #[.int .u8 kb, .string nmb, .string txb, .int .i64 nb, .int .i64 mb] 23 (0, 0)) := (hb.block _ (heap_lt hv1)).trans hv1
  clear hv1
  have hv2 := HH2_4.out
  have hh2 : w5.heap[w.heap.size + 1 + 1]? = some (.cells #[.int .u8 kc, .string nmc, .string txc, .int .i64 nc, .int .i64 mc] 23 (0, 0)) := (hb.block _ (heap_lt hv2)).trans hv2
  clear hv2
  have hbw5 : Below w.heap.size w w5 := (show Below w.heap.size w _ by first | exact HW4.out.trans ⟨rfl, rfl, rfl, Nat.le_refl _, fun _ _ => rfl⟩ | exact HW4.out | (go_grown; done)).trans (hb.mono (by first | omega | (simp; done) | (simp; omega)))
  clear hb lt0 c0_0 c0_1 c0_2 c0_3 c0_4 lt1 c1_0 c1_1 c1_2 c1_3 c1_4 lt2 c2_0 c2_1 c2_2 c2_3 c2_4 hbw4
  have HH0_5 := Lib.hid hh0
  have lt0 := heap_lt hh0
  have c0_0 : w5.cell? ⟨w.heap.size, 0, none⟩ = some (.int .u8 ka) := by rw [Lib.cell_of_heap hh0]; rfl
  have c0_1 : w5.cell? ⟨w.heap.size, 1, none⟩ = some (.string nma) := by rw [Lib.cell_of_heap hh0]; rfl
  have c0_2 : w5.cell? ⟨w.heap.size, 2, none⟩ = some (.string txa) := by rw [Lib.cell_of_heap hh0]; rfl
  have c0_3 : w5.cell? ⟨w.heap.size, 3, none⟩ = some (.int .i64 na) := by rw [Lib.cell_of_heap hh0]; rfl
  have c0_4 : w5.cell? ⟨w.heap.size, 4, none⟩ = some (.int .i64 ma) := by rw [Lib.cell_of_heap hh0]; rfl
  clear hh0
  have HH1_5 := Lib.hid hh1
  have lt1 := heap_lt hh1
  have c1_0 : w5.cell? ⟨w.heap.size + 1, 0, none⟩ = some (.int .u8 kb) := by rw [Lib.cell_of_heap hh1]; rfl
  have c1_1 : w5.cell? ⟨w.heap.size + 1, 1, none⟩ = some (.string nmb) := by rw [Lib.cell_of_heap hh1]; rfl
  have c1_2 : w5.cell? ⟨w.heap.size + 1, 2, none⟩ = some (.string txb) := by rw [Lib.cell_of_heap hh1]; rfl
  have c1_3 : w5.cell? ⟨w.heap.size + 1, 3, none⟩ = some (.int .i64 nb) := by rw [Lib.cell_of_heap hh1]; rfl
  have c1_4 : w5.cell? ⟨w.heap.size + 1, 4, none⟩ = some (.int .i64 mb) := by rw [Lib.cell_of_heap hh1]; rfl
  clear hh1
  have HH2_5 := Lib.hid hh2
  have lt2 := heap_lt hh2
  have c2_0 : w5.cell? ⟨w.heap.size + 1 + 1, 0, none⟩ = some (.int .u8 kc) := by rw [Lib.cell_of_heap hh2]; rfl
  have c2_1 : w5.cell? ⟨w.heap.size + 1 + 1, 1, none⟩ = some (.string nmc) := by rw [Lib.cell_of_heap hh2]; rfl
  have c2_2 : w5.cell? ⟨w.heap.size + 1 + 1, 2, none⟩ = some (.string txc) := by rw [Lib.cell_of_heap hh2]; rfl
  have c2_3 : w5.cell? ⟨w.heap.size + 1 + 1, 3, none⟩ = some (.int .i64 nc) := by rw [Lib.cell_of_heap hh2]; rfl
  have c2_4 : w5.cell? ⟨w.heap.size + 1 + 1, 4, none⟩ = some (.int .i64 mc) := by rw [Lib.cell_of_heap hh2]; rfl
  clear hh2
  have sz5 := hbw5.size
  have HW5 := Lib.hid hbw5
  go_wp2_with fail
  refine (H3.out _ (by first | exact HW5.out | exact HW5.out.trans ⟨rfl, rfl, rfl, Nat.le_refl _, fun _ _ => rfl⟩ | (go_grown; done))).mono ?_; rintro e w6 ⟨rfl, hb⟩
  have hv0 := HH0_5.out
  have hh0 : w6.heap[w.heap.size]? = some (.cells #[.int .u8 ka, .string nma, .string txa, .int .i64 na, .int .i64 ma] 23 (0, 0)) := (hb.block _ (heap_lt hv0)).trans hv0
  clear hv0
  have hv1 := HH1_5.out
  have hh1 : w6.heap[w.heap.size + 1]? = some (.cells #[.int .u8 kb, .string nmb, .string txb, .int .i64 nb, .int .i64 mb] 23 (0, 0)) := (hb.block _ (heap_lt hv1)).trans hv1
  clear hv1
  have hv2 := HH2_5.out
  have hh2 : w6.heap[w.heap.size + 1 + 1]? = some (.cells #[.int .u8 kc, .string nmc, .string txc, .int .i64 nc, .int .i64 mc] 23 (0, 0)) := (hb.block _ (heap_lt hv2)).trans hv2
  clear hv2
  have hbw6 : Below w.heap.size w w6 := (show Below w.heap.size w _ by first | exact HW5.out.trans ⟨rfl, rfl, rfl, Nat.le_refl _, fun _ _ => rfl⟩ | exact HW5.out | (go_grown; done)).trans (hb.mono (by first | omega | (simp; done) | (simp; omega)))
  clear hb lt0 c0_0 c0_1 c0_2 c0_3 c0_4 lt1 c1_0 c1_1 c1_2 c1_3 c1_4 lt2 c2_0 c2_1 c2_2 c2_3 c2_4 hbw5
  have HH0_6 := Lib.hid hh0
  have lt0 := heap_lt hh0
  have c0_0 : w6.cell? ⟨w.heap.size, 0, none⟩ = some (.int .u8 ka) := by rw [Lib.cell_of_heap hh0]; rfl
  have c0_1 : w6.cell? ⟨w.heap.size, 1, none⟩ = some (.string nma) := by rw [Lib.cell_of_heap hh0]; rfl
  have c0_2 : w6.cell? ⟨w.heap.size, 2, none⟩ = some (.string txa) := by rw [Lib.cell_of_heap hh0]; rfl
  have c0_3 : w6.cell? ⟨w.heap.size, 3, none⟩ = some (.int .i64 na) := by rw [Lib.cell_of_heap hh0]; rfl
  have c0_4 : w6.cell? ⟨w.heap.size, 4, none⟩ = some (.int .i64 ma) := by rw [Lib.cell_of_heap hh0]; rfl
  clear hh0
  have HH1_6 := Lib.hid hh1
  have lt1 := heap_lt hh1
  have c1_0 : w6.cell? ⟨w.heap.size + 1, 0, none⟩ = some (.int .u8 kb) := by rw [Lib.cell_of_heap hh1]; rfl
  have c1_1 : w6.cell? ⟨w.heap.size + 1, 1, none⟩ = some (.string nmb) := by rw [Lib.cell_of_heap hh1]; rfl
  have c1_2 : w6.cell? ⟨w.heap.size + 1, 2, none⟩ = some (.string txb) := by rw [Lib.cell_of_heap hh1]; rfl
  have c1_3 : w6.cell? ⟨w.heap.size + 1, 3, none⟩ = some (.int .i64 nb) := by rw [Lib.cell_of_heap hh1]; rfl
  have c1_4 : w6.cell? ⟨w.heap.size + 1, 4, none⟩ = some (.int .i64 mb) := by rw [Lib.cell_of_heap hh1]; rfl
  clear hh1
  have HH2_6 := Lib.hid hh2
  have lt2 := heap_lt hh2
  have c2_0 : w6.cell? ⟨w.heap.size + 1 + 1, 0, none⟩ = some (.int .u8 kc) := by rw [Lib.cell_of_heap hh2]; rfl
  have c2_1 : w6.cell? ⟨w.heap.size + 1 + 1, 1, none⟩ = some (.string nmc) := by rw [Lib.cell_of_heap hh2]; rfl
  have c2_2 : w6.cell? ⟨w.heap.size + 1 + 1, 2, none⟩ = some (.string txc) := by rw [Lib.cell_of_heap hh2]; rfl
  have c2_3 : w6.cell? ⟨w.heap.size + 1 + 1, 3, none⟩ = some (.int .i64 nc) := by rw [Lib.cell_of_heap hh2]; rfl
  have c2_4 : w6.cell? ⟨w.heap.size + 1 + 1, 4, none⟩ = some (.int .i64 mc) := by rw [Lib.cell_of_heap hh2]; rfl
  clear hh2
  have sz6 := hbw6.size
  have HW6 := Lib.hid hbw6
  go_wp2_with fail
  refine (H4.out _ (by first | exact HW6.out | exact HW6.out.trans ⟨rfl, rfl, rfl, Nat.le_refl _, fun _ _ => rfl⟩ | (go_grown; done))).mono ?_; rintro e w7 ⟨rfl, hb⟩
  have hv0 := HH0_6.out
  have hh0 : w7.heap[w.heap.size]? = some (.cells #[.int .u8 ka, .string nma, .string txa, .int .i64 na, .int .i64 ma] 23 (0, 0)) := (hb.block _ (heap_lt hv0)).trans hv0
  clear hv0
  have hv1 := HH1_6.out
  have hh1 : w7.heap[w.heap.size + 1]? = some (.cells #[.int .u8 kb, .string nmb, .string txb, .int .i64 nb, .int .i64 mb] 23 (0, 0)) := (hb.block _ (heap_lt hv1)).trans hv1
  clear hv1
  have hv2 := HH2_6.out
  have hh2 : w7.heap[w.heap.size + 1 + 1]? = some (.cells #[.int .u8 kc, .string nmc, .string txc, .int .i64 nc, .int .i64 mc] 23 (0, 0)) := (hb.block _ (heap_lt hv2)).trans hv2
  clear hv2
  have hbw7 : Below w.heap.size w w7 := (show Below w.heap.size w _ by first | exact HW6.out.trans ⟨rfl, rfl, rfl, Nat.le_refl _, fun _ _ => rfl⟩ | exact HW6.out | (go_grown; done)).trans (hb.mono (by first | omega | (simp; done) | (simp; omega)))
  clear hb lt0 c0_0 c0_1 c0_2 c0_3 c0_4 lt1 c1_0 c1_1 c1_2 c1_3 c1_4 lt2 c2_0 c2_1 c2_2 c2_3 c2_4 hbw6
  have HH0_7 := Lib.hid hh0
  have lt0 := heap_lt hh0
  have c0_0 : w7.cell? ⟨w.heap.size, 0, none⟩ = some (.int .u8 ka) := by rw [Lib.cell_of_heap hh0]; rfl
  have c0_1 : w7.cell? ⟨w.heap.size, 1, none⟩ = some (.string nma) := by rw [Lib.cell_of_heap hh0]; rfl
  have c0_2 : w7.cell? ⟨w.heap.size, 2, none⟩ = some (.string txa) := by rw [Lib.cell_of_heap hh0]; rfl
  have c0_3 : w7.cell? ⟨w.heap.size, 3, none⟩ = some (.int .i64 na) := by rw [Lib.cell_of_heap hh0]; rfl
  have c0_4 : w7.cell? ⟨w.heap.size, 4, none⟩ = some (.int .i64 ma) := by rw [Lib.cell_of_heap hh0]; rfl
  clear hh0
  have HH1_7 := Lib.hid hh1
  have lt1 := heap_lt hh1
  have c1_0 : w7.cell? ⟨w.heap.size + 1, 0, none⟩ = some (.int .u8 kb) := by rw [Lib.cell_of_heap hh1]; rfl
  have c1_1 : w7.cell? ⟨w.heap.size + 1, 1, none⟩ = some (.string nmb) := by rw [Lib.cell_of_heap hh1]; rfl
  have c1_2 : w7.cell? ⟨w.heap.size + 1, 2, none⟩ = some (.string txb) := by rw [Lib.cell_of_heap hh1]; rfl
  have c1_3 : w7.cell? ⟨w.heap.size + 1, 3, none⟩ = some (.int .i64 nb) := by rw [Lib.cell_of_heap hh1]; rfl
  have c1_4 : w7.cell? ⟨w.heap.size + 1, 4, none⟩ = some (.int .i64 mb) := by rw [Lib.cell_of_heap hh1]; rfl
  clear hh1
  have HH2_7 := Lib.hid hh2
  have lt2 := heap_lt hh2
  have c2_0 : w7.cell? ⟨w.heap.size + 1 + 1, 0, none⟩ = some (.int .u8 kc) := by rw [Lib.cell_of_heap hh2]; rfl
  have c2_1 : w7.cell? ⟨w.heap.size + 1 + 1, 1, none⟩ = some (.string nmc) := by rw [Lib.cell_of_heap hh2]; rfl
  have c2_2 : w7.cell? ⟨w.heap.size + 1 + 1, 2, none⟩ = some (.string txc) := by rw [Lib.cell_of_heap hh2]; rfl
  have c2_3 : w7.cell? ⟨w.heap.size + 1 + 1, 3, none⟩ = some (.int .i64 nc) := by rw [Lib.cell_of_heap hh2]; rfl
  have c2_4 : w7.cell? ⟨w.heap.size + 1 + 1, 4, none⟩ = some (.int .i64 mc) := by rw [Lib.cell_of_heap hh2]; rfl
  clear hh2
  have sz7 := hbw7.size
  have HW7 := Lib.hid hbw7
  by_cases he : e = 0
  · subst he
    replace hq0 := hq0 rfl
    by_cases hg : g = 0
    · subst hg
      by_cases hh : h = 0
      · subst hh
        replace ht := ht rfl rfl
        rcases hab with ⟨rfl, rfl⟩ | ⟨rfl, rfl⟩ | ⟨rfl, rfl⟩
        · replace hq0 : q = false := hq0
          subst hq0
          rcases hbc with rfl | rfl | rfl
          · replace ht : ac = -1 := ht (by omega) (by omega)
            subst ht
            (go_wp2_with fail; go_ret; exact ⟨rfl, by first | exact HW7.out | (go_grown; done)⟩)
          · replace ht : ac = -1 := ht (by omega) (by omega)
            subst ht
            (go_wp2_with fail; go_ret; exact ⟨rfl, by first | exact HW7.out | (go_grown; done)⟩)
          · clear ht
            (go_wp2_with fail; go_ret; exact ⟨rfl, by first | exact HW7.out | (go_grown; done)⟩)
        · replace hq0 : q = true := hq0
          subst hq0
          rcases hbc with rfl | rfl | rfl
          · replace ht : ac = -1 := ht (by omega) (by omega)
            subst ht
            (go_wp2_with fail; go_ret; exact ⟨rfl, by first | exact HW7.out | (go_grown; done)⟩)
          · replace ht : ac = 0 := ht (by omega) (by omega)
            subst ht
            (go_wp2_with fail; go_ret; exact ⟨rfl, by first | exact HW7.out | (go_grown; done)⟩)
          · clear ht
            (go_wp2_with fail; go_ret; exact ⟨rfl, by first | exact HW7.out | (go_grown; done)⟩)
        · replace hq0 : q = false := hq0
          subst hq0
          clear ht
          (go_wp2_with fail; go_ret; exact ⟨rfl, by first | exact HW7.out | (go_grown; done)⟩)
      · have hh' : (h != 0) = true := by simpa using hh
        clear ht
        rcases hab with ⟨rfl, rfl⟩ | ⟨rfl, rfl⟩ | ⟨rfl, rfl⟩
        · replace hq0 : q = false := hq0
          subst hq0
          (go_wp2_with fail; go_ret; exact ⟨rfl, by first | exact HW7.out | (go_grown; done)⟩)
        · replace hq0 : q = true := hq0
          subst hq0
          (go_wp2_with fail; go_ret; exact ⟨rfl, by first | exact HW7.out | (go_grown; done)⟩)
        · replace hq0 : q = false := hq0
          subst hq0
          (go_wp2_with fail; go_ret; exact ⟨rfl, by first | exact HW7.out | (go_grown; done)⟩)
    · have hg' : (g != 0) = true := by simpa using hg
      clear ht
      rcases hab with ⟨rfl, rfl⟩ | ⟨rfl, rfl⟩ | ⟨rfl, rfl⟩
      · replace hq0 : q = false := hq0
        subst hq0
        (go_wp2_with fail; go_ret; exact ⟨rfl, by first | exact HW7.out | (go_grown; done)⟩)
      · replace hq0 : q = true := hq0
        subst hq0
        (go_wp2_with fail; go_ret; exact ⟨rfl, by first | exact HW7.out | (go_grown; done)⟩)
      · replace hq0 : q = false := hq0
        subst hq0
        (go_wp2_with fail; go_ret; exact ⟨rfl, by first | exact HW7.out | (go_grown; done)⟩)
  · have he' : (e != 0) = true := by simpa using he
    have he2 : (e == 0) = false := by simpa using he
    clear ht hq0
    rcases hab with ⟨rfl, rfl⟩ | ⟨rfl, rfl⟩ | ⟨rfl, rfl⟩
    · (go_wp2_with fail; go_ret; exact ⟨rfl, by first | exact HW7.out | (go_grown; done)⟩)
    · (go_wp2_with fail; go_ret; exact ⟨rfl, by first | exact HW7.out | (go_grown; done)⟩)
    · (go_wp2_with fail; go_ret; exact ⟨rfl, by first | exact HW7.out | (go_grown; done)⟩)
theorem cl_ext {a b : Cl} (h1 : a.k = b.k) (h2 : a.nm = b.nm) (h3 : a.tx = b.tx) (h4 : a.n = b.n) (h5 : a.m = b.m) : a = b := by
  obtain ⟨ak, anm, atx, an, am⟩ := a
  obtain ⟨bk, bnm, btx, bn, bm⟩ := b
  dsimp only at h1 h2 h3 h4 h5
  rw [h1, h2, h3, h4, h5]
theorem cell_eql' (a b : Cl) : ∃ q : Bool, (q = true ↔ a = b) ∧ ∀ w, (binOp .eql 23 (cellV a) (cellV b)).run Tryz.prog w = .ok (.bool q) w := by
  refine ⟨_, ?_, fun w => cell_eql a.k a.nm a.tx a.n a.m b.k b.nm b.tx b.n b.m w⟩
  constructor
  · intro h
    rw [Bool.and_eq_true, Bool.and_eq_true, Bool.and_eq_true, Bool.and_eq_true, beq_iff_eq, beq_iff_eq, beq_iff_eq, beq_iff_eq, beq_iff_eq] at h
    obtain ⟨h1, h2, h3, h4, h5⟩ := h
    exact cl_ext h1 (toL_inj h2) (toL_inj h3) h4 h5
  · rintro rfl
    simp only [beq_self_eq_true, Bool.and_self]
theorem order16_any (k : Int) (h0 : 0 ≤ k) (h1 : k ≤ 255) (a b c : Cl) (ha : (0 ≤ a.k ∧ a.k ≤ 255) ∧ R a.n ∧ R a.m) (hb : (0 ≤ b.k ∧ b.k ≤ 255) ∧ R b.n ∧ R b.m) (hc : (0 ≤ c.k ∧ c.k ≤ 255) ∧ R c.n ∧ R c.m) (w : World) (hE : EnvS w) :
    Calls Tryz.prog 4 #[.int .u8 k, cellV a, cellV b, cellV c] w fun e w' => e = .returned (.bool true) ∧ Below w.heap.size w w' := by
  have HG := great16_any a b w
  have HH := great16_any c c w
  by_cases g1 : 1000 < a.tx.size ∨ 1000 < b.tx.size
  · rw [decide_eq_true g1] at HG
    exact order16_ab _ _ _ _ _ _ _ _ _ _ _ _ _ _ _ _ w hE (Lib.hid HG)
  rw [decide_eq_false g1] at HG
  by_cases g2 : 1000 < c.tx.size ∨ 1000 < c.tx.size
  · rw [decide_eq_true g2] at HH
    exact order16_c _ _ _ _ _ _ _ _ _ _ _ _ _ _ _ _ w hE (Lib.hid HG) (Lib.hid HH)
  rw [decide_eq_false g2] at HH
  obtain ⟨V, E, H⟩ := cmp_all w hE k h0 h1
  have ba : BdC a := ⟨ha.1, by omega, ha.2⟩
  have bb : BdC b := ⟨hb.1, by omega, hb.2⟩
  have bc : BdC c := ⟨hc.1, by omega, hc.2⟩
  have H1 := H.does a b ba bb
  have H2 := H.does b a bb ba
  have H3 := H.does b c bb bc
  have H4 := H.does a c ba bc
  rw [H.comm] at H2
  obtain ⟨q, hq, hqr⟩ := cell_eql' a b
  refine order16_go k _ _ _ _ _ _ _ _ _ _ _ _ _ _ _ w hE (Lib.hid HG) (Lib.hid HH) _ _ _ _ _ _ _ q (Lib.hid H1) (Lib.hid H2) (Lib.hid H3) (Lib.hid H4) ?_ ?_ hqr ?_ (fun x y p q => H.thru a b c x y p q)
  · have := H.bd a b
    have := H.neg a b
    omega
  · have := H.bd b c
    omega
  · intro x
    have := H.zero a b x
    rw [Bool.eq_iff_iff, decide_eq_true_eq]
    exact hq.trans this.symm
end Go.Proofs.YtjhgiojmlkeccaaGreatDoor
namespace Go.Proofs.YtjhgiojmlkeccaaGreatDoor
open Go.RowKit Go.WideShapes Go.ChangeShapes Go.Joins Go.Deep
open Go.ChangeMaps (open_string shut_string)
theorem cells_cell : Tryz.prog.cellsOf 23 = 5 := by kernel_rfl
section
variable {H : Type} {enc : TypeId × Value → H} {P : Program} {w : World} {base : Nat} {spare : Nat → Bool} {held : Bool}
theorem open_agg5 {r : Reach} {b0 : Nat} {t : TypeId} {f0 f1 f2 f3 f4 : Field} {v : Value} {d : DataW H} {p : List MemPlace} (hs : P.underlying t = some (.struct #[f0, f1, f2, f3, f4])) (hone : oneCellFields P #[f0, f1, f2, f3, f4] = true) (hC : P.cellsOf t = 5)
    (hv : Value.okWide P w r b0 t v) (h : DataW.Trod enc P w base spare held t v d p) :
    ∃ (v0 v1 v2 v3 v4 : Value) (y0 y1 y2 y3 y4 : DataW H × List MemPlace) (n : Nat), v = .agg #[v0, v1, v2, v3, v4] ∧ d = .agg [y0.1, y1.1, y2.1, y3.1, y4.1] ∧ p = y0.2 ++ (y1.2 ++ (y2.2 ++ (y3.2 ++ (y4.2)))) ∧
      DataW.trod enc P w base spare held n f0.type [v0] = some y0 ∧ DataW.trod enc P w base spare held n f1.type [v1] = some y1 ∧ DataW.trod enc P w base spare held n f2.type [v2] = some y2 ∧ DataW.trod enc P w base spare held n f3.type [v3] = some y3 ∧ DataW.trod enc P w base spare held n f4.type [v4] = some y4 := by
  obtain ⟨cs, rfl, hsz⟩ := okWide_struct hs hv
  obtain ⟨l⟩ := cs
  match l, hsz.trans hC with
  | [c0, c1, c2, c3, c4], _ =>
    obtain ⟨fuel, hf⟩ := h
    obtain ⟨xs, n, _, hx, _, hlen, hg⟩ := DataW.trod_struct hs hf
    obtain ⟨o0, k0⟩ := hone_of hone 0 f0 rfl
    obtain ⟨o1, k1⟩ := hone_of hone 1 f1 rfl
    obtain ⟨o2, k2⟩ := hone_of hone 2 f2 rfl
    obtain ⟨o3, k3⟩ := hone_of hone 3 f3 rfl
    obtain ⟨o4, k4⟩ := hone_of hone 4 f4 rfl
    match xs, hlen with
    | [y0, y1, y2, y3, y4], _ =>
      simp only [Prod.mk.injEq] at hx
      exact ⟨c0, c1, c2, c3, c4, y0, y1, y2, y3, y4, n, rfl, by simpa using hx.1, by simpa using hx.2, by simpa [Value.cells, o0, k0] using hg 0 f0 rfl, by simpa [Value.cells, o1, k1] using hg 1 f1 rfl, by simpa [Value.cells, o2, k2] using hg 2 f2 rfl, by simpa [Value.cells, o3, k3] using hg 3 f3 rfl, by simpa [Value.cells, o4, k4] using hg 4 f4 rfl⟩
theorem shut_agg5 {t : TypeId} {f0 f1 f2 f3 f4 : Field} {v0 v1 v2 v3 v4 : Value} {y0 y1 y2 y3 y4 : DataW H × List MemPlace} {n : Nat} (hs : P.underlying t = some (.struct #[f0, f1, f2, f3, f4])) (hone : oneCellFields P #[f0, f1, f2, f3, f4] = true) (hC : P.cellsOf t = 5)
    (t0 : DataW.trod enc P w base spare held n f0.type [v0] = some y0) (t1 : DataW.trod enc P w base spare held n f1.type [v1] = some y1) (t2 : DataW.trod enc P w base spare held n f2.type [v2] = some y2) (t3 : DataW.trod enc P w base spare held n f3.type [v3] = some y3) (t4 : DataW.trod enc P w base spare held n f4.type [v4] = some y4) :
    DataW.Trod enc P w base spare held t (.agg #[v0, v1, v2, v3, v4]) (.agg [y0.1, y1.1, y2.1, y3.1, y4.1]) (y0.2 ++ (y1.2 ++ (y2.2 ++ (y3.2 ++ (y4.2))))) := by
  obtain ⟨o0, k0⟩ := hone_of hone 0 f0 rfl
  obtain ⟨o1, k1⟩ := hone_of hone 1 f1 rfl
  obtain ⟨o2, k2⟩ := hone_of hone 2 f2 rfl
  obtain ⟨o3, k3⟩ := hone_of hone 3 f3 rfl
  obtain ⟨o4, k4⟩ := hone_of hone 4 f4 rfl
  have ts := trod_struct_mk (enc := enc) (w := w) (base := base) (spare := spare) (held := held) (n := n) (cs := [v0, v1, v2, v3, v4]) (xs := [y0, y1, y2, y3, y4]) hs (by simp [hC]) (by simp [o0, k0, t0, o1, k1, t1, o2, k2, t2, o3, k3, t3, o4, k4, t4])
  exact ⟨_, by simpa [Value.cells] using ts⟩
end
section
variable {H : Type} {enc : TypeId × Value → H} {w : World} {base : Nat} {spare : Nat → Bool} {held : Bool}
set_option maxRecDepth 100000 in
theorem open_cell {r : Reach} {b0 : Nat} {v : Value} {d : DataW H} {p : List MemPlace}
    (hv : Value.okWide Tryz.prog w r b0 23 v) (h : DataW.Trod enc Tryz.prog w base spare held 23 v d p) :
    ∃ (k : Int) (nm tx : ByteArray) (n m : Int), v = .agg #[.int .u8 k, .string nm, .string tx, .int .i64 n, .int .i64 m] ∧ d = .agg [.lit (.int .u8 k), .lit (.string nm.data.toList), .lit (.string tx.data.toList), .lit (.int .i64 n), .lit (.int .i64 m)] ∧ p = [] ∧ (Lit.int .u8 k).wf = true ∧ nm.size ≤ maxLen ∧ tx.size ≤ maxLen ∧ (Lit.int .i64 n).wf = true ∧ (Lit.int .i64 m).wf = true := by
  obtain ⟨c0, c1, c2, c3, c4, y0, y1, y2, y3, y4, n, rfl, rfl, rfl, q0, q1, q2, q3, q4⟩ := open_agg5 Tryz.underlying23 (by kernel_rfl) cells_cell hv h
  obtain ⟨k, e0, rfl, z0⟩ := DataW.trod_int Tryz.underlying5 q0
  obtain ⟨nm, e1, rfl, z1⟩ := DataW.trod_string Tryz.underlying9 q1
  obtain ⟨tx, e2, rfl, z2⟩ := DataW.trod_string Tryz.underlying9 q2
  obtain ⟨n1, e3, rfl, z3⟩ := DataW.trod_int Tryz.underlying2 q3
  obtain ⟨m1, e4, rfl, z4⟩ := DataW.trod_int Tryz.underlying3 q4
  simp only [List.cons.injEq, and_true] at e0 e1 e2 e3 e4
  subst e0 e1 e2 e3 e4
  exact ⟨k, nm, tx, n1, m1, rfl, rfl, rfl, z0, z1, z2, z3, z4⟩
set_option maxRecDepth 100000 in
theorem shut_cell {k : Int} {nm tx : ByteArray} {n m : Int} (z0 : (Lit.int .u8 k).wf = true) (z1 : nm.size ≤ maxLen) (z2 : tx.size ≤ maxLen) (z3 : (Lit.int .i64 n).wf = true) (z4 : (Lit.int .i64 m).wf = true) :
    DataW.Trod enc Tryz.prog w base spare held 23 (.agg #[.int .u8 k, .string nm, .string tx, .int .i64 n, .int .i64 m]) (.agg [.lit (.int .u8 k), .lit (.string nm.data.toList), .lit (.string tx.data.toList), .lit (.int .i64 n), .lit (.int .i64 m)]) [] :=
  shut_agg5 (y0 := (.lit (.int .u8 k), [])) (y1 := (.lit (.string nm.data.toList), [])) (y2 := (.lit (.string tx.data.toList), [])) (y3 := (.lit (.int .i64 n), [])) (y4 := (.lit (.int .i64 m), [])) (n := 1) Tryz.underlying23 (by kernel_rfl) cells_cell
    (by simp [DataW.trod, Tryz.underlying5, z0]) (by simp [DataW.trod, Tryz.underlying9, z1]) (by simp [DataW.trod, Tryz.underlying9, z2]) (by simp [DataW.trod, Tryz.underlying2, z3]) (by simp [DataW.trod, Tryz.underlying3, z4])
end
end Go.Proofs.YtjhgiojmlkeccaaGreatDoor
namespace Go.Proofs.YtjhgiojmlkeccaaGreatDoor
open Go.RowKit Go.WideShapes Go.ChangeShapes
section
variable {H : Type} {enc : TypeId × Value → H} {P : Program}
/-- What 'post_of_same' asks of all addresses is asked here of the old blocks alone. -/
theorem post_below {f : Func} {s : ChangeSpec} {apart fresh handsOn again : Bool} {W W' : World} {args : Array Value} {v : Value} {ds gs : List (DataW H)} {before pa pv : List MemPlace}
    (hW : DataW.Whole enc P f.params.toList s.vars apart W args.toList ds gs before)
    (hres : ∀ (b : Nat) (sp : Nat → Bool) (hd : Bool), DataW.TrodAll enc P W' b sp hd f.resultTypes.toList (v.resultList f.resultTypes.size) (s.fn H (ds ++ gs)).results [])
    (hargs : ∀ sp : Nat → Bool, (∀ p ∈ before, sp p.block = true) → DataW.TrodAll enc P W' 0 sp true f.params.toList args.toList (s.fn H (ds ++ gs)).args pa)
    (hvars : ∀ sp : Nat → Bool, (∀ p ∈ before, sp p.block = true) → DataW.TrodVars enc P W' sp s.vars (s.fn H (ds ++ gs)).vars pv)
    (hps : before = pa ++ pv) (hb : Below W.heap.size W W')
    (hok : ∀ (j : Nat) (t : TypeId) (r : Value), f.resultTypes[j]? = some t → (v.resultList f.resultTypes.size)[j]? = some r → Value.okWide P W' .any 0 t r) :
    s.post enc P f apart fresh handsOn again W args v W' := by
  have old : ∀ p ∈ before, decide (p.block < W.heap.size) = true := fun p hp => decide_eq_true (hW.lt p hp)
  subst hps
  refine ⟨ds, gs, pa ++ pv, [], pa, pv, hW, hres _ _ _, hargs _ old, hvars _ old, World.keptBut_mono (fun p hp => ⟨hp, ?_⟩) (hb.frame (· ∈ pa ++ pv)), fun _ => ?_⟩
  · exact .inr (List.mem_append.1 hp)
  · obtain ⟨_, _, _, _, _, hz, hn⟩ := hW
    refine ⟨hok, _, _, ([] ++ pa) ++ pv, ⟨[] ++ pa, pv, trodAll_append (hargs _ (fun _ _ => rfl)) (hres _ _ _), hvars _ (fun _ _ => rfl), rfl, ?_, ?_⟩, ?_⟩
    · intro b off hp
      have hin : MemPlace.cell b off ∈ pa ++ pv := by simpa using hp
      rw [hb.frozen (of_decide_eq_true (old _ hin))]
      exact hz b off hin
    · intro ha
      simpa using hn ha
    · intro p hp _
      simpa using hp
end
end Go.Proofs.YtjhgiojmlkeccaaGreatDoor
namespace Go.Proofs.YtjhgiojmlkeccaaGreatDoor
open Go.RowKit Go.Shelf
def zeroC : Cl := ⟨0, ⟨#[]⟩, ⟨#[]⟩, 0, 0⟩
/-- What Add gives, by a kind's own sum. -/
def aV (rd : RdV) (g : Cl → Cl → Cl) (t : Cl → Cl → Bool) (a b : Cl) : Cl := if okC rd a ∧ okC rd b ∧ t a b = true then g a b else zeroC
def aE (rd : RdV) (t : Cl → Cl → Bool) (a b : Cl) : Int := if okC rd a ∧ okC rd b then (if t a b = true then 0 else 20) else 160
/-- A kind's own sum, and what the law asks of it. -/
structure SumC (rd : RdV) (r : Cl → Cl → Int) (g : Cl → Cl → Cl) (t : Cl → Cl → Bool) : Prop where
  comm : ∀ a b, okC rd a → okC rd b → t b a = t a b ∧ g b a = g a b
  one : ∀ a b, okC rd a → okC rd b → t a b = true → okC rd (g a b)
  keep : ∀ a b c, okC rd a → okC rd b → okC rd c → t a b = true → t c b = true → r (g a b) (g c b) = r a c
theorem aE_0 {rd : RdV} {t : Cl → Cl → Bool} {a b : Cl} (h : aE rd t a b = 0) : okC rd a ∧ okC rd b ∧ t a b = true := by
  unfold aE at h
  by_cases c : okC rd a ∧ okC rd b
  · rw [if_pos c] at h
    cases q : t a b with
    | true => exact ⟨c.1, c.2, rfl⟩
    | false => rw [q] at h; exact absurd h (by decide)
  · rw [if_neg c] at h; exact absurd h (by decide)
theorem aV_ok {rd : RdV} {g : Cl → Cl → Cl} {t : Cl → Cl → Bool} {a b : Cl} (h : aE rd t a b = 0) : aV rd g t a b = g a b := by
  unfold aV; rw [if_pos (aE_0 h)]
theorem aV_no {rd : RdV} {g : Cl → Cl → Cl} {t : Cl → Cl → Bool} {a b : Cl} (h : aE rd t a b ≠ 0) : aV rd g t a b = zeroC := by
  unfold aV
  rw [if_neg]
  rintro ⟨h1, h2, h3⟩
  apply h
  unfold aE
  rw [if_pos ⟨h1, h2⟩, if_pos h3]
theorem aE_comm {rd : RdV} {r : Cl → Cl → Int} {g : Cl → Cl → Cl} {t : Cl → Cl → Bool} (H : SumC rd r g t) (a b : Cl) : aE rd t b a = aE rd t a b := by
  unfold aE
  by_cases c : okC rd a ∧ okC rd b
  · rw [if_pos c, if_pos ⟨c.2, c.1⟩, (H.comm a b c.1 c.2).1]
  · rw [if_neg c, if_neg (fun q => c ⟨q.2, q.1⟩)]
theorem aV_comm {rd : RdV} {r : Cl → Cl → Int} {g : Cl → Cl → Cl} {t : Cl → Cl → Bool} (H : SumC rd r g t) (a b : Cl) : aV rd g t b a = aV rd g t a b := by
  by_cases h : aE rd t a b = 0
  · have h2 := aE_comm H a b
    rw [aV_ok h, aV_ok (h2.trans h)]
    have c := aE_0 h
    exact (H.comm a b c.1 c.2.1).2
  · have h2 := aE_comm H a b
    rw [aV_no h, aV_no (fun q => h (h2.symm.trans q))]
theorem aV_keep {rd : RdV} {r : Cl → Cl → Int} {g : Cl → Cl → Cl} {t : Cl → Cl → Bool} (H : SumC rd r g t) (a b c : Cl) (h : aE rd t a b = 0) (h' : aE rd t c b = 0) : cE rd (aV rd g t a b) (aV rd g t c b) = 0 ∧ cV rd r (aV rd g t a b) (aV rd g t c b) = cV rd r a c := by
  have x := aE_0 h
  have y := aE_0 h'
  rw [aV_ok h, aV_ok h']
  have o1 := H.one a b x.1 x.2.1 x.2.2
  have o2 := H.one c b y.1 y.2.1 y.2.2
  unfold cE cV
  rw [if_pos ⟨o1, o2⟩, if_pos ⟨o1, o2⟩, if_pos ⟨x.1, y.1⟩]
  exact ⟨rfl, H.keep a b c x.1 x.2.1 y.1 x.2.2 y.2.2⟩
def gI (a b : Cl) : Cl := ⟨2, ⟨#[]⟩, ⟨#[]⟩, a.n + b.n, 0⟩
def tI (a b : Cl) : Bool := decide (-2147483648 ≤ a.n + b.n ∧ a.n + b.n ≤ 2147483647)
theorem sum_1 : SumC numR (fun a b => cmpI a.n b.n) gI tI where
  comm a b _ _ := by
    unfold tI gI
    rw [Int.add_comm]
    exact ⟨rfl, rfl⟩
  one a b _ _ h := by
    unfold tI at h
    have hp : plainR numR 2 ⟨#[]⟩ (a.n + b.n) 0 = numR 2 ⟨#[]⟩ (a.n + b.n) := by
      unfold plainR
      rw [if_pos ⟨rfl, by rw [if_neg (by decide)]; rw [ByteArray.toList_eq]⟩]
    refine ⟨?_, rfl, rfl⟩
    show plainR numR 2 ⟨#[]⟩ (a.n + b.n) 0 = _
    rw [hp]
    unfold numR gI
    rw [h]; rfl
  keep a b c _ _ _ _ _ := cmpI_add _ _ _
end Go.Proofs.YtjhgiojmlkeccaaGreatDoor
namespace Go.Proofs.YtjhgiojmlkeccaaGreatDoor
open Go.RowKit Go.Shelf
def gM (a b : Cl) : Cl := ⟨(sumV a.tx b.tx).1, ⟨#[]⟩, (sumV a.tx b.tx).2.1, 0, 0⟩
def tM (a b : Cl) : Bool := (sumV a.tx b.tx).2.2
theorem sumV_comm (a b : ByteArray) : sumV b a = sumV a b := by
  unfold sumV monE monM monS
  obtain ⟨e1, e2, e3⟩ := add_comm' (pM a.data.toList) (pS a.data.toList) (pM b.data.toList) (pS b.data.toList)
  rw [← e1, ← e2, ← e3]
theorem sumV_ok {a b : ByteArray} (h : (sumV a b).2.2 = true) : monE a b = 0 := by
  unfold sumV at h
  by_cases c : monE a b = 0
  · exact c
  · rw [if_neg c] at h; exact absurd h (by simp)
theorem sumV_tx {a b : ByteArray} (h : (sumV a b).2.2 = true) : (sumV a b).1 = 3 ∧ (sumV a b).2.1 = ⟨(txt (monM a b) (monS a b).toNat).toArray⟩ := by
  have c := sumV_ok h
  have hok := (add_ok_iff _ _ _ _).1 c
  have hm : may (monM a b) (monS a b) = true := add_may hok
  unfold sumV
  rw [if_pos c]
  unfold tx
  rw [if_pos hm]
  exact ⟨rfl, rfl⟩
theorem sumV_parse {a b : ByteArray} (h : (sumV a b).2.2 = true) : pM (sumV a b).2.1.data.toList = monM a b ∧ pS (sumV a b).2.1.data.toList = monS a b ∧ pE (sumV a b).2.1.data.toList = 0 := by
  have c := sumV_ok h
  have hok := (add_ok_iff _ _ _ _).1 c
  have hm : may (monM a b) (monS a b) = true := add_may hok
  have hb := may_bd hm
  have hs : ((monS a b).toNat : Int) = monS a b := by omega
  rw [(sumV_tx h).2]
  have := parse_txt (monM a b) (monS a b).toNat (addM_Rx _ _ _ _).1 (by rw [hs]; exact hm)
  rw [hs] at this
  simpa using this
theorem sumV_dec {a b : ByteArray} (h : (sumV a b).2.2 = true) : decC (sumV a b).2.1 = ((sumV a b).2.1, 0) := by
  obtain ⟨e1, e2, e3⟩ := sumV_parse h
  have c := sumV_ok h
  have hm : may (monM a b) (monS a b) = true := add_may ((add_ok_iff _ _ _ _).1 c)
  unfold decC
  rw [if_pos e3, e1, e2]
  unfold tx chk
  rw [if_pos hm, if_pos hm, ← (sumV_tx h).2]
theorem monO_sum {a b c : ByteArray} (ha : decC a = (a, 0)) (hc : decC c = (c, 0)) (h : (sumV a b).2.2 = true) (h' : (sumV c b).2.2 = true) : monO (sumV a b).2.1 (sumV c b).2.1 = monO a c := by
  rw [monO_ok (sumV_dec h) (sumV_dec h'), monO_ok ha hc]
  obtain ⟨e1, e2, _⟩ := sumV_parse h
  obtain ⟨f1, f2, _⟩ := sumV_parse h'
  rw [e1, e2, f1, f2]
  unfold monM monS
  rw [add_scl ((add_ok_iff _ _ _ _).1 (sumV_ok h)), add_scl ((add_ok_iff _ _ _ _).1 (sumV_ok h')), cmpI_add]
end Go.Proofs.YtjhgiojmlkeccaaGreatDoor
namespace Go.Proofs.YtjhgiojmlkeccaaGreatDoor
open Go.RowKit Go.Shelf
theorem txt_ascii (m : Int) (s : Nat) : ∀ c ∈ txt m s, c.toNat < 128 := by
  have hp : ∀ c ∈ pad m s, c.toNat < 128 := fun c hc => by
    have := List.all_eq_true.1 (pad_all m s) c hc
    unfold isDig at this; rw [decide_eq_true_eq] at this; omega
  intro c hc
  unfold txt at hc
  rcases List.mem_append.1 hc with h | h
  · split at h
    · rw [List.mem_singleton] at h; subst h; decide
    · exact absurd h (by simp)
  · split at h
    · exact hp c h
    · rcases List.mem_append.1 h with h | h
      · exact hp c (List.mem_of_mem_take h)
      · rcases List.mem_cons.1 h with h | h
        · subst h; decide
        · exact hp c (List.mem_of_mem_drop h)
theorem txt_chk (m : Int) (s : Nat) (hr : R m) (hs : s ≤ 18) : chkE (txt m s) = 0 := by
  have hl := txt_len m s
  have hd : (Lib.decDigits m.natAbs).length ≤ 20 := dec_len _ 20 (by omega) (by unfold R at hr; omega)
  have h1 : (txt m s).length ≤ 16384 := by
    rw [hl]
    have a1 : (if m < 0 then 1 else 0) ≤ 1 := by split <;> omega
    have a2 : (if (Lib.decDigits m.natAbs).length ≤ s then s + 1 else (Lib.decDigits m.natAbs).length) ≤ 20 := by split <;> omega
    have a3 : (if s = 0 then 0 else 1) ≤ 1 := by split <;> omega
    omega
  have hv : Lib.validD (txt m s) = true := by
    rw [Lib.validD_ascii (txt m s).length (txt m s) (fun c hc => txt_ascii m s c (List.mem_of_mem_take hc)), List.drop_length]
    rfl
  unfold chkE
  rw [if_neg (by omega), if_pos hv]
theorem sum_7 : SumC (digsR (toldR decC)) (fun a b => monO a.tx b.tx) gM tM where
  comm a b _ _ := by
    unfold tM gM
    rw [sumV_comm]
    exact ⟨rfl, rfl⟩
  one a b _ _ h := by
    have hk := (sumV_tx h).1
    have hx := (sumV_tx h).2
    have hd := sumV_dec h
    have hm : may (monM a.tx b.tx) (monS a.tx b.tx) = true := add_may ((add_ok_iff _ _ _ _).1 (sumV_ok h))
    have hb := may_bd hm
    have hc : chkE (sumV a.tx b.tx).2.1.data.toList = 0 := by
      rw [hx]
      exact txt_chk _ _ (addM_Rx _ _ _ _).1 (by omega)
    refine ⟨?_, rfl, rfl⟩
    show plainR (digsR (toldR decC)) (sumV a.tx b.tx).1 (sumV a.tx b.tx).2.1 0 0 = ((sumV a.tx b.tx).1, (sumV a.tx b.tx).2.1, 0, true)
    rw [hk]
    unfold plainR
    rw [if_pos ⟨rfl, by rw [if_pos rfl]⟩]
    unfold digsR
    rw [if_neg (by decide)]
    unfold toldR
    rw [if_pos ⟨rfl, hc⟩, hd]
    rfl
  keep a b c ha hb hc h h' := monO_sum (digs_ok (okP_rd _ _ _ _ _ _ ha)).2.2 (digs_ok (okP_rd _ _ _ _ _ _ hc)).2.2 h h'
end Go.Proofs.YtjhgiojmlkeccaaGreatDoor
namespace Go.Proofs.YtjhgiojmlkeccaaGreatDoor
open Go.RowKit Go.Shelf
structure SumL (w : World) (k : Int) (V E : Cl → Cl → Int) (X : Cl → Cl → Cl) (F : Cl → Cl → Int) : Prop where
  does : ∀ a b, BdC a → BdC b → DoesU w 11 #[.int .u8 k, cellV a, cellV b] (.tuple #[cellV (X a b), .int .i64 (F a b)])
  fcomm : ∀ a b, F b a = F a b
  xcomm : ∀ a b, X b a = X a b
  no : ∀ a b, F a b ≠ 0 → X a b = zeroC
  keep : ∀ a b c, F a b = 0 → F c b = 0 → E (X a b) (X c b) = 0 ∧ V (X a b) (X c b) = V a c
  one : ∀ a b, F a b = 0 → (k = 1 ∧ okC numR (X a b)) ∨ (k = 7 ∧ okC (digsR (toldR decC)) (X a b))
theorem sumL_none (w : World) (k e : Int) (V E : Cl → Cl → Int) (h : e ≠ 0) (HD : ∀ a b, BdC a → BdC b → DoesU w 11 #[.int .u8 k, cellV a, cellV b] (.tuple #[cellV zeroC, .int .i64 e])) : SumL w k V E (fun _ _ => zeroC) (fun _ _ => e) :=
  ⟨HD, fun _ _ => rfl, fun _ _ => rfl, fun _ _ _ => rfl, fun _ _ _ q => absurd q h, fun _ _ q => absurd q h⟩
theorem val_of (rd : RdV) (g : Cl → Cl → Cl) (t : Cl → Cl → Bool) (a b : Cl) : (if okC rd a ∧ okC rd b then (if t a b = true then Value.tuple #[cellV (g a b), .int .i64 0] else .tuple #[cellV zeroC, .int .i64 20]) else .tuple #[cellV zeroC, .int .i64 160]) = .tuple #[cellV (aV rd g t a b), .int .i64 (aE rd t a b)] := by
  unfold aV aE
  by_cases c : okC rd a ∧ okC rd b
  · rw [if_pos c, if_pos c]
    by_cases q : t a b = true
    · rw [if_pos q, if_pos q, if_pos ⟨c.1, c.2, q⟩]
    · rw [if_neg q, if_neg q, if_neg (fun z => q z.2.2)]
  · rw [if_neg c, if_neg c, if_neg (fun z => c ⟨z.1, z.2.1⟩)]
theorem suml_1 (w : World) (hE : EnvS w) : SumL w 1 (cV numR (fun a b => cmpI a.n b.n)) (cE numR) (aV numR gI tI) (aE numR tI) :=
  ⟨fun a b ha hb => by rw [← val_of]; simpa [okC, tI, gI, cellV, zeroC] using add_1 w hE a.k a.nm a.tx a.n a.m b.k b.nm b.tx b.n b.m ha hb,
   aE_comm sum_1, aV_comm sum_1, fun a b h => aV_no h, fun a b c h h' => aV_keep sum_1 a b c h h', fun a b h => .inl ⟨rfl, by rw [aV_ok h]; have x := aE_0 h; exact sum_1.one a b x.1 x.2.1 x.2.2⟩⟩
theorem suml_7 (w : World) (hE : EnvS w) : SumL w 7 (cV (digsR (toldR decC)) (fun a b => monO a.tx b.tx)) (cE (digsR (toldR decC))) (aV (digsR (toldR decC)) gM tM) (aE (digsR (toldR decC)) tM) :=
  ⟨fun a b ha hb => by rw [← val_of]; exact add_7 w hE a.k a.nm a.tx a.n a.m b.k b.nm b.tx b.n b.m ha hb,
   aE_comm sum_7, aV_comm sum_7, fun a b h => aV_no h, fun a b c h h' => aV_keep sum_7 a b c h h', fun a b h => .inr ⟨rfl, by rw [aV_ok h]; have x := aE_0 h; exact sum_7.one a b x.1 x.2.1 x.2.2⟩⟩
end Go.Proofs.YtjhgiojmlkeccaaGreatDoor
namespace Go.Proofs.YtjhgiojmlkeccaaGreatDoor
open Go.RowKit Go.Shelf
theorem sum_all (w : World) (hE : EnvS w) (k : Int) (h0 : 0 ≤ k) (h1 : k ≤ 255) : ∃ V E X F, CmpL w k V E ∧ SumL w k V E X F := by
  by_cases c1 : k = 1
  · subst c1; exact ⟨_, _, _, _, cmpL_of w 1 _ _ ord_1 (fun _ _ => cmpI_bd _ _) (fun a b ha hb => cmp_1 w hE _ _ _ _ _ _ _ _ _ _ ha hb), suml_1 w hE⟩
  by_cases c7 : k = 7
  · subst c7; exact ⟨_, _, _, _, cmpL_of w 7 _ _ ord_7 (fun _ _ => monO_bd _ _) (fun a b ha hb => cmp_7 w hE _ _ _ _ _ _ _ _ _ _ ha hb), suml_7 w hE⟩
  obtain ⟨V, E, HC⟩ := cmp_all w hE k h0 h1
  by_cases c0 : k = 0
  · subst c0; exact ⟨V, E, _, _, HC, sumL_none w 0 2 V E (by decide) fun a b _ _ => add_low w _ _ _ _ _ _ _ _ _ _⟩
  by_cases c2 : k = 2
  · subst c2; exact ⟨V, E, _, _, HC, sumL_none w 2 6 V E (by decide) fun a b _ _ => add_none2 w _ _ _ _ _ _ _ _ _ _ hE⟩
  by_cases c3 : k = 3
  · subst c3; exact ⟨V, E, _, _, HC, sumL_none w 3 6 V E (by decide) fun a b _ _ => add_none3 w _ _ _ _ _ _ _ _ _ _ hE⟩
  by_cases c4 : k = 4
  · subst c4; exact ⟨V, E, _, _, HC, sumL_none w 4 6 V E (by decide) fun a b _ _ => add_none4 w _ _ _ _ _ _ _ _ _ _ hE⟩
  by_cases c5 : k = 5
  · subst c5; exact ⟨V, E, _, _, HC, sumL_none w 5 6 V E (by decide) fun a b _ _ => add_none5 w _ _ _ _ _ _ _ _ _ _ hE⟩
  by_cases c6 : k = 6
  · subst c6; exact ⟨V, E, _, _, HC, sumL_none w 6 6 V E (by decide) fun a b _ _ => add_none6 w _ _ _ _ _ _ _ _ _ _ hE⟩
  by_cases c8 : k = 8
  · subst c8; exact ⟨V, E, _, _, HC, sumL_none w 8 6 V E (by decide) fun a b _ _ => add_none8 w _ _ _ _ _ _ _ _ _ _⟩
  · exact ⟨V, E, _, _, HC, sumL_none w k 2 V E (by decide) fun a b _ _ => add_high w _ _ _ _ _ _ _ _ _ _ k (by omega) h1⟩
end Go.Proofs.YtjhgiojmlkeccaaGreatDoor
namespace Go.Proofs.YtjhgiojmlkeccaaGreatDoor
open Go.RowKit Go.Shelf
theorem bd_mk (k : Int) (nm tx : ByteArray) (n m : Int) (h0 : 0 ≤ k) (h1 : k ≤ 255) (h2 : tx.size ≤ 1000000) (h3 : R n) (h4 : R m) : BdC ⟨k, nm, tx, n, m⟩ := ⟨⟨h0, h1⟩, h2, h3, h4⟩
theorem R_0 : R 0 := by unfold R; omega
theorem bd_zero : BdC zeroC := bd_mk 0 _ _ 0 0 (by decide) (by decide) (by decide) R_0 R_0
theorem bd_num {a : Cl} (h : okC numR a) : BdC a := by
  have e := num_ok h
  have r := okP_num _ _ _ _ _ h
  rw [e]
  exact bd_mk 2 _ _ a.n 0 (by decide) (by decide) (by decide) (by unfold R; omega) R_0
theorem bd_dec {a : Cl} (h : okC (digsR (toldR decC)) a) : BdC a := by
  have x := digs_ok (okP_rd _ _ _ _ _ _ h)
  have hm := h.2.2
  have ht := decC_txt x.2.2
  have hmay := decC_may x.2.2
  have hb := may_bd hmay
  have hR := (pM_Rs a.tx.data.toList).1
  have hl := txt_len (pM a.tx.data.toList) (pS a.tx.data.toList).toNat
  have hd : (Lib.decDigits (pM a.tx.data.toList).natAbs).length ≤ 20 := dec_len _ 20 (by omega) (by unfold R at hR; omega)
  have hsz : a.tx.size ≤ 1000000 := by
    have : a.tx.size = (txt (pM a.tx.data.toList) (pS a.tx.data.toList).toNat).length := by
      conv => lhs; rw [ht]
      unfold tx
      rw [if_pos hmay, size_mk]
    rw [this, hl]
    repeat' split
    all_goals omega
  refine ⟨?_, hsz, ?_, ?_⟩
  · rw [x.1]; omega
  · rw [x.2.1]; unfold R; omega
  · rw [hm]; unfold R; omega
theorem bd_sum {w : World} {k : Int} {V E : Cl → Cl → Int} {X : Cl → Cl → Cl} {F : Cl → Cl → Int} (H : SumL w k V E X F) (a b : Cl) : BdC (X a b) := by
  by_cases h : F a b = 0
  · rcases H.one a b h with ⟨_, h⟩ | ⟨_, h⟩
    · exact bd_num h
    · exact bd_dec h
  · rw [H.no a b h]; exact bd_zero
end Go.Proofs.YtjhgiojmlkeccaaGreatDoor
namespace Go.Proofs.YtjhgiojmlkeccaaGreatDoor
open Go.RowKit
set_option maxRecDepth 100000 in
set_option maxHeartbeats 4000000 in
theorem sums16_ab (k : Int) (ka : Int) (nma txa : ByteArray) (na ma : Int) (kb : Int) (nmb txb : ByteArray) (nb mb : Int) (kc : Int) (nmc txc : ByteArray) (nc mc : Int) (w : World) (hE : EnvS w) (HG : Hid (DoesU w 7 #[.agg #[.int .u8 ka, .string nma, .string txa, .int .i64 na, .int .i64 ma], .agg #[.int .u8 kb, .string nmb, .string txb, .int .i64 nb, .int .i64 mb]] (.bool true))) :
    Calls Tryz.prog 5 #[.int .u8 k, .agg #[.int .u8 ka, .string nma, .string txa, .int .i64 na, .int .i64 ma], .agg #[.int .u8 kb, .string nmb, .string txb, .int .i64 nb, .int .i64 mb], .agg #[.int .u8 kc, .string nmc, .string txc, .int .i64 nc, .int .i64 mc]] w fun e w' => e = .returned (.bool true) ∧ Below w.heap.size w w' := by
  have HA : Hid (DoesU w 6 #[] (.bool true)) := Lib.hid fun W hW => lalive16 W (hE.below hW)
  go_enter Tryz.func5, Tryz.ntmps5
  go_wp2_with fail
  refine (HA.out _ (by first | exact Below.refl _ _ | (go_grown; done))).mono ?_; rintro e w1 ⟨rfl, hb⟩
  have hh0 : w1.heap[w.heap.size]? = some (.cells #[.int .u8 ka, .string nma, .string txa, .int .i64 na, .int .i64 ma] 23 (0, 0)) := (hb.block _ (by first | omega | (simp; done) | (simp; omega))).trans (heap_old (o' := (.cells #[.int .u8 kc, .string nmc, .string txc, .int .i64 nc, .int .i64 mc] 23 (0, 0))) (heap_old (o' := (.cells #[.int .u8 kb, .string nmb, .string txb, .int .i64 nb, .int .i64 mb] 23 (0, 0))) (heap_new _ _ _ (by first | rfl | simp))))
  have hh1 : w1.heap[w.heap.size + 1]? = some (.cells #[.int .u8 kb, .string nmb, .string txb, .int .i64 nb, .int .i64 mb] 23 (0, 0)) := (hb.block _ (by first | omega | (simp; done) | (simp; omega))).trans (heap_old (o' := (.cells #[.int .u8 kc, .string nmc, .string txc, .int .i64 nc, .int .i64 mc] 23 (0, 0))) (heap_new _ _ _ (by first | rfl | simp)))
  have hh2 : w1.heap[w.heap.size + 1 + 1]? = some (.cells #[.int .u8 kc, .string nmc, .string txc, .int .i64 nc, .int .i64 mc] 23 (0, 0)) := (hb.block _ (by first | omega | (simp; done) | (simp; omega))).trans (heap_new _ _ _ (by first | rfl | simp))
  have hbw1 : Below w.heap.size w w1 := (show Below w.heap.size w _ by first | exact Below.refl _ _ | (go_grown; done)).trans (hb.mono (by first | omega | (simp; done) | (simp; omega)))
  clear hb
  have HH0_1 := Lib.hid hh0
  have lt0 := heap_lt hh0
  have c0_0 : w1.cell? ⟨w.heap.size, 0, none⟩ = some (.int .u8 ka) := by rw [Lib.cell_of_heap hh0]; rfl
  have c0_1 : w1.cell? ⟨w.heap.size, 1, none⟩ = some (.string nma) := by rw [Lib.cell_of_heap hh0]; rfl
  have c0_2 : w1.cell? ⟨w.heap.size, 2, none⟩ = some (.string txa) := by rw [Lib.cell_of_heap hh0]; rfl
  have c0_3 : w1.cell? ⟨w.heap.size, 3, none⟩ = some (.int .i64 na) := by rw [Lib.cell_of_heap hh0]; rfl
  have c0_4 : w1.cell? ⟨w.heap.size, 4, none⟩ = some (.int .i64 ma) := by rw [Lib.cell_of_heap hh0]; rfl
  clear hh0
  have HH1_1 := Lib.hid hh1
  have lt1 := heap_lt hh1
  have c1_0 : w1.cell? ⟨w.heap.size + 1, 0, none⟩ = some (.int .u8 kb) := by rw [Lib.cell_of_heap hh1]; rfl
  have c1_1 : w1.cell? ⟨w.heap.size + 1, 1, none⟩ = some (.string nmb) := by rw [Lib.cell_of_heap hh1]; rfl
  have c1_2 : w1.cell? ⟨w.heap.size + 1, 2, none⟩ = some (.string txb) := by rw [Lib.cell_of_heap hh1]; rfl
  have c1_3 : w1.cell? ⟨w.heap.size + 1, 3, none⟩ = some (.int .i64 nb) := by rw [Lib.cell_of_heap hh1]; rfl
  have c1_4 : w1.cell? ⟨w.heap.size + 1, 4, none⟩ = some (.int .i64 mb) := by rw [Lib.cell_of_heap hh1]; rfl
  clear hh1
  have HH2_1 := Lib.hid hh2
  have lt2 := heap_lt hh2
  have c2_0 : w1.cell? ⟨w.heap.size + 1 + 1, 0, none⟩ = some (.int .u8 kc) := by rw [Lib.cell_of_heap hh2]; rfl
  have c2_1 : w1.cell? ⟨w.heap.size + 1 + 1, 1, none⟩ = some (.string nmc) := by rw [Lib.cell_of_heap hh2]; rfl
  have c2_2 : w1.cell? ⟨w.heap.size + 1 + 1, 2, none⟩ = some (.string txc) := by rw [Lib.cell_of_heap hh2]; rfl
  have c2_3 : w1.cell? ⟨w.heap.size + 1 + 1, 3, none⟩ = some (.int .i64 nc) := by rw [Lib.cell_of_heap hh2]; rfl
  have c2_4 : w1.cell? ⟨w.heap.size + 1 + 1, 4, none⟩ = some (.int .i64 mc) := by rw [Lib.cell_of_heap hh2]; rfl
  clear hh2
  have sz1 := hbw1.size
  have HW1 := Lib.hid hbw1
  go_wp2_with fail
  refine (HG.out _ (by first | exact HW1.out | exact HW1.out.trans ⟨rfl, rfl, rfl, Nat.le_refl _, fun _ _ => rfl⟩ | (go_grown; done))).mono ?_; rintro e w2 ⟨rfl, hb⟩
  have hv0 := HH0_1.out
  have hh0 : w2.heap[w.heap.size]? = some (.cells #[.int .u8 ka, .string nma, .string txa, .int .i64 na, .int .i64 ma] 23 (0, 0)) := (hb.block _ (heap_lt hv0)).trans hv0
  clear hv0
  have hv1 := HH1_1.out
  have hh1 : w2.heap[w.heap.size + 1]? = some (.cells #[.int .u8 kb, .string nmb, .string txb, .int .i64 nb, .int .i64 mb] 23 (0, 0)) := (hb.block _ (heap_lt hv1)).trans hv1
  clear hv1
  have hv2 := HH2_1.out
  have hh2 : w2.heap[w.heap.size + 1 + 1]? = some (.cells #[.int .u8 kc, .string nmc, .string txc, .int .i64 nc, .int .i64 mc] 23 (0, 0)) := (hb.block _ (heap_lt hv2)).trans hv2
  clear hv2
  have hbw2 : Below w.heap.size w w2 := (show Below w.heap.size w _ by first | exact HW1.out.trans ⟨rfl, rfl, rfl, Nat.le_refl _, fun _ _ => rfl⟩ | exact HW1.out | (go_grown; done)).trans (hb.mono (by first | omega | (simp; done) | (simp; omega)))
  clear hb lt0 c0_0 c0_1 c0_2 c0_3 c0_4 lt1 c1_0 c1_1 c1_2 c1_3 c1_4 lt2 c2_0 c2_1 c2_2 c2_3 c2_4 hbw1
  have HH0_2 := Lib.hid hh0
  have lt0 := heap_lt hh0
  have c0_0 : w2.cell? ⟨w.heap.size, 0, none⟩ = some (.int .u8 ka) := by rw [Lib.cell_of_heap hh0]; rfl
  have c0_1 : w2.cell? ⟨w.heap.size, 1, none⟩ = some (.string nma) := by rw [Lib.cell_of_heap hh0]; rfl
  have c0_2 : w2.cell? ⟨w.heap.size, 2, none⟩ = some (.string txa) := by rw [Lib.cell_of_heap hh0]; rfl
  have c0_3 : w2.cell? ⟨w.heap.size, 3, none⟩ = some (.int .i64 na) := by rw [Lib.cell_of_heap hh0]; rfl
  have c0_4 : w2.cell? ⟨w.heap.size, 4, none⟩ = some (.int .i64 ma) := by rw [Lib.cell_of_heap hh0]; rfl
  clear hh0
  have HH1_2 := Lib.hid hh1
  have lt1 := heap_lt hh1
  have c1_0 : w2.cell? ⟨w.heap.size + 1, 0, none⟩ = some (.int .u8 kb) := by rw [Lib.cell_of_heap hh1]; rfl
  have c1_1 : w2.cell? ⟨w.heap.size + 1, 1, none⟩ = some (.string nmb) := by rw [Lib.cell_of_heap hh1]; rfl
  have c1_2 : w2.cell? ⟨w.heap.size + 1, 2, none⟩ = some (.string txb) := by rw [Lib.cell_of_heap hh1]; rfl
  have c1_3 : w2.cell? ⟨w.heap.size + 1, 3, none⟩ = some (.int .i64 nb) := by rw [Lib.cell_of_heap hh1]; rfl
  have c1_4 : w2.cell? ⟨w.heap.size + 1, 4, none⟩ = some (.int .i64 mb) := by rw [Lib.cell_of_heap hh1]; rfl
  clear hh1
  have HH2_2 := Lib.hid hh2
  have lt2 := heap_lt hh2
  have c2_0 : w2.cell? ⟨w.heap.size + 1 + 1, 0, none⟩ = some (.int .u8 kc) := by rw [Lib.cell_of_heap hh2]; rfl
  have c2_1 : w2.cell? ⟨w.heap.size + 1 + 1, 1, none⟩ = some (.string nmc) := by rw [Lib.cell_of_heap hh2]; rfl
  have c2_2 : w2.cell? ⟨w.heap.size + 1 + 1, 2, none⟩ = some (.string txc) := by rw [Lib.cell_of_heap hh2]; rfl
  have c2_3 : w2.cell? ⟨w.heap.size + 1 + 1, 3, none⟩ = some (.int .i64 nc) := by rw [Lib.cell_of_heap hh2]; rfl
  have c2_4 : w2.cell? ⟨w.heap.size + 1 + 1, 4, none⟩ = some (.int .i64 mc) := by rw [Lib.cell_of_heap hh2]; rfl
  clear hh2
  have sz2 := hbw2.size
  have HW2 := Lib.hid hbw2
  go_wp2_with fail
  go_ret
  exact ⟨rfl, by first | exact HW2.out | (go_grown; done)⟩
set_option maxRecDepth 100000 in
set_option maxHeartbeats 4000000 in
theorem sums16_c (k : Int) (ka : Int) (nma txa : ByteArray) (na ma : Int) (kb : Int) (nmb txb : ByteArray) (nb mb : Int) (kc : Int) (nmc txc : ByteArray) (nc mc : Int) (w : World) (hE : EnvS w) (HG : Hid (DoesU w 7 #[.agg #[.int .u8 ka, .string nma, .string txa, .int .i64 na, .int .i64 ma], .agg #[.int .u8 kb, .string nmb, .string txb, .int .i64 nb, .int .i64 mb]] (.bool false))) (HH : Hid (DoesU w 7 #[.agg #[.int .u8 kc, .string nmc, .string txc, .int .i64 nc, .int .i64 mc], .agg #[.int .u8 kc, .string nmc, .string txc, .int .i64 nc, .int .i64 mc]] (.bool true))) :
    Calls Tryz.prog 5 #[.int .u8 k, .agg #[.int .u8 ka, .string nma, .string txa, .int .i64 na, .int .i64 ma], .agg #[.int .u8 kb, .string nmb, .string txb, .int .i64 nb, .int .i64 mb], .agg #[.int .u8 kc, .string nmc, .string txc, .int .i64 nc, .int .i64 mc]] w fun e w' => e = .returned (.bool true) ∧ Below w.heap.size w w' := by
  have HA : Hid (DoesU w 6 #[] (.bool true)) := Lib.hid fun W hW => lalive16 W (hE.below hW)
  go_enter Tryz.func5, Tryz.ntmps5
  go_wp2_with fail
  refine (HA.out _ (by first | exact Below.refl _ _ | (go_grown; done))).mono ?_; rintro e w1 ⟨rfl, hb⟩
  have hh0 : w1.heap[w.heap.size]? = some (.cells #[.int .u8 ka, .string nma, .string txa, .int .i64 na, .int .i64 ma] 23 (0, 0)) := (hb.block _ (by first | omega | (simp; done) | (simp; omega))).trans (heap_old (o' := (.cells #[.int .u8 kc, .string nmc, .string txc, .int .i64 nc, .int .i64 mc] 23 (0, 0))) (heap_old (o' := (.cells #[.int .u8 kb, .string nmb, .string txb, .int .i64 nb, .int .i64 mb] 23 (0, 0))) (heap_new _ _ _ (by first | rfl | simp))))
  have hh1 : w1.heap[w.heap.size + 1]? = some (.cells #[.int .u8 kb, .string nmb, .string txb, .int .i64 nb, .int .i64 mb] 23 (0, 0)) := (hb.block _ (by first | omega | (simp; done) | (simp; omega))).trans (heap_old (o' := (.cells #[.int .u8 kc, .string nmc, .string txc, .int .i64 nc, .int .i64 mc] 23 (0, 0))) (heap_new _ _ _ (by first | rfl | simp)))
  have hh2 : w1.heap[w.heap.size + 1 + 1]? = some (.cells #[.int .u8 kc, .string nmc, .string txc, .int .i64 nc, .int .i64 mc] 23 (0, 0)) := (hb.block _ (by first | omega | (simp; done) | (simp; omega))).trans (heap_new _ _ _ (by first | rfl | simp))
  have hbw1 : Below w.heap.size w w1 := (show Below w.heap.size w _ by first | exact Below.refl _ _ | (go_grown; done)).trans (hb.mono (by first | omega | (simp; done) | (simp; omega)))
  clear hb
  have HH0_1 := Lib.hid hh0
  have lt0 := heap_lt hh0
  have c0_0 : w1.cell? ⟨w.heap.size, 0, none⟩ = some (.int .u8 ka) := by rw [Lib.cell_of_heap hh0]; rfl
  have c0_1 : w1.cell? ⟨w.heap.size, 1, none⟩ = some (.string nma) := by rw [Lib.cell_of_heap hh0]; rfl
  have c0_2 : w1.cell? ⟨w.heap.size, 2, none⟩ = some (.string txa) := by rw [Lib.cell_of_heap hh0]; rfl
  have c0_3 : w1.cell? ⟨w.heap.size, 3, none⟩ = some (.int .i64 na) := by rw [Lib.cell_of_heap hh0]; rfl
  have c0_4 : w1.cell? ⟨w.heap.size, 4, none⟩ = some (.int .i64 ma) := by rw [Lib.cell_of_heap hh0]; rfl
  clear hh0
  have HH1_1 := Lib.hid hh1
  have lt1 := heap_lt hh1
  have c1_0 : w1.cell? ⟨w.heap.size + 1, 0, none⟩ = some (.int .u8 kb) := by rw [Lib.cell_of_heap hh1]; rfl
  have c1_1 : w1.cell? ⟨w.heap.size + 1, 1, none⟩ = some (.string nmb) := by rw [Lib.cell_of_heap hh1]; rfl
  have c1_2 : w1.cell? ⟨w.heap.size + 1, 2, none⟩ = some (.string txb) := by rw [Lib.cell_of_heap hh1]; rfl
  have c1_3 : w1.cell? ⟨w.heap.size + 1, 3, none⟩ = some (.int .i64 nb) := by rw [Lib.cell_of_heap hh1]; rfl
  have c1_4 : w1.cell? ⟨w.heap.size + 1, 4, none⟩ = some (.int .i64 mb) := by rw [Lib.cell_of_heap hh1]; rfl
  clear hh1
  have HH2_1 := Lib.hid hh2
  have lt2 := heap_lt hh2
  have c2_0 : w1.cell? ⟨w.heap.size + 1 + 1, 0, none⟩ = some (.int .u8 kc) := by rw [Lib.cell_of_heap hh2]; rfl
  have c2_1 : w1.cell? ⟨w.heap.size + 1 + 1, 1, none⟩ = some (.string nmc) := by rw [Lib.cell_of_heap hh2]; rfl
  have c2_2 : w1.cell? ⟨w.heap.size + 1 + 1, 2, none⟩ = some (.string txc) := by rw [Lib.cell_of_heap hh2]; rfl
  have c2_3 : w1.cell? ⟨w.heap.size + 1 + 1, 3, none⟩ = some (.int .i64 nc) := by rw [Lib.cell_of_heap hh2]; rfl
  have c2_4 : w1.cell? ⟨w.heap.size + 1 + 1, 4, none⟩ = some (.int .i64 mc) := by rw [Lib.cell_of_heap hh2]; rfl
  clear hh2
  have sz1 := hbw1.size
  have HW1 := Lib.hid hbw1
  go_wp2_with fail
  refine (HG.out _ (by first | exact HW1.out | exact HW1.out.trans ⟨rfl, rfl, rfl, Nat.le_refl _, fun _ _ => rfl⟩ | (go_grown; done))).mono ?_; rintro e w2 ⟨rfl, hb⟩
  have hv0 := HH0_1.out
  have hh0 : w2.heap[w.heap.size]? = some (.cells #[.int .u8 ka, .string nma, .string txa, .int .i64 na, .int .i64 ma] 23 (0, 0)) := (hb.block _ (heap_lt hv0)).trans hv0
  clear hv0
  have hv1 := HH1_1.out
  have hh1 : w2.heap[w.heap.size + 1]? = some (.cells #[.int .u8 kb, .string nmb, .string txb, .int .i64 nb, .int .i64 mb] 23 (0, 0)) := (hb.block _ (heap_lt hv1)).trans hv1
  clear hv1
  have hv2 := HH2_1.out
  have hh2 : w2.heap[w.heap.size + 1 + 1]? = some (.cells #[.int .u8 kc, .string nmc, .string txc, .int .i64 nc, .int .i64 mc] 23 (0, 0)) := (hb.block _ (heap_lt hv2)).trans hv2
  clear hv2
  have hbw2 : Below w.heap.size w w2 := (show Below w.heap.size w _ by first | exact HW1.out.trans ⟨rfl, rfl, rfl, Nat.le_refl _, fun _ _ => rfl⟩ | exact HW1.out | (go_grown; done)).trans (hb.mono (by first | omega | (simp; done) | (simp; omega)))
  clear hb lt0 c0_0 c0_1 c0_2 c0_3 c0_4 lt1 c1_0 c1_1 c1_2 c1_3 c1_4 lt2 c2_0 c2_1 c2_2 c2_3 c2_4 hbw1
  have HH0_2 := Lib.hid hh0
  have lt0 := heap_lt hh0
  have c0_0 : w2.cell? ⟨w.heap.size, 0, none⟩ = some (.int .u8 ka) := by rw [Lib.cell_of_heap hh0]; rfl
  have c0_1 : w2.cell? ⟨w.heap.size, 1, none⟩ = some (.string nma) := by rw [Lib.cell_of_heap hh0]; rfl
  have c0_2 : w2.cell? ⟨w.heap.size, 2, none⟩ = some (.string txa) := by rw [Lib.cell_of_heap hh0]; rfl
  have c0_3 : w2.cell? ⟨w.heap.size, 3, none⟩ = some (.int .i64 na) := by rw [Lib.cell_of_heap hh0]; rfl
  have c0_4 : w2.cell? ⟨w.heap.size, 4, none⟩ = some (.int .i64 ma) := by rw [Lib.cell_of_heap hh0]; rfl
  clear hh0
  have HH1_2 := Lib.hid hh1
  have lt1 := heap_lt hh1
  have c1_0 : w2.cell? ⟨w.heap.size + 1, 0, none⟩ = some (.int .u8 kb) := by rw [Lib.cell_of_heap hh1]; rfl
  have c1_1 : w2.cell? ⟨w.heap.size + 1, 1, none⟩ = some (.string nmb) := by rw [Lib.cell_of_heap hh1]; rfl
  have c1_2 : w2.cell? ⟨w.heap.size + 1, 2, none⟩ = some (.string txb) := by rw [Lib.cell_of_heap hh1]; rfl
  have c1_3 : w2.cell? ⟨w.heap.size + 1, 3, none⟩ = some (.int .i64 nb) := by rw [Lib.cell_of_heap hh1]; rfl
  have c1_4 : w2.cell? ⟨w.heap.size + 1, 4, none⟩ = some (.int .i64 mb) := by rw [Lib.cell_of_heap hh1]; rfl
  clear hh1
  have HH2_2 := Lib.hid hh2
  have lt2 := heap_lt hh2
  have c2_0 : w2.cell? ⟨w.heap.size + 1 + 1, 0, none⟩ = some (.int .u8 kc) := by rw [Lib.cell_of_heap hh2]; rfl
  have c2_1 : w2.cell? ⟨w.heap.size + 1 + 1, 1, none⟩ = some (.string nmc) := by rw [Lib.cell_of_heap hh2]; rfl
  have c2_2 : w2.cell? ⟨w.heap.size + 1 + 1, 2, none⟩ = some (.string txc) := by rw [Lib.cell_of_heap hh2]; rfl
  have c2_3 : w2.cell? ⟨w.heap.size + 1 + 1, 3, none⟩ = some (.int .i64 nc) := by rw [Lib.cell_of_heap hh2]; rfl
  have c2_4 : w2.cell? ⟨w.heap.size + 1 + 1, 4, none⟩ = some (.int .i64 mc) := by rw [Lib.cell_of_heap hh2]; rfl
  clear hh2
  have sz2 := hbw2.size
  have HW2 := Lib.hid hbw2
  go_wp2_with fail
  refine (HH.out _ (by first | exact HW2.out | exact HW2.out.trans ⟨rfl, rfl, rfl, Nat.le_refl _, fun _ _ => rfl⟩ | (go_grown; done))).mono ?_; rintro e w3 ⟨rfl, hb⟩
  have hv0 := HH0_2.out
  have hh0 : w3.heap[w.heap.size]? = some (.cells #[.int .u8 ka, .string nma, .string txa, .int .i64 na, .int .i64 ma] 23 (0, 0)) := (hb.block _ (heap_lt hv0)).trans hv0
  clear hv0
  have hv1 := HH1_2.out
  have hh1 : w3.heap[w.heap.size + 1]? = some (.cells #[.int .u8 kb, .string nmb, .string txb, .int .i64 nb, .int .i64 mb] 23 (0, 0)) := (hb.block _ (heap_lt hv1)).trans hv1
  clear hv1
  have hv2 := HH2_2.out
  have hh2 : w3.heap[w.heap.size + 1 + 1]? = some (.cells #[.int .u8 kc, .string nmc, .string txc, .int .i64 nc, .int .i64 mc] 23 (0, 0)) := (hb.block _ (heap_lt hv2)).trans hv2
  clear hv2
  have hbw3 : Below w.heap.size w w3 := (show Below w.heap.size w _ by first | exact HW2.out.trans ⟨rfl, rfl, rfl, Nat.le_refl _, fun _ _ => rfl⟩ | exact HW2.out | (go_grown; done)).trans (hb.mono (by first | omega | (simp; done) | (simp; omega)))
  clear hb lt0 c0_0 c0_1 c0_2 c0_3 c0_4 lt1 c1_0 c1_1 c1_2 c1_3 c1_4 lt2 c2_0 c2_1 c2_2 c2_3 c2_4 hbw2
  have HH0_3 := Lib.hid hh0
  have lt0 := heap_lt hh0
  have c0_0 : w3.cell? ⟨w.heap.size, 0, none⟩ = some (.int .u8 ka) := by rw [Lib.cell_of_heap hh0]; rfl
  have c0_1 : w3.cell? ⟨w.heap.size, 1, none⟩ = some (.string nma) := by rw [Lib.cell_of_heap hh0]; rfl
  have c0_2 : w3.cell? ⟨w.heap.size, 2, none⟩ = some (.string txa) := by rw [Lib.cell_of_heap hh0]; rfl
  have c0_3 : w3.cell? ⟨w.heap.size, 3, none⟩ = some (.int .i64 na) := by rw [Lib.cell_of_heap hh0]; rfl
  have c0_4 : w3.cell? ⟨w.heap.size, 4, none⟩ = some (.int .i64 ma) := by rw [Lib.cell_of_heap hh0]; rfl
  clear hh0
  have HH1_3 := Lib.hid hh1
  have lt1 := heap_lt hh1
  have c1_0 : w3.cell? ⟨w.heap.size + 1, 0, none⟩ = some (.int .u8 kb) := by rw [Lib.cell_of_heap hh1]; rfl
  have c1_1 : w3.cell? ⟨w.heap.size + 1, 1, none⟩ = some (.string nmb) := by rw [Lib.cell_of_heap hh1]; rfl
  have c1_2 : w3.cell? ⟨w.heap.size + 1, 2, none⟩ = some (.string txb) := by rw [Lib.cell_of_heap hh1]; rfl
  have c1_3 : w3.cell? ⟨w.heap.size + 1, 3, none⟩ = some (.int .i64 nb) := by rw [Lib.cell_of_heap hh1]; rfl
  have c1_4 : w3.cell? ⟨w.heap.size + 1, 4, none⟩ = some (.int .i64 mb) := by rw [Lib.cell_of_heap hh1]; rfl
  clear hh1
  have HH2_3 := Lib.hid hh2
  have lt2 := heap_lt hh2
  have c2_0 : w3.cell? ⟨w.heap.size + 1 + 1, 0, none⟩ = some (.int .u8 kc) := by rw [Lib.cell_of_heap hh2]; rfl
  have c2_1 : w3.cell? ⟨w.heap.size + 1 + 1, 1, none⟩ = some (.string nmc) := by rw [Lib.cell_of_heap hh2]; rfl
  have c2_2 : w3.cell? ⟨w.heap.size + 1 + 1, 2, none⟩ = some (.string txc) := by rw [Lib.cell_of_heap hh2]; rfl
  have c2_3 : w3.cell? ⟨w.heap.size + 1 + 1, 3, none⟩ = some (.int .i64 nc) := by rw [Lib.cell_of_heap hh2]; rfl
  have c2_4 : w3.cell? ⟨w.heap.size + 1 + 1, 4, none⟩ = some (.int .i64 mc) := by rw [Lib.cell_of_heap hh2]; rfl
  clear hh2
  have sz3 := hbw3.size
  have HW3 := Lib.hid hbw3
  go_wp2_with fail
  go_ret
  exact ⟨rfl, by first | exact HW3.out | (go_grown; done)⟩
set_option maxRecDepth 100000 in
set_option maxHeartbeats 4000000 in
theorem sums16_bad (k : Int) (ka : Int) (nma txa : ByteArray) (na ma : Int) (kb : Int) (nmb txb : ByteArray) (nb mb : Int) (kc : Int) (nmc txc : ByteArray) (nc mc : Int) (kz : Int) (nmz txz : ByteArray) (nz mz : Int) (w : World) (hE : EnvS w) (HG : Hid (DoesU w 7 #[.agg #[.int .u8 ka, .string nma, .string txa, .int .i64 na, .int .i64 ma], .agg #[.int .u8 kb, .string nmb, .string txb, .int .i64 nb, .int .i64 mb]] (.bool false))) (HH : Hid (DoesU w 7 #[.agg #[.int .u8 kc, .string nmc, .string txc, .int .i64 nc, .int .i64 mc], .agg #[.int .u8 kc, .string nmc, .string txc, .int .i64 nc, .int .i64 mc]] (.bool false))) (e g n h m i : Int)
    (H1 : Hid (DoesU w 11 #[.int .u8 k, .agg #[.int .u8 ka, .string nma, .string txa, .int .i64 na, .int .i64 ma], .agg #[.int .u8 kb, .string nmb, .string txb, .int .i64 nb, .int .i64 mb]] (.tuple #[.agg #[.int .u8 0, .string ⟨#[]⟩, .string ⟨#[]⟩, .int .i64 0, .int .i64 0], .int .i64 e]))) (H2 : Hid (DoesU w 11 #[.int .u8 k, .agg #[.int .u8 kb, .string nmb, .string txb, .int .i64 nb, .int .i64 mb], .agg #[.int .u8 ka, .string nma, .string txa, .int .i64 na, .int .i64 ma]] (.tuple #[.agg #[.int .u8 0, .string ⟨#[]⟩, .string ⟨#[]⟩, .int .i64 0, .int .i64 0], .int .i64 e]))) (H3 : Hid (DoesU w 11 #[.int .u8 k, .agg #[.int .u8 kc, .string nmc, .string txc, .int .i64 nc, .int .i64 mc], .agg #[.int .u8 kb, .string nmb, .string txb, .int .i64 nb, .int .i64 mb]] (.tuple #[.agg #[.int .u8 kz, .string nmz, .string txz, .int .i64 nz, .int .i64 mz], .int .i64 g])))
    (H4 : Hid (DoesU w 10 #[.int .u8 k, .agg #[.int .u8 ka, .string nma, .string txa, .int .i64 na, .int .i64 ma], .agg #[.int .u8 kc, .string nmc, .string txc, .int .i64 nc, .int .i64 mc]] (.tuple #[.int .i64 n, .int .i64 h]))) (H5 : Hid (DoesU w 10 #[.int .u8 k, .agg #[.int .u8 0, .string ⟨#[]⟩, .string ⟨#[]⟩, .int .i64 0, .int .i64 0], .agg #[.int .u8 kz, .string nmz, .string txz, .int .i64 nz, .int .i64 mz]] (.tuple #[.int .i64 m, .int .i64 i]))) (he : (e != 0) = true) (he2 : (e == 0) = false) :
    Calls Tryz.prog 5 #[.int .u8 k, .agg #[.int .u8 ka, .string nma, .string txa, .int .i64 na, .int .i64 ma], .agg #[.int .u8 kb, .string nmb, .string txb, .int .i64 nb, .int .i64 mb], .agg #[.int .u8 kc, .string nmc, .string txc, .int .i64 nc, .int .i64 mc]] w fun e w' => e = .returned (.bool true) ∧ Below w.heap.size w w' := by
  have HA : Hid (DoesU w 6 #[] (.bool true)) := Lib.hid fun W hW => lalive16 W (hE.below hW)
  go_enter Tryz.func5, Tryz.ntmps5
  go_wp2_with fail
  refine (HA.out _ (by first | exact Below.refl _ _ | (go_grown; done))).mono ?_; rintro e w1 ⟨rfl, hb⟩
  have hh0 : w1.heap[w.heap.size]? = some (.cells #[.int .u8 ka, .string nma, .string txa, .int .i64 na, .int .i64 ma] 23 (0, 0)) := (hb.block _ (by first | omega | (simp; done) | (simp; omega))).trans (heap_old (o' := (.cells #[.int .u8 kc, .string nmc, .string txc, .int .i64 nc, .int .i64 mc] 23 (0, 0))) (heap_old (o' := (.cells #[.int .u8 kb, .string nmb, .string txb, .int .i64 nb, .int .i64 mb] 23 (0, 0))) (heap_new _ _ _ (by first | rfl | simp))))
  have hh1 : w1.heap[w.heap.size + 1]? = some (.cells #[.int .u8 kb, .string nmb, .string txb, .int .i64 nb, .int .i64 mb] 23 (0, 0)) := (hb.block _ (by first | omega | (simp; done) | (simp; omega))).trans (heap_old (o' := (.cells #[.int .u8 kc, .string nmc, .string txc, .int .i64 nc, .int .i64 mc] 23 (0, 0))) (heap_new _ _ _ (by first | rfl | simp)))
  have hh2 : w1.heap[w.heap.size + 1 + 1]? = some (.cells #[.int .u8 kc, .string nmc, .string txc, .int .i64 nc, .int .i64 mc] 23 (0, 0)) := (hb.block _ (by first | omega | (simp; done) | (simp; omega))).trans (heap_new _ _ _ (by first | rfl | simp))
  have hbw1 : Below w.heap.size w w1 := (show Below w.heap.size w _ by first | exact Below.refl _ _ | (go_grown; done)).trans (hb.mono (by first | omega | (simp; done) | (simp; omega)))
  clear hb
  have HH0_1 := Lib.hid hh0
  have lt0 := heap_lt hh0
  have c0_0 : w1.cell? ⟨w.heap.size, 0, none⟩ = some (.int .u8 ka) := by rw [Lib.cell_of_heap hh0]; rfl
  have c0_1 : w1.cell? ⟨w.heap.size, 1, none⟩ = some (.string nma) := by rw [Lib.cell_of_heap hh0]; rfl
  have c0_2 : w1.cell? ⟨w.heap.size, 2, none⟩ = some (.string txa) := by rw [Lib.cell_of_heap hh0]; rfl
  have c0_3 : w1.cell? ⟨w.heap.size, 3, none⟩ = some (.int .i64 na) := by rw [Lib.cell_of_heap hh0]; rfl
  have c0_4 : w1.cell? ⟨w.heap.size, 4, none⟩ = some (.int .i64 ma) := by rw [Lib.cell_of_heap hh0]; rfl
  clear hh0
  have HH1_1 := Lib.hid hh1
  have lt1 := heap_lt hh1
  have c1_0 : w1.cell? ⟨w.heap.size + 1, 0, none⟩ = some (.int .u8 kb) := by rw [Lib.cell_of_heap hh1]; rfl
  have c1_1 : w1.cell? ⟨w.heap.size + 1, 1, none⟩ = some (.string nmb) := by rw [Lib.cell_of_heap hh1]; rfl
  have c1_2 : w1.cell? ⟨w.heap.size + 1, 2, none⟩ = some (.string txb) := by rw [Lib.cell_of_heap hh1]; rfl
  have c1_3 : w1.cell? ⟨w.heap.size + 1, 3, none⟩ = some (.int .i64 nb) := by rw [Lib.cell_of_heap hh1]; rfl
  have c1_4 : w1.cell? ⟨w.heap.size + 1, 4, none⟩ = some (.int .i64 mb) := by rw [Lib.cell_of_heap hh1]; rfl
  clear hh1
  have HH2_1 := Lib.hid hh2
  have lt2 := heap_lt hh2
  have c2_0 : w1.cell? ⟨w.heap.size + 1 + 1, 0, none⟩ = some (.int .u8 kc) := by rw [Lib.cell_of_heap hh2]; rfl
  have c2_1 : w1.cell? ⟨w.heap.size + 1 + 1, 1, none⟩ = some (.string nmc) := by rw [Lib.cell_of_heap hh2]; rfl
  have c2_2 : w1.cell? ⟨w.heap.size + 1 + 1, 2, none⟩ = some (.string txc) := by rw [Lib.cell_of_heap hh2]; rfl
  have c2_3 : w1.cell? ⟨w.heap.size + 1 + 1, 3, none⟩ = some (.int .i64 nc) := by rw [Lib.cell_of_heap hh2]; rfl
  have c2_4 : w1.cell? ⟨w.heap.size + 1 + 1, 4, none⟩ = some (.int .i64 mc) := by rw [Lib.cell_of_heap hh2]; rfl
  clear hh2
  have sz1 := hbw1.size
  have HW1 := Lib.hid hbw1
  go_wp2_with fail
  refine (HG.out _ (by first | exact HW1.out | exact HW1.out.trans ⟨rfl, rfl, rfl, Nat.le_refl _, fun _ _ => rfl⟩ | (go_grown; done))).mono ?_; rintro e w2 ⟨rfl, hb⟩
  have hv0 := HH0_1.out
  have hh0 : w2.heap[w.heap.size]? = some (.cells #[.int .u8 ka, .string nma, .string txa, .int .i64 na, .int .i64 ma] 23 (0, 0)) := (hb.block _ (heap_lt hv0)).trans hv0
  clear hv0
  have hv1 := HH1_1.out
  have hh1 : w2.heap[w.heap.size + 1]? = some (.cells #[.int .u8 kb, .string nmb, .string txb, .int .i64 nb, .int .i64 mb] 23 (0, 0)) := (hb.block _ (heap_lt hv1)).trans hv1
  clear hv1
  have hv2 := HH2_1.out
  have hh2 : w2.heap[w.heap.size + 1 + 1]? = some (.cells #[.int .u8 kc, .string nmc, .string txc, .int .i64 nc, .int .i64 mc] 23 (0, 0)) := (hb.block _ (heap_lt hv2)).trans hv2
  clear hv2
  have hbw2 : Below w.heap.size w w2 := (show Below w.heap.size w _ by first | exact HW1.out.trans ⟨rfl, rfl, rfl, Nat.le_refl _, fun _ _ => rfl⟩ | exact HW1.out | (go_grown; done)).trans (hb.mono (by first | omega | (simp; done) | (simp; omega)))
  clear hb lt0 c0_0 c0_1 c0_2 c0_3 c0_4 lt1 c1_0 c1_1 c1_2 c1_3 c1_4 lt2 c2_0 c2_1 c2_2 c2_3 c2_4 hbw1
  have HH0_2 := Lib.hid hh0
  have lt0 := heap_lt hh0
  have c0_0 : w2.cell? ⟨w.heap.size, 0, none⟩ = some (.int .u8 ka) := by rw [Lib.cell_of_heap hh0]; rfl
  have c0_1 : w2.cell? ⟨w.heap.size, 1, none⟩ = some (.string nma) := by rw [Lib.cell_of_heap hh0]; rfl
  have c0_2 : w2.cell? ⟨w.heap.size, 2, none⟩ = some (.string txa) := by rw [Lib.cell_of_heap hh0]; rfl
  have c0_3 : w2.cell? ⟨w.heap.size, 3, none⟩ = some (.int .i64 na) := by rw [Lib.cell_of_heap hh0]; rfl
  have c0_4 : w2.cell? ⟨w.heap.size, 4, none⟩ = some (.int .i64 ma) := by rw [Lib.cell_of_heap hh0]; rfl
  clear hh0
  have HH1_2 := Lib.hid hh1
  have lt1 := heap_lt hh1
  have c1_0 : w2.cell? ⟨w.heap.size + 1, 0, none⟩ = some (.int .u8 kb) := by rw [Lib.cell_of_heap hh1]; rfl
  have c1_1 : w2.cell? ⟨w.heap.size + 1, 1, none⟩ = some (.string nmb) := by rw [Lib.cell_of_heap hh1]; rfl
  have c1_2 : w2.cell? ⟨w.heap.size + 1, 2, none⟩ = some (.string txb) := by rw [Lib.cell_of_heap hh1]; rfl
  have c1_3 : w2.cell? ⟨w.heap.size + 1, 3, none⟩ = some (.int .i64 nb) := by rw [Lib.cell_of_heap hh1]; rfl
  have c1_4 : w2.cell? ⟨w.heap.size + 1, 4, none⟩ = some (.int .i64 mb) := by rw [Lib.cell_of_heap hh1]; rfl
  clear hh1
  have HH2_2 := Lib.hid hh2
  have lt2 := heap_lt hh2
  have c2_0 : w2.cell? ⟨w.heap.size + 1 + 1, 0, none⟩ = some (.int .u8 kc) := by rw [Lib.cell_of_heap hh2]; rfl
  have c2_1 : w2.cell? ⟨w.heap.size + 1 + 1, 1, none⟩ = some (.string nmc) := by rw [Lib.cell_of_heap hh2]; rfl
  have c2_2 : w2.cell? ⟨w.heap.size + 1 + 1, 2, none⟩ = some (.string txc) := by rw [Lib.cell_of_heap hh2]; rfl
  have c2_3 : w2.cell? ⟨w.heap.size + 1 + 1, 3, none⟩ = some (.int .i64 nc) := by rw [Lib.cell_of_heap hh2]; rfl
  have c2_4 : w2.cell? ⟨w.heap.size + 1 + 1, 4, none⟩ = some (.int .i64 mc) := by rw [Lib.cell_of_heap hh2]; rfl
  clear hh2
  have sz2 := hbw2.size
  have HW2 := Lib.hid hbw2
  go_wp2_with fail
  refine (HH.out _ (by first | exact HW2.out | exact HW2.out.trans ⟨rfl, rfl, rfl, Nat.le_refl _, fun _ _ => rfl⟩ | (go_grown; done))).mono ?_; rintro e w3 ⟨rfl, hb⟩
  have hv0 := HH0_2.out
  have hh0 : w3.heap[w.heap.size]? = some (.cells #[.int .u8 ka, .string nma, .string txa, .int .i64 na, .int .i64 ma] 23 (0, 0)) := (hb.block _ (heap_lt hv0)).trans hv0
  clear hv0
  have hv1 := HH1_2.out
  have hh1 : w3.heap[w.heap.size + 1]? = some (.cells #[.int .u8 kb, .string nmb, .string txb, .int .i64 nb, .int .i64 mb] 23 (0, 0)) := (hb.block _ (heap_lt hv1)).trans hv1
  clear hv1
  have hv2 := HH2_2.out
  have hh2 : w3.heap[w.heap.size + 1 + 1]? = some (.cells #[.int .u8 kc, .string nmc, .string txc, .int .i64 nc, .int .i64 mc] 23 (0, 0)) := (hb.block _ (heap_lt hv2)).trans hv2
  clear hv2
  have hbw3 : Below w.heap.size w w3 := (show Below w.heap.size w _ by first | exact HW2.out.trans ⟨rfl, rfl, rfl, Nat.le_refl _, fun _ _ => rfl⟩ | exact HW2.out | (go_grown; done)).trans (hb.mono (by first | omega | (simp; done) | (simp; omega)))
  clear hb lt0 c0_0 c0_1 c0_2 c0_3 c0_4 lt1 c1_0 c1_1 c1_2 c1_3 c1_4 lt2 c2_0 c2_1 c2_2 c2_3 c2_4 hbw2
  have HH0_3 := Lib.hid hh0
  have lt0 := heap_lt hh0
  have c0_0 : w3.cell? ⟨w.heap.size, 0, none⟩ = some (.int .u8 ka) := by rw [Lib.cell_of_heap hh0]; rfl
  have c0_1 : w3.cell? ⟨w.heap.size, 1, none⟩ = some (.string nma) := by rw [Lib.cell_of_heap hh0]; rfl
  have c0_2 : w3.cell? ⟨w.heap.size, 2, none⟩ = some (.string txa) := by rw [Lib.cell_of_heap hh0]; rfl
  have c0_3 : w3.cell? ⟨w.heap.size, 3, none⟩ = some (.int .i64 na) := by rw [Lib.cell_of_heap hh0]; rfl
  have c0_4 : w3.cell? ⟨w.heap.size, 4, none⟩ = some (.int .i64 ma) := by rw [Lib.cell_of_heap hh0]; rfl
  clear hh0
  have HH1_3 := Lib.hid hh1
  have lt1 := heap_lt hh1
  have c1_0 : w3.cell? ⟨w.heap.size + 1, 0, none⟩ = some (.int .u8 kb) := by rw [Lib.cell_of_heap hh1]; rfl
  have c1_1 : w3.cell? ⟨w.heap.size + 1, 1, none⟩ = some (.string nmb) := by rw [Lib.cell_of_heap hh1]; rfl
  have c1_2 : w3.cell? ⟨w.heap.size + 1, 2, none⟩ = some (.string txb) := by rw [Lib.cell_of_heap hh1]; rfl
  have c1_3 : w3.cell? ⟨w.heap.size + 1, 3, none⟩ = some (.int .i64 nb) := by rw [Lib.cell_of_heap hh1]; rfl
  have c1_4 : w3.cell? ⟨w.heap.size + 1, 4, none⟩ = some (.int .i64 mb) := by rw [Lib.cell_of_heap hh1]; rfl
  clear hh1
  have HH2_3 := Lib.hid hh2
  have lt2 := heap_lt hh2
  have c2_0 : w3.cell? ⟨w.heap.size + 1 + 1, 0, none⟩ = some (.int .u8 kc) := by rw [Lib.cell_of_heap hh2]; rfl
  have c2_1 : w3.cell? ⟨w.heap.size + 1 + 1, 1, none⟩ = some (.string nmc) := by rw [Lib.cell_of_heap hh2]; rfl
  have c2_2 : w3.cell? ⟨w.heap.size + 1 + 1, 2, none⟩ = some (.string txc) := by rw [Lib.cell_of_heap hh2]; rfl
  have c2_3 : w3.cell? ⟨w.heap.size + 1 + 1, 3, none⟩ = some (.int .i64 nc) := by rw [Lib.cell_of_heap hh2]; rfl
  have c2_4 : w3.cell? ⟨w.heap.size + 1 + 1, 4, none⟩ = some (.int .i64 mc) := by rw [Lib.cell_of_heap hh2]; rfl
  clear hh2
  have sz3 := hbw3.size
  have HW3 := Lib.hid hbw3
  go_wp2_with fail
  refine (H1.out _ (by first | exact HW3.out | exact HW3.out.trans ⟨rfl, rfl, rfl, Nat.le_refl _, fun _ _ => rfl⟩ | (go_grown; done))).mono ?_; rintro e w4 ⟨rfl, hb⟩
  have hv0 := HH0_3.out
  have hh0 : w4.heap[w.heap.size]? = some (.cells #[.int .u8 ka, .string nma, .string txa, .int .i64 na, .int .i64 ma] 23 (0, 0)) := (hb.block _ (heap_lt hv0)).trans hv0
  clear hv0
  have hv1 := HH1_3.out
  have hh1 : w4.heap[w.heap.size + 1]? = some (.cells #[.int .u8 kb, .string nmb, .string txb, .int .i64 nb, .int .i64 mb] 23 (0, 0)) := (hb.block _ (heap_lt hv1)).trans hv1
  clear hv1
  have hv2 := HH2_3.out
  have hh2 : w4.heap[w.heap.size + 1 + 1]? = some (.cells #[.int .u8 kc, .string nmc, .string txc, .int .i64 nc, .int .i64 mc] 23 (0, 0)) := (hb.block _ (heap_lt hv2)).trans hv2
  clear hv2
  have hbw4 : Below w.heap.size w w4 := (show Below w.heap.size w _ by first | exact HW3.out.trans ⟨rfl, rfl, rfl, Nat.le_refl _, fun _ _ => rfl⟩ | exact HW3.out | (go_grown; done)).trans (hb.mono (by first | omega | (simp; done) | (simp; omega)))
  clear hb lt0 c0_0 c0_1 c0_2 c0_3 c0_4 lt1 c1_0 c1_1 c1_2 c1_3 c1_4 lt2 c2_0 c2_1 c2_2 c2_3 c2_4 hbw3
  have HH0_4 := Lib.hid hh0
  have lt0 := heap_lt hh0
  have c0_0 : w4.cell? ⟨w.heap.size, 0, none⟩ = some (.int .u8 ka) := by rw [Lib.cell_of_heap hh0]; rfl
  have c0_1 : w4.cell? ⟨w.heap.size, 1, none⟩ = some (.string nma) := by rw [Lib.cell_of_heap hh0]; rfl
  have c0_2 : w4.cell? ⟨w.heap.size, 2, none⟩ = some (.string txa) := by rw [Lib.cell_of_heap hh0]; rfl
  have c0_3 : w4.cell? ⟨w.heap.size, 3, none⟩ = some (.int .i64 na) := by rw [Lib.cell_of_heap hh0]; rfl
  have c0_4 : w4.cell? ⟨w.heap.size, 4, none⟩ = some (.int .i64 ma) := by rw [Lib.cell_of_heap hh0]; rfl
  clear hh0
  have HH1_4 := Lib.hid hh1
  have lt1 := heap_lt hh1
  have c1_0 : w4.cell? ⟨w.heap.size + 1, 0, none⟩ = some (.int .u8 kb) := by rw [Lib.cell_of_heap hh1]; rfl
  have c1_1 : w4.cell? ⟨w.heap.size + 1, 1, none⟩ = some (.string nmb) := by rw [Lib.cell_of_heap hh1]; rfl
  have c1_2 : w4.cell? ⟨w.heap.size + 1, 2, none⟩ = some (.string txb) := by rw [Lib.cell_of_heap hh1]; rfl
  have c1_3 : w4.cell? ⟨w.heap.size + 1, 3, none⟩ = some (.int .i64 nb) := by rw [Lib.cell_of_heap hh1]; rfl
  have c1_4 : w4.cell? ⟨w.heap.size + 1, 4, none⟩ = some (.int .i64 mb) := by rw [Lib.cell_of_heap hh1]; rfl
  clear hh1
  have HH2_4 := Lib.hid hh2
  have lt2 := heap_lt hh2
  have c2_0 : w4.cell? ⟨w.heap.size + 1 + 1, 0, none⟩ = some (.int .u8 kc) := by rw [Lib.cell_of_heap hh2]; rfl
  have c2_1 : w4.cell? ⟨w.heap.size + 1 + 1, 1, none⟩ = some (.string nmc) := by rw [Lib.cell_of_heap hh2]; rfl
  have c2_2 : w4.cell? ⟨w.heap.size + 1 + 1, 2, none⟩ = some (.string txc) := by rw [Lib.cell_of_heap hh2]; rfl
  have c2_3 : w4.cell? ⟨w.heap.size + 1 + 1, 3, none⟩ = some (.int .i64 nc) := by rw [Lib.cell_of_heap hh2]; rfl
  have c2_4 : w4.cell? ⟨w.heap.size + 1 + 1, 4, none⟩ = some (.int .i64 mc) := by rw [Lib.cell_of_heap hh2]; rfl
  clear hh2
  have sz4 := hbw4.size
  have HW4 := Lib.hid hbw4
  go_wp2_with fail
  refine (H2.out _ (by first | exact HW4.out | exact HW4.out.trans ⟨rfl, rfl, rfl, Nat.le_refl _, fun _ _ => rfl⟩ | (go_grown; done))).mono ?_; rintro e w5 ⟨rfl, hb⟩
  have hv0 := heap_old (o' := (.cells #[.int .u8 0, .string ⟨#[]⟩, .string ⟨#[]⟩, .int .i64 0, .int .i64 0] 23 (0, 0))) (HH0_4.out)
  have hh0 : w5.heap[w.heap.size]? = some (.cells #[.int .u8 ka, .string nma, .string txa, .int .i64 na, .int .i64 ma] 23 (0, 0)) := (hb.block _ (heap_lt hv0)).trans hv0
  clear hv0
  have hv1 := heap_old (o' := (.cells #[.int .u8 0, .string ⟨#[]⟩, .string ⟨#[]⟩, .int .i64 0, .int .i64 0] 23 (0, 0))) (HH1_4.out)
  have hh1 : w5.heap[w.heap.size + 1]? = some (.cells #[.int .u8 kb, .string nmb, .string txb, .int .i64 nb, .int .i64 mb] 23 (0, 0)) := (hb.block _ (heap_lt hv1)).trans hv1
  clear hv1
  have hv2 := heap_old (o' := (.cells #[.int .u8 0, .string ⟨#[]⟩, .string ⟨#[]⟩, .int .i64 0, .int .i64 0] 23 (0, 0))) (HH2_4.out)
  have hh2 : w5.heap[w.heap.size + 1 + 1]? = some (.cells #[.int .u8 kc, .string nmc, .string txc, .int .i64 nc, .int .i64 mc] 23 (0, 0)) := (hb.block _ (heap_lt hv2)).trans hv2
  clear hv2
  have hh3 : w5.heap[w4.heap.size]? = some (.cells #[.int .u8 0, .string ⟨#[]⟩, .string ⟨#[]⟩, .int .i64 0, .int .i64 0] 23 (0, 0)) := (hb.block _ (by first | omega | (simp; done) | (simp; omega))).trans (heap_new _ _ _ (by first | rfl | simp))
  have hbw5 : Below w.heap.size w w5 := (show Below w.heap.size w _ by first | exact HW4.out.trans ⟨rfl, rfl, rfl, Nat.le_refl _, fun _ _ => rfl⟩ | exact HW4.out | (go_grown; done)).trans (hb.mono (by first | omega | (simp; done) | (simp; omega)))
  clear hb lt0 c0_0 c0_1 c0_2 c0_3 c0_4 lt1 c1_0 c1_1 c1_2 c1_3 c1_4 lt2 c2_0 c2_1 c2_2 c2_3 c2_4 hbw4
  have HH0_5 := Lib.hid hh0
  have lt0 := heap_lt hh0
  have c0_0 : w5.cell? ⟨w.heap.size, 0, none⟩ = some (.int .u8 ka) := by rw [Lib.cell_of_heap hh0]; rfl
  have c0_1 : w5.cell? ⟨w.heap.size, 1, none⟩ = some (.string nma) := by rw [Lib.cell_of_heap hh0]; rfl
  have c0_2 : w5.cell? ⟨w.heap.size, 2, none⟩ = some (.string txa) := by rw [Lib.cell_of_heap hh0]; rfl
  have c0_3 : w5.cell? ⟨w.heap.size, 3, none⟩ = some (.int .i64 na) := by rw [Lib.cell_of_heap hh0]; rfl
  have c0_4 : w5.cell? ⟨w.heap.size, 4, none⟩ = some (.int .i64 ma) := by rw [Lib.cell_of_heap hh0]; rfl
  clear hh0
  have HH1_5 := Lib.hid hh1
  have lt1 := heap_lt hh1
  have c1_0 : w5.cell? ⟨w.heap.size + 1, 0, none⟩ = some (.int .u8 kb) := by rw [Lib.cell_of_heap hh1]; rfl
  have c1_1 : w5.cell? ⟨w.heap.size + 1, 1, none⟩ = some (.string nmb) := by rw [Lib.cell_of_heap hh1]; rfl
  have c1_2 : w5.cell? ⟨w.heap.size + 1, 2, none⟩ = some (.string txb) := by rw [Lib.cell_of_heap hh1]; rfl
  have c1_3 : w5.cell? ⟨w.heap.size + 1, 3, none⟩ = some (.int .i64 nb) := by rw [Lib.cell_of_heap hh1]; rfl
  have c1_4 : w5.cell? ⟨w.heap.size + 1, 4, none⟩ = some (.int .i64 mb) := by rw [Lib.cell_of_heap hh1]; rfl
  clear hh1
  have HH2_5 := Lib.hid hh2
  have lt2 := heap_lt hh2
  have c2_0 : w5.cell? ⟨w.heap.size + 1 + 1, 0, none⟩ = some (.int .u8 kc) := by rw [Lib.cell_of_heap hh2]; rfl
  have c2_1 : w5.cell? ⟨w.heap.size + 1 + 1, 1, none⟩ = some (.string nmc) := by rw [Lib.cell_of_heap hh2]; rfl
  have c2_2 : w5.cell? ⟨w.heap.size + 1 + 1, 2, none⟩ = some (.string txc) := by rw [Lib.cell_of_heap hh2]; rfl
  have c2_3 : w5.cell? ⟨w.heap.size + 1 + 1, 3, none⟩ = some (.int .i64 nc) := by rw [Lib.cell_of_heap hh2]; rfl
  have c2_4 : w5.cell? ⟨w.heap.size + 1 + 1, 4, none⟩ = some (.int .i64 mc) := by rw [Lib.cell_of_heap hh2]; rfl
  clear hh2
  have HH3_5 := Lib.hid hh3
  have lt3 := heap_lt hh3
  have c3_0 : w5.cell? ⟨w4.heap.size, 0, none⟩ = some (.int .u8 0) := by rw [Lib.cell_of_heap hh3]; rfl
  have c3_1 : w5.cell? ⟨w4.heap.size, 1, none⟩ = some (.string ⟨#[]⟩) := by rw [Lib.cell_of_heap hh3]; rfl
  have c3_2 : w5.cell? ⟨w4.heap.size, 2, none⟩ = some (.string ⟨#[]⟩) := by rw [Lib.cell_of_heap hh3]; rfl
  have c3_3 : w5.cell? ⟨w4.heap.size, 3, none⟩ = some (.int .i64 0) := by rw [Lib.cell_of_heap hh3]; rfl
  have c3_4 : w5.cell? ⟨w4.heap.size, 4, none⟩ = some (.int .i64 0) := by rw [Lib.cell_of_heap hh3]; rfl
  clear hh3
  have sz5 := hbw5.size
  have HW5 := Lib.hid hbw5
  go_wp2_with fail
  refine (H3.out _ (by first | exact HW5.out | exact HW5.out.trans ⟨rfl, rfl, rfl, Nat.le_refl _, fun _ _ => rfl⟩ | (go_grown; done))).mono ?_; rintro e w6 ⟨rfl, hb⟩
  have hv0 := heap_old (o' := (.cells #[.int .u8 0, .string ⟨#[]⟩, .string ⟨#[]⟩, .int .i64 0, .int .i64 0] 23 (0, 0))) (HH0_5.out)
  have hh0 : w6.heap[w.heap.size]? = some (.cells #[.int .u8 ka, .string nma, .string txa, .int .i64 na, .int .i64 ma] 23 (0, 0)) := (hb.block _ (heap_lt hv0)).trans hv0
  clear hv0
  have hv1 := heap_old (o' := (.cells #[.int .u8 0, .string ⟨#[]⟩, .string ⟨#[]⟩, .int .i64 0, .int .i64 0] 23 (0, 0))) (HH1_5.out)
  have hh1 : w6.heap[w.heap.size + 1]? = some (.cells #[.int .u8 kb, .string nmb, .string txb, .int .i64 nb, .int .i64 mb] 23 (0, 0)) := (hb.block _ (heap_lt hv1)).trans hv1
  clear hv1
  have hv2 := heap_old (o' := (.cells #[.int .u8 0, .string ⟨#[]⟩, .string ⟨#[]⟩, .int .i64 0, .int .i64 0] 23 (0, 0))) (HH2_5.out)
  have hh2 : w6.heap[w.heap.size + 1 + 1]? = some (.cells #[.int .u8 kc, .string nmc, .string txc, .int .i64 nc, .int .i64 mc] 23 (0, 0)) := (hb.block _ (heap_lt hv2)).trans hv2
  clear hv2
  have hv3 := heap_old (o' := (.cells #[.int .u8 0, .string ⟨#[]⟩, .string ⟨#[]⟩, .int .i64 0, .int .i64 0] 23 (0, 0))) (HH3_5.out)
  have hh3 : w6.heap[w4.heap.size]? = some (.cells #[.int .u8 0, .string ⟨#[]⟩, .string ⟨#[]⟩, .int .i64 0, .int .i64 0] 23 (0, 0)) := (hb.block _ (heap_lt hv3)).trans hv3
  clear hv3
  have hh4 : w6.heap[w5.heap.size]? = some (.cells #[.int .u8 0, .string ⟨#[]⟩, .string ⟨#[]⟩, .int .i64 0, .int .i64 0] 23 (0, 0)) := (hb.block _ (by first | omega | (simp; done) | (simp; omega))).trans (heap_new _ _ _ (by first | rfl | simp))
  have hbw6 : Below w.heap.size w w6 := (show Below w.heap.size w _ by first | exact HW5.out.trans ⟨rfl, rfl, rfl, Nat.le_refl _, fun _ _ => rfl⟩ | exact HW5.out | (go_grown; done)).trans (hb.mono (by first | omega | (simp; done) | (simp; omega)))
  clear hb lt0 c0_0 c0_1 c0_2 c0_3 c0_4 lt1 c1_0 c1_1 c1_2 c1_3 c1_4 lt2 c2_0 c2_1 c2_2 c2_3 c2_4 lt3 c3_0 c3_1 c3_2 c3_3 c3_4 hbw5
  have HH0_6 := Lib.hid hh0
  have lt0 := heap_lt hh0
  have c0_0 : w6.cell? ⟨w.heap.size, 0, none⟩ = some (.int .u8 ka) := by rw [Lib.cell_of_heap hh0]; rfl
  have c0_1 : w6.cell? ⟨w.heap.size, 1, none⟩ = some (.string nma) := by rw [Lib.cell_of_heap hh0]; rfl
  have c0_2 : w6.cell? ⟨w.heap.size, 2, none⟩ = some (.string txa) := by rw [Lib.cell_of_heap hh0]; rfl
  have c0_3 : w6.cell? ⟨w.heap.size, 3, none⟩ = some (.int .i64 na) := by rw [Lib.cell_of_heap hh0]; rfl
  have c0_4 : w6.cell? ⟨w.heap.size, 4, none⟩ = some (.int .i64 ma) := by rw [Lib.cell_of_heap hh0]; rfl
  clear hh0
  have HH1_6 := Lib.hid hh1
  have lt1 := heap_lt hh1
  have c1_0 : w6.cell? ⟨w.heap.size + 1, 0, none⟩ = some (.int .u8 kb) := by rw [Lib.cell_of_heap hh1]; rfl
  have c1_1 : w6.cell? ⟨w.heap.size + 1, 1, none⟩ = some (.string nmb) := by rw [Lib.cell_of_heap hh1]; rfl
  have c1_2 : w6.cell? ⟨w.heap.size + 1, 2, none⟩ = some (.string txb) := by rw [Lib.cell_of_heap hh1]; rfl
  have c1_3 : w6.cell? ⟨w.heap.size + 1, 3, none⟩ = some (.int .i64 nb) := by rw [Lib.cell_of_heap hh1]; rfl
  have c1_4 : w6.cell? ⟨w.heap.size + 1, 4, none⟩ = some (.int .i64 mb) := by rw [Lib.cell_of_heap hh1]; rfl
  clear hh1
  have HH2_6 := Lib.hid hh2
  have lt2 := heap_lt hh2
  have c2_0 : w6.cell? ⟨w.heap.size + 1 + 1, 0, none⟩ = some (.int .u8 kc) := by rw [Lib.cell_of_heap hh2]; rfl
  have c2_1 : w6.cell? ⟨w.heap.size + 1 + 1, 1, none⟩ = some (.string nmc) := by rw [Lib.cell_of_heap hh2]; rfl
  have c2_2 : w6.cell? ⟨w.heap.size + 1 + 1, 2, none⟩ = some (.string txc) := by rw [Lib.cell_of_heap hh2]; rfl
  have c2_3 : w6.cell? ⟨w.heap.size + 1 + 1, 3, none⟩ = some (.int .i64 nc) := by rw [Lib.cell_of_heap hh2]; rfl
  have c2_4 : w6.cell? ⟨w.heap.size + 1 + 1, 4, none⟩ = some (.int .i64 mc) := by rw [Lib.cell_of_heap hh2]; rfl
  clear hh2
  have HH3_6 := Lib.hid hh3
  have lt3 := heap_lt hh3
  have c3_0 : w6.cell? ⟨w4.heap.size, 0, none⟩ = some (.int .u8 0) := by rw [Lib.cell_of_heap hh3]; rfl
  have c3_1 : w6.cell? ⟨w4.heap.size, 1, none⟩ = some (.string ⟨#[]⟩) := by rw [Lib.cell_of_heap hh3]; rfl
  have c3_2 : w6.cell? ⟨w4.heap.size, 2, none⟩ = some (.string ⟨#[]⟩) := by rw [Lib.cell_of_heap hh3]; rfl
  have c3_3 : w6.cell? ⟨w4.heap.size, 3, none⟩ = some (.int .i64 0) := by rw [Lib.cell_of_heap hh3]; rfl
  have c3_4 : w6.cell? ⟨w4.heap.size, 4, none⟩ = some (.int .i64 0) := by rw [Lib.cell_of_heap hh3]; rfl
  clear hh3
  have HH4_6 := Lib.hid hh4
  have lt4 := heap_lt hh4
  have c4_0 : w6.cell? ⟨w5.heap.size, 0, none⟩ = some (.int .u8 0) := by rw [Lib.cell_of_heap hh4]; rfl
  have c4_1 : w6.cell? ⟨w5.heap.size, 1, none⟩ = some (.string ⟨#[]⟩) := by rw [Lib.cell_of_heap hh4]; rfl
  have c4_2 : w6.cell? ⟨w5.heap.size, 2, none⟩ = some (.string ⟨#[]⟩) := by rw [Lib.cell_of_heap hh4]; rfl
  have c4_3 : w6.cell? ⟨w5.heap.size, 3, none⟩ = some (.int .i64 0) := by rw [Lib.cell_of_heap hh4]; rfl
  have c4_4 : w6.cell? ⟨w5.heap.size, 4, none⟩ = some (.int .i64 0) := by rw [Lib.cell_of_heap hh4]; rfl
  clear hh4
  have sz6 := hbw6.size
  have HW6 := Lib.hid hbw6
  go_wp2_with fail
  refine (H4.out _ (by first | exact HW6.out | exact HW6.out.trans ⟨rfl, rfl, rfl, Nat.le_refl _, fun _ _ => rfl⟩ | (go_grown; done))).mono ?_; rintro e w7 ⟨rfl, hb⟩
  have hv0 := heap_old (o' := (.cells #[.int .u8 kz, .string nmz, .string txz, .int .i64 nz, .int .i64 mz] 23 (0, 0))) (HH0_6.out)
  have hh0 : w7.heap[w.heap.size]? = some (.cells #[.int .u8 ka, .string nma, .string txa, .int .i64 na, .int .i64 ma] 23 (0, 0)) := (hb.block _ (heap_lt hv0)).trans hv0
  clear hv0
  have hv1 := heap_old (o' := (.cells #[.int .u8 kz, .string nmz, .string txz, .int .i64 nz, .int .i64 mz] 23 (0, 0))) (HH1_6.out)
  have hh1 : w7.heap[w.heap.size + 1]? = some (.cells #[.int .u8 kb, .string nmb, .string txb, .int .i64 nb, .int .i64 mb] 23 (0, 0)) := (hb.block _ (heap_lt hv1)).trans hv1
  clear hv1
  have hv2 := heap_old (o' := (.cells #[.int .u8 kz, .string nmz, .string txz, .int .i64 nz, .int .i64 mz] 23 (0, 0))) (HH2_6.out)
  have hh2 : w7.heap[w.heap.size + 1 + 1]? = some (.cells #[.int .u8 kc, .string nmc, .string txc, .int .i64 nc, .int .i64 mc] 23 (0, 0)) := (hb.block _ (heap_lt hv2)).trans hv2
  clear hv2
  have hv3 := heap_old (o' := (.cells #[.int .u8 kz, .string nmz, .string txz, .int .i64 nz, .int .i64 mz] 23 (0, 0))) (HH3_6.out)
  have hh3 : w7.heap[w4.heap.size]? = some (.cells #[.int .u8 0, .string ⟨#[]⟩, .string ⟨#[]⟩, .int .i64 0, .int .i64 0] 23 (0, 0)) := (hb.block _ (heap_lt hv3)).trans hv3
  clear hv3
  have hv4 := heap_old (o' := (.cells #[.int .u8 kz, .string nmz, .string txz, .int .i64 nz, .int .i64 mz] 23 (0, 0))) (HH4_6.out)
  have hh4 : w7.heap[w5.heap.size]? = some (.cells #[.int .u8 0, .string ⟨#[]⟩, .string ⟨#[]⟩, .int .i64 0, .int .i64 0] 23 (0, 0)) := (hb.block _ (heap_lt hv4)).trans hv4
  clear hv4
  have hh5 : w7.heap[w6.heap.size]? = some (.cells #[.int .u8 kz, .string nmz, .string txz, .int .i64 nz, .int .i64 mz] 23 (0, 0)) := (hb.block _ (by first | omega | (simp; done) | (simp; omega))).trans (heap_new _ _ _ (by first | rfl | simp))
  have hbw7 : Below w.heap.size w w7 := (show Below w.heap.size w _ by first | exact HW6.out.trans ⟨rfl, rfl, rfl, Nat.le_refl _, fun _ _ => rfl⟩ | exact HW6.out | (go_grown; done)).trans (hb.mono (by first | omega | (simp; done) | (simp; omega)))
  clear hb lt0 c0_0 c0_1 c0_2 c0_3 c0_4 lt1 c1_0 c1_1 c1_2 c1_3 c1_4 lt2 c2_0 c2_1 c2_2 c2_3 c2_4 lt3 c3_0 c3_1 c3_2 c3_3 c3_4 lt4 c4_0 c4_1 c4_2 c4_3 c4_4 hbw6
  have HH0_7 := Lib.hid hh0
  have lt0 := heap_lt hh0
  have c0_0 : w7.cell? ⟨w.heap.size, 0, none⟩ = some (.int .u8 ka) := by rw [Lib.cell_of_heap hh0]; rfl
  have c0_1 : w7.cell? ⟨w.heap.size, 1, none⟩ = some (.string nma) := by rw [Lib.cell_of_heap hh0]; rfl
  have c0_2 : w7.cell? ⟨w.heap.size, 2, none⟩ = some (.string txa) := by rw [Lib.cell_of_heap hh0]; rfl
  have c0_3 : w7.cell? ⟨w.heap.size, 3, none⟩ = some (.int .i64 na) := by rw [Lib.cell_of_heap hh0]; rfl
  have c0_4 : w7.cell? ⟨w.heap.size, 4, none⟩ = some (.int .i64 ma) := by rw [Lib.cell_of_heap hh0]; rfl
  clear hh0
  have HH1_7 := Lib.hid hh1
  have lt1 := heap_lt hh1
  have c1_0 : w7.cell? ⟨w.heap.size + 1, 0, none⟩ = some (.int .u8 kb) := by rw [Lib.cell_of_heap hh1]; rfl
  have c1_1 : w7.cell? ⟨w.heap.size + 1, 1, none⟩ = some (.string nmb) := by rw [Lib.cell_of_heap hh1]; rfl
  have c1_2 : w7.cell? ⟨w.heap.size + 1, 2, none⟩ = some (.string txb) := by rw [Lib.cell_of_heap hh1]; rfl
  have c1_3 : w7.cell? ⟨w.heap.size + 1, 3, none⟩ = some (.int .i64 nb) := by rw [Lib.cell_of_heap hh1]; rfl
  have c1_4 : w7.cell? ⟨w.heap.size + 1, 4, none⟩ = some (.int .i64 mb) := by rw [Lib.cell_of_heap hh1]; rfl
  clear hh1
  have HH2_7 := Lib.hid hh2
  have lt2 := heap_lt hh2
  have c2_0 : w7.cell? ⟨w.heap.size + 1 + 1, 0, none⟩ = some (.int .u8 kc) := by rw [Lib.cell_of_heap hh2]; rfl
  have c2_1 : w7.cell? ⟨w.heap.size + 1 + 1, 1, none⟩ = some (.string nmc) := by rw [Lib.cell_of_heap hh2]; rfl
  have c2_2 : w7.cell? ⟨w.heap.size + 1 + 1, 2, none⟩ = some (.string txc) := by rw [Lib.cell_of_heap hh2]; rfl
  have c2_3 : w7.cell? ⟨w.heap.size + 1 + 1, 3, none⟩ = some (.int .i64 nc) := by rw [Lib.cell_of_heap hh2]; rfl
  have c2_4 : w7.cell? ⟨w.heap.size + 1 + 1, 4, none⟩ = some (.int .i64 mc) := by rw [Lib.cell_of_heap hh2]; rfl
  clear hh2
  have HH3_7 := Lib.hid hh3
  have lt3 := heap_lt hh3
  have c3_0 : w7.cell? ⟨w4.heap.size, 0, none⟩ = some (.int .u8 0) := by rw [Lib.cell_of_heap hh3]; rfl
  have c3_1 : w7.cell? ⟨w4.heap.size, 1, none⟩ = some (.string ⟨#[]⟩) := by rw [Lib.cell_of_heap hh3]; rfl
  have c3_2 : w7.cell? ⟨w4.heap.size, 2, none⟩ = some (.string ⟨#[]⟩) := by rw [Lib.cell_of_heap hh3]; rfl
  have c3_3 : w7.cell? ⟨w4.heap.size, 3, none⟩ = some (.int .i64 0) := by rw [Lib.cell_of_heap hh3]; rfl
  have c3_4 : w7.cell? ⟨w4.heap.size, 4, none⟩ = some (.int .i64 0) := by rw [Lib.cell_of_heap hh3]; rfl
  clear hh3
  have HH4_7 := Lib.hid hh4
  have lt4 := heap_lt hh4
  have c4_0 : w7.cell? ⟨w5.heap.size, 0, none⟩ = some (.int .u8 0) := by rw [Lib.cell_of_heap hh4]; rfl
  have c4_1 : w7.cell? ⟨w5.heap.size, 1, none⟩ = some (.string ⟨#[]⟩) := by rw [Lib.cell_of_heap hh4]; rfl
  have c4_2 : w7.cell? ⟨w5.heap.size, 2, none⟩ = some (.string ⟨#[]⟩) := by rw [Lib.cell_of_heap hh4]; rfl
  have c4_3 : w7.cell? ⟨w5.heap.size, 3, none⟩ = some (.int .i64 0) := by rw [Lib.cell_of_heap hh4]; rfl
  have c4_4 : w7.cell? ⟨w5.heap.size, 4, none⟩ = some (.int .i64 0) := by rw [Lib.cell_of_heap hh4]; rfl
  clear hh4
  have HH5_7 := Lib.hid hh5
  have lt5 := heap_lt hh5
  have c5_0 : w7.cell? ⟨w6.heap.size, 0, none⟩ = some (.int .u8 kz) := by rw [Lib.cell_of_heap hh5]; rfl
  have c5_1 : w7.cell? ⟨w6.heap.size, 1, none⟩ = some (.string nmz) := by rw [Lib.cell_of_heap hh5]; rfl
  have c5_2 : w7.cell? ⟨w6.heap.size, 2, none⟩ = some (.string txz) := by rw [Lib.cell_of_heap hh5]; rfl
  have c5_3 : w7.cell? ⟨w6.heap.size, 3, none⟩ = some (.int .i64 nz) := by rw [Lib.cell_of_heap hh5]; rfl
  have c5_4 : w7.cell? ⟨w6.heap.size, 4, none⟩ = some (.int .i64 mz) := by rw [Lib.cell_of_heap hh5]; rfl
  clear hh5
  have sz7 := hbw7.size
  have HW7 := Lib.hid hbw7
  go_wp2_with fail
  refine (H5.out _ (by first | exact HW7.out | exact HW7.out.trans ⟨rfl, rfl, rfl, Nat.le_refl _, fun _ _ => rfl⟩ | (go_grown; done))).mono ?_; rintro e w8 ⟨rfl, hb⟩
  have hv0 := HH0_7.out
  have hh0 : w8.heap[w.heap.size]? = some (.cells #[.int .u8 ka, .string nma, .string txa, .int .i64 na, .int .i64 ma] 23 (0, 0)) := (hb.block _ (heap_lt hv0)).trans hv0
  clear hv0
  have hv1 := HH1_7.out
  have hh1 : w8.heap[w.heap.size + 1]? = some (.cells #[.int .u8 kb, .string nmb, .string txb, .int .i64 nb, .int .i64 mb] 23 (0, 0)) := (hb.block _ (heap_lt hv1)).trans hv1
  clear hv1
  have hv2 := HH2_7.out
  have hh2 : w8.heap[w.heap.size + 1 + 1]? = some (.cells #[.int .u8 kc, .string nmc, .string txc, .int .i64 nc, .int .i64 mc] 23 (0, 0)) := (hb.block _ (heap_lt hv2)).trans hv2
  clear hv2
  have hv3 := HH3_7.out
  have hh3 : w8.heap[w4.heap.size]? = some (.cells #[.int .u8 0, .string ⟨#[]⟩, .string ⟨#[]⟩, .int .i64 0, .int .i64 0] 23 (0, 0)) := (hb.block _ (heap_lt hv3)).trans hv3
  clear hv3
  have hv4 := HH4_7.out
  have hh4 : w8.heap[w5.heap.size]? = some (.cells #[.int .u8 0, .string ⟨#[]⟩, .string ⟨#[]⟩, .int .i64 0, .int .i64 0] 23 (0, 0)) := (hb.block _ (heap_lt hv4)).trans hv4
  clear hv4
  have hv5 := HH5_7.out
  have hh5 : w8.heap[w6.heap.size]? = some (.cells #[.int .u8 kz, .string nmz, .string txz, .int .i64 nz, .int .i64 mz] 23 (0, 0)) := (hb.block _ (heap_lt hv5)).trans hv5
  clear hv5
  have hbw8 : Below w.heap.size w w8 := (show Below w.heap.size w _ by first | exact HW7.out.trans ⟨rfl, rfl, rfl, Nat.le_refl _, fun _ _ => rfl⟩ | exact HW7.out | (go_grown; done)).trans (hb.mono (by first | omega | (simp; done) | (simp; omega)))
  clear hb lt0 c0_0 c0_1 c0_2 c0_3 c0_4 lt1 c1_0 c1_1 c1_2 c1_3 c1_4 lt2 c2_0 c2_1 c2_2 c2_3 c2_4 lt3 c3_0 c3_1 c3_2 c3_3 c3_4 lt4 c4_0 c4_1 c4_2 c4_3 c4_4 lt5 c5_0 c5_1 c5_2 c5_3 c5_4 hbw7
  have HH0_8 := Lib.hid hh0
  have lt0 := heap_lt hh0
  have c0_0 : w8.cell? ⟨w.heap.size, 0, none⟩ = some (.int .u8 ka) := by rw [Lib.cell_of_heap hh0]; rfl
  have c0_1 : w8.cell? ⟨w.heap.size, 1, none⟩ = some (.string nma) := by rw [Lib.cell_of_heap hh0]; rfl
  have c0_2 : w8.cell? ⟨w.heap.size, 2, none⟩ = some (.string txa) := by rw [Lib.cell_of_heap hh0]; rfl
  have c0_3 : w8.cell? ⟨w.heap.size, 3, none⟩ = some (.int .i64 na) := by rw [Lib.cell_of_heap hh0]; rfl
  have c0_4 : w8.cell? ⟨w.heap.size, 4, none⟩ = some (.int .i64 ma) := by rw [Lib.cell_of_heap hh0]; rfl
  clear hh0
  have HH1_8 := Lib.hid hh1
  have lt1 := heap_lt hh1
  have c1_0 : w8.cell? ⟨w.heap.size + 1, 0, none⟩ = some (.int .u8 kb) := by rw [Lib.cell_of_heap hh1]; rfl
  have c1_1 : w8.cell? ⟨w.heap.size + 1, 1, none⟩ = some (.string nmb) := by rw [Lib.cell_of_heap hh1]; rfl
  have c1_2 : w8.cell? ⟨w.heap.size + 1, 2, none⟩ = some (.string txb) := by rw [Lib.cell_of_heap hh1]; rfl
  have c1_3 : w8.cell? ⟨w.heap.size + 1, 3, none⟩ = some (.int .i64 nb) := by rw [Lib.cell_of_heap hh1]; rfl
  have c1_4 : w8.cell? ⟨w.heap.size + 1, 4, none⟩ = some (.int .i64 mb) := by rw [Lib.cell_of_heap hh1]; rfl
  clear hh1
  have HH2_8 := Lib.hid hh2
  have lt2 := heap_lt hh2
  have c2_0 : w8.cell? ⟨w.heap.size + 1 + 1, 0, none⟩ = some (.int .u8 kc) := by rw [Lib.cell_of_heap hh2]; rfl
  have c2_1 : w8.cell? ⟨w.heap.size + 1 + 1, 1, none⟩ = some (.string nmc) := by rw [Lib.cell_of_heap hh2]; rfl
  have c2_2 : w8.cell? ⟨w.heap.size + 1 + 1, 2, none⟩ = some (.string txc) := by rw [Lib.cell_of_heap hh2]; rfl
  have c2_3 : w8.cell? ⟨w.heap.size + 1 + 1, 3, none⟩ = some (.int .i64 nc) := by rw [Lib.cell_of_heap hh2]; rfl
  have c2_4 : w8.cell? ⟨w.heap.size + 1 + 1, 4, none⟩ = some (.int .i64 mc) := by rw [Lib.cell_of_heap hh2]; rfl
  clear hh2
  have HH3_8 := Lib.hid hh3
  have lt3 := heap_lt hh3
  have c3_0 : w8.cell? ⟨w4.heap.size, 0, none⟩ = some (.int .u8 0) := by rw [Lib.cell_of_heap hh3]; rfl
  have c3_1 : w8.cell? ⟨w4.heap.size, 1, none⟩ = some (.string ⟨#[]⟩) := by rw [Lib.cell_of_heap hh3]; rfl
  have c3_2 : w8.cell? ⟨w4.heap.size, 2, none⟩ = some (.string ⟨#[]⟩) := by rw [Lib.cell_of_heap hh3]; rfl
  have c3_3 : w8.cell? ⟨w4.heap.size, 3, none⟩ = some (.int .i64 0) := by rw [Lib.cell_of_heap hh3]; rfl
  have c3_4 : w8.cell? ⟨w4.heap.size, 4, none⟩ = some (.int .i64 0) := by rw [Lib.cell_of_heap hh3]; rfl
  clear hh3
  have HH4_8 := Lib.hid hh4
  have lt4 := heap_lt hh4
  have c4_0 : w8.cell? ⟨w5.heap.size, 0, none⟩ = some (.int .u8 0) := by rw [Lib.cell_of_heap hh4]; rfl
  have c4_1 : w8.cell? ⟨w5.heap.size, 1, none⟩ = some (.string ⟨#[]⟩) := by rw [Lib.cell_of_heap hh4]; rfl
  have c4_2 : w8.cell? ⟨w5.heap.size, 2, none⟩ = some (.string ⟨#[]⟩) := by rw [Lib.cell_of_heap hh4]; rfl
  have c4_3 : w8.cell? ⟨w5.heap.size, 3, none⟩ = some (.int .i64 0) := by rw [Lib.cell_of_heap hh4]; rfl
  have c4_4 : w8.cell? ⟨w5.heap.size, 4, none⟩ = some (.int .i64 0) := by rw [Lib.cell_of_heap hh4]; rfl
  clear hh4
  have HH5_8 := Lib.hid hh5
  have lt5 := heap_lt hh5
  have c5_0 : w8.cell? ⟨w6.heap.size, 0, none⟩ = some (.int .u8 kz) := by rw [Lib.cell_of_heap hh5]; rfl
  have c5_1 : w8.cell? ⟨w6.heap.size, 1, none⟩ = some (.string nmz) := by rw [Lib.cell_of_heap hh5]; rfl
  have c5_2 : w8.cell? ⟨w6.heap.size, 2, none⟩ = some (.string txz) := by rw [Lib.cell_of_heap hh5]; rfl
  have c5_3 : w8.cell? ⟨w6.heap.size, 3, none⟩ = some (.int .i64 nz) := by rw [Lib.cell_of_heap hh5]; rfl
  have c5_4 : w8.cell? ⟨w6.heap.size, 4, none⟩ = some (.int .i64 mz) := by rw [Lib.cell_of_heap hh5]; rfl
  clear hh5
  have sz8 := hbw8.size
  have HW8 := Lib.hid hbw8
  go_wp2_with fail
  go_ret
  exact ⟨rfl, by first | exact HW8.out | (go_grown; done)⟩
set_option maxRecDepth 100000 in
set_option maxHeartbeats 4000000 in
theorem sums16_go (k : Int) (ka : Int) (nma txa : ByteArray) (na ma : Int) (kb : Int) (nmb txb : ByteArray) (nb mb : Int) (kc : Int) (nmc txc : ByteArray) (nc mc : Int) (kx : Int) (nmx txx : ByteArray) (nx mx : Int) (kz : Int) (nmz txz : ByteArray) (nz mz : Int) (w : World) (hE : EnvS w) (HG : Hid (DoesU w 7 #[.agg #[.int .u8 ka, .string nma, .string txa, .int .i64 na, .int .i64 ma], .agg #[.int .u8 kb, .string nmb, .string txb, .int .i64 nb, .int .i64 mb]] (.bool false))) (HH : Hid (DoesU w 7 #[.agg #[.int .u8 kc, .string nmc, .string txc, .int .i64 nc, .int .i64 mc], .agg #[.int .u8 kc, .string nmc, .string txc, .int .i64 nc, .int .i64 mc]] (.bool false))) (g n h m i : Int)
    (H1 : Hid (DoesU w 11 #[.int .u8 k, .agg #[.int .u8 ka, .string nma, .string txa, .int .i64 na, .int .i64 ma], .agg #[.int .u8 kb, .string nmb, .string txb, .int .i64 nb, .int .i64 mb]] (.tuple #[.agg #[.int .u8 kx, .string nmx, .string txx, .int .i64 nx, .int .i64 mx], .int .i64 0]))) (H2 : Hid (DoesU w 11 #[.int .u8 k, .agg #[.int .u8 kb, .string nmb, .string txb, .int .i64 nb, .int .i64 mb], .agg #[.int .u8 ka, .string nma, .string txa, .int .i64 na, .int .i64 ma]] (.tuple #[.agg #[.int .u8 kx, .string nmx, .string txx, .int .i64 nx, .int .i64 mx], .int .i64 0]))) (HR : Hid (DoesU w 9 #[.int .u8 k, .agg #[.int .u8 kx, .string nmx, .string txx, .int .i64 nx, .int .i64 mx], .agg #[.int .u8 kx, .string nmx, .string txx, .int .i64 nx, .int .i64 mx]] (.bool true))) (H3 : Hid (DoesU w 11 #[.int .u8 k, .agg #[.int .u8 kc, .string nmc, .string txc, .int .i64 nc, .int .i64 mc], .agg #[.int .u8 kb, .string nmb, .string txb, .int .i64 nb, .int .i64 mb]] (.tuple #[.agg #[.int .u8 kz, .string nmz, .string txz, .int .i64 nz, .int .i64 mz], .int .i64 g])))
    (H4 : Hid (DoesU w 10 #[.int .u8 k, .agg #[.int .u8 ka, .string nma, .string txa, .int .i64 na, .int .i64 ma], .agg #[.int .u8 kc, .string nmc, .string txc, .int .i64 nc, .int .i64 mc]] (.tuple #[.int .i64 n, .int .i64 h]))) (H5 : Hid (DoesU w 10 #[.int .u8 k, .agg #[.int .u8 kx, .string nmx, .string txx, .int .i64 nx, .int .i64 mx], .agg #[.int .u8 kz, .string nmz, .string txz, .int .i64 nz, .int .i64 mz]] (.tuple #[.int .i64 m, .int .i64 i]))) (ht : g = 0 → i = 0 ∧ m = n) :
    Calls Tryz.prog 5 #[.int .u8 k, .agg #[.int .u8 ka, .string nma, .string txa, .int .i64 na, .int .i64 ma], .agg #[.int .u8 kb, .string nmb, .string txb, .int .i64 nb, .int .i64 mb], .agg #[.int .u8 kc, .string nmc, .string txc, .int .i64 nc, .int .i64 mc]] w fun e w' => e = .returned (.bool true) ∧ Below w.heap.size w w' := by
  have HA : Hid (DoesU w 6 #[] (.bool true)) := Lib.hid fun W hW => lalive16 W (hE.below hW)
  go_enter Tryz.func5, Tryz.ntmps5
  go_wp2_with fail
  refine (HA.out _ (by first | exact Below.refl _ _ | (go_grown; done))).mono ?_; rintro e w1 ⟨rfl, hb⟩
  have hh0 : w1.heap[w.heap.size]? = some (.cells #[.int .u8 ka, .string nma, .string txa, .int .i64 na, .int .i64 ma] 23 (0, 0)) := (hb.block _ (by first | omega | (simp; done) | (simp; omega))).trans (heap_old (o' := (.cells #[.int .u8 kc, .string nmc, .string txc, .int .i64 nc, .int .i64 mc] 23 (0, 0))) (heap_old (o' := (.cells #[.int .u8 kb, .string nmb, .string txb, .int .i64 nb, .int .i64 mb] 23 (0, 0))) (heap_new _ _ _ (by first | rfl | simp))))
  have hh1 : w1.heap[w.heap.size + 1]? = some (.cells #[.int .u8 kb, .string nmb, .string txb, .int .i64 nb, .int .i64 mb] 23 (0, 0)) := (hb.block _ (by first | omega | (simp; done) | (simp; omega))).trans (heap_old (o' := (.cells #[.int .u8 kc, .string nmc, .string txc, .int .i64 nc, .int .i64 mc] 23 (0, 0))) (heap_new _ _ _ (by first | rfl | simp)))
  have hh2 : w1.heap[w.heap.size + 1 + 1]? = some (.cells #[.int .u8 kc, .string nmc, .string txc, .int .i64 nc, .int .i64 mc] 23 (0, 0)) := (hb.block _ (by first | omega | (simp; done) | (simp; omega))).trans (heap_new _ _ _ (by first | rfl | simp))
  have hbw1 : Below w.heap.size w w1 := (show Below w.heap.size w _ by first | exact Below.refl _ _ | (go_grown; done)).trans (hb.mono (by first | omega | (simp; done) | (simp; omega)))
  clear hb
  have HH0_1 := Lib.hid hh0
  have lt0 := heap_lt hh0
  have c0_0 : w1.cell? ⟨w.heap.size, 0, none⟩ = some (.int .u8 ka) := by rw [Lib.cell_of_heap hh0]; rfl
  have c0_1 : w1.cell? ⟨w.heap.size, 1, none⟩ = some (.string nma) := by rw [Lib.cell_of_heap hh0]; rfl
  have c0_2 : w1.cell? ⟨w.heap.size, 2, none⟩ = some (.string txa) := by rw [Lib.cell_of_heap hh0]; rfl
  have c0_3 : w1.cell? ⟨w.heap.size, 3, none⟩ = some (.int .i64 na) := by rw [Lib.cell_of_heap hh0]; rfl
  have c0_4 : w1.cell? ⟨w.heap.size, 4, none⟩ = some (.int .i64 ma) := by rw [Lib.cell_of_heap hh0]; rfl
  clear hh0
  have HH1_1 := Lib.hid hh1
  have lt1 := heap_lt hh1
  have c1_0 : w1.cell? ⟨w.heap.size + 1, 0, none⟩ = some (.int .u8 kb) := by rw [Lib.cell_of_heap hh1]; rfl
  have c1_1 : w1.cell? ⟨w.heap.size + 1, 1, none⟩ = some (.string nmb) := by rw [Lib.cell_of_heap hh1]; rfl
  have c1_2 : w1.cell? ⟨w.heap.size + 1, 2, none⟩ = some (.string txb) := by rw [Lib.cell_of_heap hh1]; rfl
  have c1_3 : w1.cell? ⟨w.heap.size + 1, 3, none⟩ = some (.int .i64 nb) := by rw [Lib.cell_of_heap hh1]; rfl
  have c1_4 : w1.cell? ⟨w.heap.size + 1, 4, none⟩ = some (.int .i64 mb) := by rw [Lib.cell_of_heap hh1]; rfl
  clear hh1
  have HH2_1 := Lib.hid hh2
  have lt2 := heap_lt hh2
  have c2_0 : w1.cell? ⟨w.heap.size + 1 + 1, 0, none⟩ = some (.int .u8 kc) := by rw [Lib.cell_of_heap hh2]; rfl
  have c2_1 : w1.cell? ⟨w.heap.size + 1 + 1, 1, none⟩ = some (.string nmc) := by rw [Lib.cell_of_heap hh2]; rfl
  have c2_2 : w1.cell? ⟨w.heap.size + 1 + 1, 2, none⟩ = some (.string txc) := by rw [Lib.cell_of_heap hh2]; rfl
  have c2_3 : w1.cell? ⟨w.heap.size + 1 + 1, 3, none⟩ = some (.int .i64 nc) := by rw [Lib.cell_of_heap hh2]; rfl
  have c2_4 : w1.cell? ⟨w.heap.size + 1 + 1, 4, none⟩ = some (.int .i64 mc) := by rw [Lib.cell_of_heap hh2]; rfl
  clear hh2
  have sz1 := hbw1.size
  have HW1 := Lib.hid hbw1
  go_wp2_with fail
  refine (HG.out _ (by first | exact HW1.out | exact HW1.out.trans ⟨rfl, rfl, rfl, Nat.le_refl _, fun _ _ => rfl⟩ | (go_grown; done))).mono ?_; rintro e w2 ⟨rfl, hb⟩
  have hv0 := HH0_1.out
  have hh0 : w2.heap[w.heap.size]? = some (.cells #[.int .u8 ka, .string nma, .string txa, .int .i64 na, .int .i64 ma] 23 (0, 0)) := (hb.block _ (heap_lt hv0)).trans hv0
  clear hv0
  have hv1 := HH1_1.out
  have hh1 : w2.heap[w.heap.size + 1]? = some (.cells #[.int .u8 kb, .string nmb, .string txb, .int .i64 nb, .int .i64 mb] 23 (0, 0)) := (hb.block _ (heap_lt hv1)).trans hv1
  clear hv1
  have hv2 := HH2_1.out
  have hh2 : w2.heap[w.heap.size + 1 + 1]? = some (.cells #[.int .u8 kc, .string nmc, .string txc, .int .i64 nc, .int .i64 mc] 23 (0, 0)) := (hb.block _ (heap_lt hv2)).trans hv2
  clear hv2
  have hbw2 : Below w.heap.size w w2 := (show Below w.heap.size w _ by first | exact HW1.out.trans ⟨rfl, rfl, rfl, Nat.le_refl _, fun _ _ => rfl⟩ | exact HW1.out | (go_grown; done)).trans (hb.mono (by first | omega | (simp; done) | (simp; omega)))
  clear hb lt0 c0_0 c0_1 c0_2 c0_3 c0_4 lt1 c1_0 c1_1 c1_2 c1_3 c1_4 lt2 c2_0 c2_1 c2_2 c2_3 c2_4 hbw1
  have HH0_2 := Lib.hid hh0
  have lt0 := heap_lt hh0
  have c0_0 : w2.cell? ⟨w.heap.size, 0, none⟩ = some (.int .u8 ka) := by rw [Lib.cell_of_heap hh0]; rfl
  have c0_1 : w2.cell? ⟨w.heap.size, 1, none⟩ = some (.string nma) := by rw [Lib.cell_of_heap hh0]; rfl
  have c0_2 : w2.cell? ⟨w.heap.size, 2, none⟩ = some (.string txa) := by rw [Lib.cell_of_heap hh0]; rfl
  have c0_3 : w2.cell? ⟨w.heap.size, 3, none⟩ = some (.int .i64 na) := by rw [Lib.cell_of_heap hh0]; rfl
  have c0_4 : w2.cell? ⟨w.heap.size, 4, none⟩ = some (.int .i64 ma) := by rw [Lib.cell_of_heap hh0]; rfl
  clear hh0
  have HH1_2 := Lib.hid hh1
  have lt1 := heap_lt hh1
  have c1_0 : w2.cell? ⟨w.heap.size + 1, 0, none⟩ = some (.int .u8 kb) := by rw [Lib.cell_of_heap hh1]; rfl
  have c1_1 : w2.cell? ⟨w.heap.size + 1, 1, none⟩ = some (.string nmb) := by rw [Lib.cell_of_heap hh1]; rfl
  have c1_2 : w2.cell? ⟨w.heap.size + 1, 2, none⟩ = some (.string txb) := by rw [Lib.cell_of_heap hh1]; rfl
  have c1_3 : w2.cell? ⟨w.heap.size + 1, 3, none⟩ = some (.int .i64 nb) := by rw [Lib.cell_of_heap hh1]; rfl
  have c1_4 : w2.cell? ⟨w.heap.size + 1, 4, none⟩ = some (.int .i64 mb) := by rw [Lib.cell_of_heap hh1]; rfl
  clear hh1
  have HH2_2 := Lib.hid hh2
  have lt2 := heap_lt hh2
  have c2_0 : w2.cell? ⟨w.heap.size + 1 + 1, 0, none⟩ = some (.int .u8 kc) := by rw [Lib.cell_of_heap hh2]; rfl
  have c2_1 : w2.cell? ⟨w.heap.size + 1 + 1, 1, none⟩ = some (.string nmc) := by rw [Lib.cell_of_heap hh2]; rfl
  have c2_2 : w2.cell? ⟨w.heap.size + 1 + 1, 2, none⟩ = some (.string txc) := by rw [Lib.cell_of_heap hh2]; rfl
  have c2_3 : w2.cell? ⟨w.heap.size + 1 + 1, 3, none⟩ = some (.int .i64 nc) := by rw [Lib.cell_of_heap hh2]; rfl
  have c2_4 : w2.cell? ⟨w.heap.size + 1 + 1, 4, none⟩ = some (.int .i64 mc) := by rw [Lib.cell_of_heap hh2]; rfl
  clear hh2
  have sz2 := hbw2.size
  have HW2 := Lib.hid hbw2
  go_wp2_with fail
  refine (HH.out _ (by first | exact HW2.out | exact HW2.out.trans ⟨rfl, rfl, rfl, Nat.le_refl _, fun _ _ => rfl⟩ | (go_grown; done))).mono ?_; rintro e w3 ⟨rfl, hb⟩
  have hv0 := HH0_2.out
  have hh0 : w3.heap[w.heap.size]? = some (.cells #[.int .u8 ka, .string nma, .string txa, .int .i64 na, .int .i64 ma] 23 (0, 0)) := (hb.block _ (heap_lt hv0)).trans hv0
  clear hv0
  have hv1 := HH1_2.out
  have hh1 : w3.heap[w.heap.size + 1]? = some (.cells #[.int .u8 kb, .string nmb, .string txb, .int .i64 nb, .int .i64 mb] 23 (0, 0)) := (hb.block _ (heap_lt hv1)).trans hv1
  clear hv1
  have hv2 := HH2_2.out
  have hh2 : w3.heap[w.heap.size + 1 + 1]? = some (.cells #[.int .u8 kc, .string nmc, .string txc, .int .i64 nc, .int .i64 mc] 23 (0, 0)) := (hb.block _ (heap_lt hv2)).trans hv2
  clear hv2
  have hbw3 : Below w.heap.size w w3 := (show Below w.heap.size w _ by first | exact HW2.out.trans ⟨rfl, rfl, rfl, Nat.le_refl _, fun _ _ => rfl⟩ | exact HW2.out | (go_grown; done)).trans (hb.mono (by first | omega | (simp; done) | (simp; omega)))
  clear hb lt0 c0_0 c0_1 c0_2 c0_3 c0_4 lt1 c1_0 c1_1 c1_2 c1_3 c1_4 lt2 c2_0 c2_1 c2_2 c2_3 c2_4 hbw2
  have HH0_3 := Lib.hid hh0
  have lt0 := heap_lt hh0
  have c0_0 : w3.cell? ⟨w.heap.size, 0, none⟩ = some (.int .u8 ka) := by rw [Lib.cell_of_heap hh0]; rfl
  have c0_1 : w3.cell? ⟨w.heap.size, 1, none⟩ = some (.string nma) := by rw [Lib.cell_of_heap hh0]; rfl
  have c0_2 : w3.cell? ⟨w.heap.size, 2, none⟩ = some (.string txa) := by rw [Lib.cell_of_heap hh0]; rfl
  have c0_3 : w3.cell? ⟨w.heap.size, 3, none⟩ = some (.int .i64 na) := by rw [Lib.cell_of_heap hh0]; rfl
  have c0_4 : w3.cell? ⟨w.heap.size, 4, none⟩ = some (.int .i64 ma) := by rw [Lib.cell_of_heap hh0]; rfl
  clear hh0
  have HH1_3 := Lib.hid hh1
  have lt1 := heap_lt hh1
  have c1_0 : w3.cell? ⟨w.heap.size + 1, 0, none⟩ = some (.int .u8 kb) := by rw [Lib.cell_of_heap hh1]; rfl
  have c1_1 : w3.cell? ⟨w.heap.size + 1, 1, none⟩ = some (.string nmb) := by rw [Lib.cell_of_heap hh1]; rfl
  have c1_2 : w3.cell? ⟨w.heap.size + 1, 2, none⟩ = some (.string txb) := by rw [Lib.cell_of_heap hh1]; rfl
  have c1_3 : w3.cell? ⟨w.heap.size + 1, 3, none⟩ = some (.int .i64 nb) := by rw [Lib.cell_of_heap hh1]; rfl
  have c1_4 : w3.cell? ⟨w.heap.size + 1, 4, none⟩ = some (.int .i64 mb) := by rw [Lib.cell_of_heap hh1]; rfl
  clear hh1
  have HH2_3 := Lib.hid hh2
  have lt2 := heap_lt hh2
  have c2_0 : w3.cell? ⟨w.heap.size + 1 + 1, 0, none⟩ = some (.int .u8 kc) := by rw [Lib.cell_of_heap hh2]; rfl
  have c2_1 : w3.cell? ⟨w.heap.size + 1 + 1, 1, none⟩ = some (.string nmc) := by rw [Lib.cell_of_heap hh2]; rfl
  have c2_2 : w3.cell? ⟨w.heap.size + 1 + 1, 2, none⟩ = some (.string txc) := by rw [Lib.cell_of_heap hh2]; rfl
  have c2_3 : w3.cell? ⟨w.heap.size + 1 + 1, 3, none⟩ = some (.int .i64 nc) := by rw [Lib.cell_of_heap hh2]; rfl
  have c2_4 : w3.cell? ⟨w.heap.size + 1 + 1, 4, none⟩ = some (.int .i64 mc) := by rw [Lib.cell_of_heap hh2]; rfl
  clear hh2
  have sz3 := hbw3.size
  have HW3 := Lib.hid hbw3
  go_wp2_with fail
  refine (H1.out _ (by first | exact HW3.out | exact HW3.out.trans ⟨rfl, rfl, rfl, Nat.le_refl _, fun _ _ => rfl⟩ | (go_grown; done))).mono ?_; rintro e w4 ⟨rfl, hb⟩
  have hv0 := HH0_3.out
  have hh0 : w4.heap[w.heap.size]? = some (.cells #[.int .u8 ka, .string nma, .string txa, .int .i64 na, .int .i64 ma] 23 (0, 0)) := (hb.block _ (heap_lt hv0)).trans hv0
  clear hv0
  have hv1 := HH1_3.out
  have hh1 : w4.heap[w.heap.size + 1]? = some (.cells #[.int .u8 kb, .string nmb, .string txb, .int .i64 nb, .int .i64 mb] 23 (0, 0)) := (hb.block _ (heap_lt hv1)).trans hv1
  clear hv1
  have hv2 := HH2_3.out
  have hh2 : w4.heap[w.heap.size + 1 + 1]? = some (.cells #[.int .u8 kc, .string nmc, .string txc, .int .i64 nc, .int .i64 mc] 23 (0, 0)) := (hb.block _ (heap_lt hv2)).trans hv2
  clear hv2
  have hbw4 : Below w.heap.size w w4 := (show Below w.heap.size w _ by first | exact HW3.out.trans ⟨rfl, rfl, rfl, Nat.le_refl _, fun _ _ => rfl⟩ | exact HW3.out | (go_grown; done)).trans (hb.mono (by first | omega | (simp; done) | (simp; omega)))
  clear hb lt0 c0_0 c0_1 c0_2 c0_3 c0_4 lt1 c1_0 c1_1 c1_2 c1_3 c1_4 lt2 c2_0 c2_1 c2_2 c2_3 c2_4 hbw3
  have HH0_4 := Lib.hid hh0
  have lt0 := heap_lt hh0
  have c0_0 : w4.cell? ⟨w.heap.size, 0, none⟩ = some (.int .u8 ka) := by rw [Lib.cell_of_heap hh0]; rfl
  have c0_1 : w4.cell? ⟨w.heap.size, 1, none⟩ = some (.string nma) := by rw [Lib.cell_of_heap hh0]; rfl
  have c0_2 : w4.cell? ⟨w.heap.size, 2, none⟩ = some (.string txa) := by rw [Lib.cell_of_heap hh0]; rfl
  have c0_3 : w4.cell? ⟨w.heap.size, 3, none⟩ = some (.int .i64 na) := by rw [Lib.cell_of_heap hh0]; rfl
  have c0_4 : w4.cell? ⟨w.heap.size, 4, none⟩ = some (.int .i64 ma) := by rw [Lib.cell_of_heap hh0]; rfl
  clear hh0
  have HH1_4 := Lib.hid hh1
  have lt1 := heap_lt hh1
  have c1_0 : w4.cell? ⟨w.heap.size + 1, 0, none⟩ = some (.int .u8 kb) := by rw [Lib.cell_of_heap hh1]; rfl
  have c1_1 : w4.cell? ⟨w.heap.size + 1, 1, none⟩ = some (.string nmb) := by rw [Lib.cell_of_heap hh1]; rfl
  have c1_2 : w4.cell? ⟨w.heap.size + 1, 2, none⟩ = some (.string txb) := by rw [Lib.cell_of_heap hh1]; rfl
  have c1_3 : w4.cell? ⟨w.heap.size + 1, 3, none⟩ = some (.int .i64 nb) := by rw [Lib.cell_of_heap hh1]; rfl
  have c1_4 : w4.cell? ⟨w.heap.size + 1, 4, none⟩ = some (.int .i64 mb) := by rw [Lib.cell_of_heap hh1]; rfl
  clear hh1
  have HH2_4 := Lib.hid hh2
  have lt2 := heap_lt hh2
  have c2_0 : w4.cell? ⟨w.heap.size + 1 + 1, 0, none⟩ = some (.int .u8 kc) := by rw [Lib.cell_of_heap hh2]; rfl
  have c2_1 : w4.cell? ⟨w.heap.size + 1 + 1, 1, none⟩ = some (.string nmc) := by rw [Lib.cell_of_heap hh2]; rfl
  have c2_2 : w4.cell? ⟨w.heap.size + 1 + 1, 2, none⟩ = some (.string txc) := by rw [Lib.cell_of_heap hh2]; rfl
  have c2_3 : w4.cell? ⟨w.heap.size + 1 + 1, 3, none⟩ = some (.int .i64 nc) := by rw [Lib.cell_of_heap hh2]; rfl
  have c2_4 : w4.cell? ⟨w.heap.size + 1 + 1, 4, none⟩ = some (.int .i64 mc) := by rw [Lib.cell_of_heap hh2]; rfl
  clear hh2
  have sz4 := hbw4.size
  have HW4 := Lib.hid hbw4
  go_wp2_with fail
  refine (H2.out _ (by first | exact HW4.out | exact HW4.out.trans ⟨rfl, rfl, rfl, Nat.le_refl _, fun _ _ => rfl⟩ | (go_grown; done))).mono ?_; rintro e w5 ⟨rfl, hb⟩
  have hv0 := heap_old (o' := (.cells #[.int .u8 kx, .string nmx, .string txx, .int .i64 nx, .int .i64 mx] 23 (0, 0))) (HH0_4.out)
  have hh0 : w5.heap[w.heap.size]? = some (.cells #[.int .u8 ka, .string nma, .string txa, .int .i64 na, .int .i64 ma] 23 (0, 0)) := (hb.block _ (heap_lt hv0)).trans hv0
  clear hv0
  have hv1 := heap_old (o' := (.cells #[.int .u8 kx, .string nmx, .string txx, .int .i64 nx, .int .i64 mx] 23 (0, 0))) (HH1_4.out)
  have hh1 : w5.heap[w.heap.size + 1]? = some (.cells #[.int .u8 kb, .string nmb, .string txb, .int .i64 nb, .int .i64 mb] 23 (0, 0)) := (hb.block _ (heap_lt hv1)).trans hv1
  clear hv1
  have hv2 := heap_old (o' := (.cells #[.int .u8 kx, .string nmx, .string txx, .int .i64 nx, .int .i64 mx] 23 (0, 0))) (HH2_4.out)
  have hh2 : w5.heap[w.heap.size + 1 + 1]? = some (.cells #[.int .u8 kc, .string nmc, .string txc, .int .i64 nc, .int .i64 mc] 23 (0, 0)) := (hb.block _ (heap_lt hv2)).trans hv2
  clear hv2
  have hh3 : w5.heap[w4.heap.size]? = some (.cells #[.int .u8 kx, .string nmx, .string txx, .int .i64 nx, .int .i64 mx] 23 (0, 0)) := (hb.block _ (by first | omega | (simp; done) | (simp; omega))).trans (heap_new _ _ _ (by first | rfl | simp))
  have hbw5 : Below w.heap.size w w5 := (show Below w.heap.size w _ by first | exact HW4.out.trans ⟨rfl, rfl, rfl, Nat.le_refl _, fun _ _ => rfl⟩ | exact HW4.out | (go_grown; done)).trans (hb.mono (by first | omega | (simp; done) | (simp; omega)))
  clear hb lt0 c0_0 c0_1 c0_2 c0_3 c0_4 lt1 c1_0 c1_1 c1_2 c1_3 c1_4 lt2 c2_0 c2_1 c2_2 c2_3 c2_4 hbw4
  have HH0_5 := Lib.hid hh0
  have lt0 := heap_lt hh0
  have c0_0 : w5.cell? ⟨w.heap.size, 0, none⟩ = some (.int .u8 ka) := by rw [Lib.cell_of_heap hh0]; rfl
  have c0_1 : w5.cell? ⟨w.heap.size, 1, none⟩ = some (.string nma) := by rw [Lib.cell_of_heap hh0]; rfl
  have c0_2 : w5.cell? ⟨w.heap.size, 2, none⟩ = some (.string txa) := by rw [Lib.cell_of_heap hh0]; rfl
  have c0_3 : w5.cell? ⟨w.heap.size, 3, none⟩ = some (.int .i64 na) := by rw [Lib.cell_of_heap hh0]; rfl
  have c0_4 : w5.cell? ⟨w.heap.size, 4, none⟩ = some (.int .i64 ma) := by rw [Lib.cell_of_heap hh0]; rfl
  clear hh0
  have HH1_5 := Lib.hid hh1
  have lt1 := heap_lt hh1
  have c1_0 : w5.cell? ⟨w.heap.size + 1, 0, none⟩ = some (.int .u8 kb) := by rw [Lib.cell_of_heap hh1]; rfl
  have c1_1 : w5.cell? ⟨w.heap.size + 1, 1, none⟩ = some (.string nmb) := by rw [Lib.cell_of_heap hh1]; rfl
  have c1_2 : w5.cell? ⟨w.heap.size + 1, 2, none⟩ = some (.string txb) := by rw [Lib.cell_of_heap hh1]; rfl
  have c1_3 : w5.cell? ⟨w.heap.size + 1, 3, none⟩ = some (.int .i64 nb) := by rw [Lib.cell_of_heap hh1]; rfl
  have c1_4 : w5.cell? ⟨w.heap.size + 1, 4, none⟩ = some (.int .i64 mb) := by rw [Lib.cell_of_heap hh1]; rfl
  clear hh1
  have HH2_5 := Lib.hid hh2
  have lt2 := heap_lt hh2
  have c2_0 : w5.cell? ⟨w.heap.size + 1 + 1, 0, none⟩ = some (.int .u8 kc) := by rw [Lib.cell_of_heap hh2]; rfl
  have c2_1 : w5.cell? ⟨w.heap.size + 1 + 1, 1, none⟩ = some (.string nmc) := by rw [Lib.cell_of_heap hh2]; rfl
  have c2_2 : w5.cell? ⟨w.heap.size + 1 + 1, 2, none⟩ = some (.string txc) := by rw [Lib.cell_of_heap hh2]; rfl
  have c2_3 : w5.cell? ⟨w.heap.size + 1 + 1, 3, none⟩ = some (.int .i64 nc) := by rw [Lib.cell_of_heap hh2]; rfl
  have c2_4 : w5.cell? ⟨w.heap.size + 1 + 1, 4, none⟩ = some (.int .i64 mc) := by rw [Lib.cell_of_heap hh2]; rfl
  clear hh2
  have HH3_5 := Lib.hid hh3
  have lt3 := heap_lt hh3
  have c3_0 : w5.cell? ⟨w4.heap.size, 0, none⟩ = some (.int .u8 kx) := by rw [Lib.cell_of_heap hh3]; rfl
  have c3_1 : w5.cell? ⟨w4.heap.size, 1, none⟩ = some (.string nmx) := by rw [Lib.cell_of_heap hh3]; rfl
  have c3_2 : w5.cell? ⟨w4.heap.size, 2, none⟩ = some (.string txx) := by rw [Lib.cell_of_heap hh3]; rfl
  have c3_3 : w5.cell? ⟨w4.heap.size, 3, none⟩ = some (.int .i64 nx) := by rw [Lib.cell_of_heap hh3]; rfl
  have c3_4 : w5.cell? ⟨w4.heap.size, 4, none⟩ = some (.int .i64 mx) := by rw [Lib.cell_of_heap hh3]; rfl
  clear hh3
  have sz5 := hbw5.size
  have HW5 := Lib.hid hbw5
  go_wp2_with fail
  refine (HR.out _ (by first | exact HW5.out | exact HW5.out.trans ⟨rfl, rfl, rfl, Nat.le_refl _, fun _ _ => rfl⟩ | (go_grown; done))).mono ?_; rintro e w6 ⟨rfl, hb⟩
  have hv0 := heap_old (o' := (.cells #[.int .u8 kx, .string nmx, .string txx, .int .i64 nx, .int .i64 mx] 23 (0, 0))) (HH0_5.out)
  have hh0 : w6.heap[w.heap.size]? = some (.cells #[.int .u8 ka, .string nma, .string txa, .int .i64 na, .int .i64 ma] 23 (0, 0)) := (hb.block _ (heap_lt hv0)).trans hv0
  clear hv0
  have hv1 := heap_old (o' := (.cells #[.int .u8 kx, .string nmx, .string txx, .int .i64 nx, .int .i64 mx] 23 (0, 0))) (HH1_5.out)
  have hh1 : w6.heap[w.heap.size + 1]? = some (.cells #[.int .u8 kb, .string nmb, .string txb, .int .i64 nb, .int .i64 mb] 23 (0, 0)) := (hb.block _ (heap_lt hv1)).trans hv1
  clear hv1
  have hv2 := heap_old (o' := (.cells #[.int .u8 kx, .string nmx, .string txx, .int .i64 nx, .int .i64 mx] 23 (0, 0))) (HH2_5.out)
  have hh2 : w6.heap[w.heap.size + 1 + 1]? = some (.cells #[.int .u8 kc, .string nmc, .string txc, .int .i64 nc, .int .i64 mc] 23 (0, 0)) := (hb.block _ (heap_lt hv2)).trans hv2
  clear hv2
  have hv3 := heap_old (o' := (.cells #[.int .u8 kx, .string nmx, .string txx, .int .i64 nx, .int .i64 mx] 23 (0, 0))) (HH3_5.out)
  have hh3 : w6.heap[w4.heap.size]? = some (.cells #[.int .u8 kx, .string nmx, .string txx, .int .i64 nx, .int .i64 mx] 23 (0, 0)) := (hb.block _ (heap_lt hv3)).trans hv3
  clear hv3
  have hh4 : w6.heap[w5.heap.size]? = some (.cells #[.int .u8 kx, .string nmx, .string txx, .int .i64 nx, .int .i64 mx] 23 (0, 0)) := (hb.block _ (by first | omega | (simp; done) | (simp; omega))).trans (heap_new _ _ _ (by first | rfl | simp))
  have hbw6 : Below w.heap.size w w6 := (show Below w.heap.size w _ by first | exact HW5.out.trans ⟨rfl, rfl, rfl, Nat.le_refl _, fun _ _ => rfl⟩ | exact HW5.out | (go_grown; done)).trans (hb.mono (by first | omega | (simp; done) | (simp; omega)))
  clear hb lt0 c0_0 c0_1 c0_2 c0_3 c0_4 lt1 c1_0 c1_1 c1_2 c1_3 c1_4 lt2 c2_0 c2_1 c2_2 c2_3 c2_4 lt3 c3_0 c3_1 c3_2 c3_3 c3_4 hbw5
  have HH0_6 := Lib.hid hh0
  have lt0 := heap_lt hh0
  have c0_0 : w6.cell? ⟨w.heap.size, 0, none⟩ = some (.int .u8 ka) := by rw [Lib.cell_of_heap hh0]; rfl
  have c0_1 : w6.cell? ⟨w.heap.size, 1, none⟩ = some (.string nma) := by rw [Lib.cell_of_heap hh0]; rfl
  have c0_2 : w6.cell? ⟨w.heap.size, 2, none⟩ = some (.string txa) := by rw [Lib.cell_of_heap hh0]; rfl
  have c0_3 : w6.cell? ⟨w.heap.size, 3, none⟩ = some (.int .i64 na) := by rw [Lib.cell_of_heap hh0]; rfl
  have c0_4 : w6.cell? ⟨w.heap.size, 4, none⟩ = some (.int .i64 ma) := by rw [Lib.cell_of_heap hh0]; rfl
  clear hh0
  have HH1_6 := Lib.hid hh1
  have lt1 := heap_lt hh1
  have c1_0 : w6.cell? ⟨w.heap.size + 1, 0, none⟩ = some (.int .u8 kb) := by rw [Lib.cell_of_heap hh1]; rfl
  have c1_1 : w6.cell? ⟨w.heap.size + 1, 1, none⟩ = some (.string nmb) := by rw [Lib.cell_of_heap hh1]; rfl
  have c1_2 : w6.cell? ⟨w.heap.size + 1, 2, none⟩ = some (.string txb) := by rw [Lib.cell_of_heap hh1]; rfl
  have c1_3 : w6.cell? ⟨w.heap.size + 1, 3, none⟩ = some (.int .i64 nb) := by rw [Lib.cell_of_heap hh1]; rfl
  have c1_4 : w6.cell? ⟨w.heap.size + 1, 4, none⟩ = some (.int .i64 mb) := by rw [Lib.cell_of_heap hh1]; rfl
  clear hh1
  have HH2_6 := Lib.hid hh2
  have lt2 := heap_lt hh2
  have c2_0 : w6.cell? ⟨w.heap.size + 1 + 1, 0, none⟩ = some (.int .u8 kc) := by rw [Lib.cell_of_heap hh2]; rfl
  have c2_1 : w6.cell? ⟨w.heap.size + 1 + 1, 1, none⟩ = some (.string nmc) := by rw [Lib.cell_of_heap hh2]; rfl
  have c2_2 : w6.cell? ⟨w.heap.size + 1 + 1, 2, none⟩ = some (.string txc) := by rw [Lib.cell_of_heap hh2]; rfl
  have c2_3 : w6.cell? ⟨w.heap.size + 1 + 1, 3, none⟩ = some (.int .i64 nc) := by rw [Lib.cell_of_heap hh2]; rfl
  have c2_4 : w6.cell? ⟨w.heap.size + 1 + 1, 4, none⟩ = some (.int .i64 mc) := by rw [Lib.cell_of_heap hh2]; rfl
  clear hh2
  have HH3_6 := Lib.hid hh3
  have lt3 := heap_lt hh3
  have c3_0 : w6.cell? ⟨w4.heap.size, 0, none⟩ = some (.int .u8 kx) := by rw [Lib.cell_of_heap hh3]; rfl
  have c3_1 : w6.cell? ⟨w4.heap.size, 1, none⟩ = some (.string nmx) := by rw [Lib.cell_of_heap hh3]; rfl
  have c3_2 : w6.cell? ⟨w4.heap.size, 2, none⟩ = some (.string txx) := by rw [Lib.cell_of_heap hh3]; rfl
  have c3_3 : w6.cell? ⟨w4.heap.size, 3, none⟩ = some (.int .i64 nx) := by rw [Lib.cell_of_heap hh3]; rfl
  have c3_4 : w6.cell? ⟨w4.heap.size, 4, none⟩ = some (.int .i64 mx) := by rw [Lib.cell_of_heap hh3]; rfl
  clear hh3
  have HH4_6 := Lib.hid hh4
  have lt4 := heap_lt hh4
  have c4_0 : w6.cell? ⟨w5.heap.size, 0, none⟩ = some (.int .u8 kx) := by rw [Lib.cell_of_heap hh4]; rfl
  have c4_1 : w6.cell? ⟨w5.heap.size, 1, none⟩ = some (.string nmx) := by rw [Lib.cell_of_heap hh4]; rfl
  have c4_2 : w6.cell? ⟨w5.heap.size, 2, none⟩ = some (.string txx) := by rw [Lib.cell_of_heap hh4]; rfl
  have c4_3 : w6.cell? ⟨w5.heap.size, 3, none⟩ = some (.int .i64 nx) := by rw [Lib.cell_of_heap hh4]; rfl
  have c4_4 : w6.cell? ⟨w5.heap.size, 4, none⟩ = some (.int .i64 mx) := by rw [Lib.cell_of_heap hh4]; rfl
  clear hh4
  have sz6 := hbw6.size
  have HW6 := Lib.hid hbw6
  go_wp2_with fail
  refine (H3.out _ (by first | exact HW6.out | exact HW6.out.trans ⟨rfl, rfl, rfl, Nat.le_refl _, fun _ _ => rfl⟩ | (go_grown; done))).mono ?_; rintro e w7 ⟨rfl, hb⟩
  have hv0 := HH0_6.out
  have hh0 : w7.heap[w.heap.size]? = some (.cells #[.int .u8 ka, .string nma, .string txa, .int .i64 na, .int .i64 ma] 23 (0, 0)) := (hb.block _ (heap_lt hv0)).trans hv0
  clear hv0
  have hv1 := HH1_6.out
  have hh1 : w7.heap[w.heap.size + 1]? = some (.cells #[.int .u8 kb, .string nmb, .string txb, .int .i64 nb, .int .i64 mb] 23 (0, 0)) := (hb.block _ (heap_lt hv1)).trans hv1
  clear hv1
  have hv2 := HH2_6.out
  have hh2 : w7.heap[w.heap.size + 1 + 1]? = some (.cells #[.int .u8 kc, .string nmc, .string txc, .int .i64 nc, .int .i64 mc] 23 (0, 0)) := (hb.block _ (heap_lt hv2)).trans hv2
  clear hv2
  have hv3 := HH3_6.out
  have hh3 : w7.heap[w4.heap.size]? = some (.cells #[.int .u8 kx, .string nmx, .string txx, .int .i64 nx, .int .i64 mx] 23 (0, 0)) := (hb.block _ (heap_lt hv3)).trans hv3
  clear hv3
  have hv4 := HH4_6.out
  have hh4 : w7.heap[w5.heap.size]? = some (.cells #[.int .u8 kx, .string nmx, .string txx, .int .i64 nx, .int .i64 mx] 23 (0, 0)) := (hb.block _ (heap_lt hv4)).trans hv4
  clear hv4
  have hbw7 : Below w.heap.size w w7 := (show Below w.heap.size w _ by first | exact HW6.out.trans ⟨rfl, rfl, rfl, Nat.le_refl _, fun _ _ => rfl⟩ | exact HW6.out | (go_grown; done)).trans (hb.mono (by first | omega | (simp; done) | (simp; omega)))
  clear hb lt0 c0_0 c0_1 c0_2 c0_3 c0_4 lt1 c1_0 c1_1 c1_2 c1_3 c1_4 lt2 c2_0 c2_1 c2_2 c2_3 c2_4 lt3 c3_0 c3_1 c3_2 c3_3 c3_4 lt4 c4_0 c4_1 c4_2 c4_3 c4_4 hbw6
  have HH0_7 := Lib.hid hh0
  have lt0 := heap_lt hh0
  have c0_0 : w7.cell? ⟨w.heap.size, 0, none⟩ = some (.int .u8 ka) := by rw [Lib.cell_of_heap hh0]; rfl
  have c0_1 : w7.cell? ⟨w.heap.size, 1, none⟩ = some (.string nma) := by rw [Lib.cell_of_heap hh0]; rfl
  have c0_2 : w7.cell? ⟨w.heap.size, 2, none⟩ = some (.string txa) := by rw [Lib.cell_of_heap hh0]; rfl
  have c0_3 : w7.cell? ⟨w.heap.size, 3, none⟩ = some (.int .i64 na) := by rw [Lib.cell_of_heap hh0]; rfl
  have c0_4 : w7.cell? ⟨w.heap.size, 4, none⟩ = some (.int .i64 ma) := by rw [Lib.cell_of_heap hh0]; rfl
  clear hh0
  have HH1_7 := Lib.hid hh1
  have lt1 := heap_lt hh1
  have c1_0 : w7.cell? ⟨w.heap.size + 1, 0, none⟩ = some (.int .u8 kb) := by rw [Lib.cell_of_heap hh1]; rfl
  have c1_1 : w7.cell? ⟨w.heap.size + 1, 1, none⟩ = some (.string nmb) := by rw [Lib.cell_of_heap hh1]; rfl
  have c1_2 : w7.cell? ⟨w.heap.size + 1, 2, none⟩ = some (.string txb) := by rw [Lib.cell_of_heap hh1]; rfl
  have c1_3 : w7.cell? ⟨w.heap.size + 1, 3, none⟩ = some (.int .i64 nb) := by rw [Lib.cell_of_heap hh1]; rfl
  have c1_4 : w7.cell? ⟨w.heap.size + 1, 4, none⟩ = some (.int .i64 mb) := by rw [Lib.cell_of_heap hh1]; rfl
  clear hh1
  have HH2_7 := Lib.hid hh2
  have lt2 := heap_lt hh2
  have c2_0 : w7.cell? ⟨w.heap.size + 1 + 1, 0, none⟩ = some (.int .u8 kc) := by rw [Lib.cell_of_heap hh2]; rfl
  have c2_1 : w7.cell? ⟨w.heap.size + 1 + 1, 1, none⟩ = some (.string nmc) := by rw [Lib.cell_of_heap hh2]; rfl
  have c2_2 : w7.cell? ⟨w.heap.size + 1 + 1, 2, none⟩ = some (.string txc) := by rw [Lib.cell_of_heap hh2]; rfl
  have c2_3 : w7.cell? ⟨w.heap.size + 1 + 1, 3, none⟩ = some (.int .i64 nc) := by rw [Lib.cell_of_heap hh2]; rfl
  have c2_4 : w7.cell? ⟨w.heap.size + 1 + 1, 4, none⟩ = some (.int .i64 mc) := by rw [Lib.cell_of_heap hh2]; rfl
  clear hh2
  have HH3_7 := Lib.hid hh3
  have lt3 := heap_lt hh3
  have c3_0 : w7.cell? ⟨w4.heap.size, 0, none⟩ = some (.int .u8 kx) := by rw [Lib.cell_of_heap hh3]; rfl
  have c3_1 : w7.cell? ⟨w4.heap.size, 1, none⟩ = some (.string nmx) := by rw [Lib.cell_of_heap hh3]; rfl
  have c3_2 : w7.cell? ⟨w4.heap.size, 2, none⟩ = some (.string txx) := by rw [Lib.cell_of_heap hh3]; rfl
  have c3_3 : w7.cell? ⟨w4.heap.size, 3, none⟩ = some (.int .i64 nx) := by rw [Lib.cell_of_heap hh3]; rfl
  have c3_4 : w7.cell? ⟨w4.heap.size, 4, none⟩ = some (.int .i64 mx) := by rw [Lib.cell_of_heap hh3]; rfl
  clear hh3
  have HH4_7 := Lib.hid hh4
  have lt4 := heap_lt hh4
  have c4_0 : w7.cell? ⟨w5.heap.size, 0, none⟩ = some (.int .u8 kx) := by rw [Lib.cell_of_heap hh4]; rfl
  have c4_1 : w7.cell? ⟨w5.heap.size, 1, none⟩ = some (.string nmx) := by rw [Lib.cell_of_heap hh4]; rfl
  have c4_2 : w7.cell? ⟨w5.heap.size, 2, none⟩ = some (.string txx) := by rw [Lib.cell_of_heap hh4]; rfl
  have c4_3 : w7.cell? ⟨w5.heap.size, 3, none⟩ = some (.int .i64 nx) := by rw [Lib.cell_of_heap hh4]; rfl
  have c4_4 : w7.cell? ⟨w5.heap.size, 4, none⟩ = some (.int .i64 mx) := by rw [Lib.cell_of_heap hh4]; rfl
  clear hh4
  have sz7 := hbw7.size
  have HW7 := Lib.hid hbw7
  go_wp2_with fail
  refine (H4.out _ (by first | exact HW7.out | exact HW7.out.trans ⟨rfl, rfl, rfl, Nat.le_refl _, fun _ _ => rfl⟩ | (go_grown; done))).mono ?_; rintro e w8 ⟨rfl, hb⟩
  have hv0 := heap_old (o' := (.cells #[.int .u8 kz, .string nmz, .string txz, .int .i64 nz, .int .i64 mz] 23 (0, 0))) (HH0_7.out)
  have hh0 : w8.heap[w.heap.size]? = some (.cells #[.int .u8 ka, .string nma, .string txa, .int .i64 na, .int .i64 ma] 23 (0, 0)) := (hb.block _ (heap_lt hv0)).trans hv0
  clear hv0
  have hv1 := heap_old (o' := (.cells #[.int .u8 kz, .string nmz, .string txz, .int .i64 nz, .int .i64 mz] 23 (0, 0))) (HH1_7.out)
  have hh1 : w8.heap[w.heap.size + 1]? = some (.cells #[.int .u8 kb, .string nmb, .string txb, .int .i64 nb, .int .i64 mb] 23 (0, 0)) := (hb.block _ (heap_lt hv1)).trans hv1
  clear hv1
  have hv2 := heap_old (o' := (.cells #[.int .u8 kz, .string nmz, .string txz, .int .i64 nz, .int .i64 mz] 23 (0, 0))) (HH2_7.out)
  have hh2 : w8.heap[w.heap.size + 1 + 1]? = some (.cells #[.int .u8 kc, .string nmc, .string txc, .int .i64 nc, .int .i64 mc] 23 (0, 0)) := (hb.block _ (heap_lt hv2)).trans hv2
  clear hv2
  have hv3 := heap_old (o' := (.cells #[.int .u8 kz, .string nmz, .string txz, .int .i64 nz, .int .i64 mz] 23 (0, 0))) (HH3_7.out)
  have hh3 : w8.heap[w4.heap.size]? = some (.cells #[.int .u8 kx, .string nmx, .string txx, .int .i64 nx, .int .i64 mx] 23 (0, 0)) := (hb.block _ (heap_lt hv3)).trans hv3
  clear hv3
  have hv4 := heap_old (o' := (.cells #[.int .u8 kz, .string nmz, .string txz, .int .i64 nz, .int .i64 mz] 23 (0, 0))) (HH4_7.out)
  have hh4 : w8.heap[w5.heap.size]? = some (.cells #[.int .u8 kx, .string nmx, .string txx, .int .i64 nx, .int .i64 mx] 23 (0, 0)) := (hb.block _ (heap_lt hv4)).trans hv4
  clear hv4
  have hh5 : w8.heap[w7.heap.size]? = some (.cells #[.int .u8 kz, .string nmz, .string txz, .int .i64 nz, .int .i64 mz] 23 (0, 0)) := (hb.block _ (by first | omega | (simp; done) | (simp; omega))).trans (heap_new _ _ _ (by first | rfl | simp))
  have hbw8 : Below w.heap.size w w8 := (show Below w.heap.size w _ by first | exact HW7.out.trans ⟨rfl, rfl, rfl, Nat.le_refl _, fun _ _ => rfl⟩ | exact HW7.out | (go_grown; done)).trans (hb.mono (by first | omega | (simp; done) | (simp; omega)))
  clear hb lt0 c0_0 c0_1 c0_2 c0_3 c0_4 lt1 c1_0 c1_1 c1_2 c1_3 c1_4 lt2 c2_0 c2_1 c2_2 c2_3 c2_4 lt3 c3_0 c3_1 c3_2 c3_3 c3_4 lt4 c4_0 c4_1 c4_2 c4_3 c4_4 hbw7
  have HH0_8 := Lib.hid hh0
  have lt0 := heap_lt hh0
  have c0_0 : w8.cell? ⟨w.heap.size, 0, none⟩ = some (.int .u8 ka) := by rw [Lib.cell_of_heap hh0]; rfl
  have c0_1 : w8.cell? ⟨w.heap.size, 1, none⟩ = some (.string nma) := by rw [Lib.cell_of_heap hh0]; rfl
  have c0_2 : w8.cell? ⟨w.heap.size, 2, none⟩ = some (.string txa) := by rw [Lib.cell_of_heap hh0]; rfl
  have c0_3 : w8.cell? ⟨w.heap.size, 3, none⟩ = some (.int .i64 na) := by rw [Lib.cell_of_heap hh0]; rfl
  have c0_4 : w8.cell? ⟨w.heap.size, 4, none⟩ = some (.int .i64 ma) := by rw [Lib.cell_of_heap hh0]; rfl
  clear hh0
  have HH1_8 := Lib.hid hh1
  have lt1 := heap_lt hh1
  have c1_0 : w8.cell? ⟨w.heap.size + 1, 0, none⟩ = some (.int .u8 kb) := by rw [Lib.cell_of_heap hh1]; rfl
  have c1_1 : w8.cell? ⟨w.heap.size + 1, 1, none⟩ = some (.string nmb) := by rw [Lib.cell_of_heap hh1]; rfl
  have c1_2 : w8.cell? ⟨w.heap.size + 1, 2, none⟩ = some (.string txb) := by rw [Lib.cell_of_heap hh1]; rfl
  have c1_3 : w8.cell? ⟨w.heap.size + 1, 3, none⟩ = some (.int .i64 nb) := by rw [Lib.cell_of_heap hh1]; rfl
  have c1_4 : w8.cell? ⟨w.heap.size + 1, 4, none⟩ = some (.int .i64 mb) := by rw [Lib.cell_of_heap hh1]; rfl
  clear hh1
  have HH2_8 := Lib.hid hh2
  have lt2 := heap_lt hh2
  have c2_0 : w8.cell? ⟨w.heap.size + 1 + 1, 0, none⟩ = some (.int .u8 kc) := by rw [Lib.cell_of_heap hh2]; rfl
  have c2_1 : w8.cell? ⟨w.heap.size + 1 + 1, 1, none⟩ = some (.string nmc) := by rw [Lib.cell_of_heap hh2]; rfl
  have c2_2 : w8.cell? ⟨w.heap.size + 1 + 1, 2, none⟩ = some (.string txc) := by rw [Lib.cell_of_heap hh2]; rfl
  have c2_3 : w8.cell? ⟨w.heap.size + 1 + 1, 3, none⟩ = some (.int .i64 nc) := by rw [Lib.cell_of_heap hh2]; rfl
  have c2_4 : w8.cell? ⟨w.heap.size + 1 + 1, 4, none⟩ = some (.int .i64 mc) := by rw [Lib.cell_of_heap hh2]; rfl
  clear hh2
  have HH3_8 := Lib.hid hh3
  have lt3 := heap_lt hh3
  have c3_0 : w8.cell? ⟨w4.heap.size, 0, none⟩ = some (.int .u8 kx) := by rw [Lib.cell_of_heap hh3]; rfl
  have c3_1 : w8.cell? ⟨w4.heap.size, 1, none⟩ = some (.string nmx) := by rw [Lib.cell_of_heap hh3]; rfl
  have c3_2 : w8.cell? ⟨w4.heap.size, 2, none⟩ = some (.string txx) := by rw [Lib.cell_of_heap hh3]; rfl
  have c3_3 : w8.cell? ⟨w4.heap.size, 3, none⟩ = some (.int .i64 nx) := by rw [Lib.cell_of_heap hh3]; rfl
  have c3_4 : w8.cell? ⟨w4.heap.size, 4, none⟩ = some (.int .i64 mx) := by rw [Lib.cell_of_heap hh3]; rfl
  clear hh3
  have HH4_8 := Lib.hid hh4
  have lt4 := heap_lt hh4
  have c4_0 : w8.cell? ⟨w5.heap.size, 0, none⟩ = some (.int .u8 kx) := by rw [Lib.cell_of_heap hh4]; rfl
  have c4_1 : w8.cell? ⟨w5.heap.size, 1, none⟩ = some (.string nmx) := by rw [Lib.cell_of_heap hh4]; rfl
  have c4_2 : w8.cell? ⟨w5.heap.size, 2, none⟩ = some (.string txx) := by rw [Lib.cell_of_heap hh4]; rfl
  have c4_3 : w8.cell? ⟨w5.heap.size, 3, none⟩ = some (.int .i64 nx) := by rw [Lib.cell_of_heap hh4]; rfl
  have c4_4 : w8.cell? ⟨w5.heap.size, 4, none⟩ = some (.int .i64 mx) := by rw [Lib.cell_of_heap hh4]; rfl
  clear hh4
  have HH5_8 := Lib.hid hh5
  have lt5 := heap_lt hh5
  have c5_0 : w8.cell? ⟨w7.heap.size, 0, none⟩ = some (.int .u8 kz) := by rw [Lib.cell_of_heap hh5]; rfl
  have c5_1 : w8.cell? ⟨w7.heap.size, 1, none⟩ = some (.string nmz) := by rw [Lib.cell_of_heap hh5]; rfl
  have c5_2 : w8.cell? ⟨w7.heap.size, 2, none⟩ = some (.string txz) := by rw [Lib.cell_of_heap hh5]; rfl
  have c5_3 : w8.cell? ⟨w7.heap.size, 3, none⟩ = some (.int .i64 nz) := by rw [Lib.cell_of_heap hh5]; rfl
  have c5_4 : w8.cell? ⟨w7.heap.size, 4, none⟩ = some (.int .i64 mz) := by rw [Lib.cell_of_heap hh5]; rfl
  clear hh5
  have sz8 := hbw8.size
  have HW8 := Lib.hid hbw8
  go_wp2_with fail
  refine (H5.out _ (by first | exact HW8.out | exact HW8.out.trans ⟨rfl, rfl, rfl, Nat.le_refl _, fun _ _ => rfl⟩ | (go_grown; done))).mono ?_; rintro e w9 ⟨rfl, hb⟩
  have hv0 := HH0_8.out
  have hh0 : w9.heap[w.heap.size]? = some (.cells #[.int .u8 ka, .string nma, .string txa, .int .i64 na, .int .i64 ma] 23 (0, 0)) := (hb.block _ (heap_lt hv0)).trans hv0
  clear hv0
  have hv1 := HH1_8.out
  have hh1 : w9.heap[w.heap.size + 1]? = some (.cells #[.int .u8 kb, .string nmb, .string txb, .int .i64 nb, .int .i64 mb] 23 (0, 0)) := (hb.block _ (heap_lt hv1)).trans hv1
  clear hv1
  have hv2 := HH2_8.out
  have hh2 : w9.heap[w.heap.size + 1 + 1]? = some (.cells #[.int .u8 kc, .string nmc, .string txc, .int .i64 nc, .int .i64 mc] 23 (0, 0)) := (hb.block _ (heap_lt hv2)).trans hv2
  clear hv2
  have hv3 := HH3_8.out
  have hh3 : w9.heap[w4.heap.size]? = some (.cells #[.int .u8 kx, .string nmx, .string txx, .int .i64 nx, .int .i64 mx] 23 (0, 0)) := (hb.block _ (heap_lt hv3)).trans hv3
  clear hv3
  have hv4 := HH4_8.out
  have hh4 : w9.heap[w5.heap.size]? = some (.cells #[.int .u8 kx, .string nmx, .string txx, .int .i64 nx, .int .i64 mx] 23 (0, 0)) := (hb.block _ (heap_lt hv4)).trans hv4
  clear hv4
  have hv5 := HH5_8.out
  have hh5 : w9.heap[w7.heap.size]? = some (.cells #[.int .u8 kz, .string nmz, .string txz, .int .i64 nz, .int .i64 mz] 23 (0, 0)) := (hb.block _ (heap_lt hv5)).trans hv5
  clear hv5
  have hbw9 : Below w.heap.size w w9 := (show Below w.heap.size w _ by first | exact HW8.out.trans ⟨rfl, rfl, rfl, Nat.le_refl _, fun _ _ => rfl⟩ | exact HW8.out | (go_grown; done)).trans (hb.mono (by first | omega | (simp; done) | (simp; omega)))
  clear hb lt0 c0_0 c0_1 c0_2 c0_3 c0_4 lt1 c1_0 c1_1 c1_2 c1_3 c1_4 lt2 c2_0 c2_1 c2_2 c2_3 c2_4 lt3 c3_0 c3_1 c3_2 c3_3 c3_4 lt4 c4_0 c4_1 c4_2 c4_3 c4_4 lt5 c5_0 c5_1 c5_2 c5_3 c5_4 hbw8
  have HH0_9 := Lib.hid hh0
  have lt0 := heap_lt hh0
  have c0_0 : w9.cell? ⟨w.heap.size, 0, none⟩ = some (.int .u8 ka) := by rw [Lib.cell_of_heap hh0]; rfl
  have c0_1 : w9.cell? ⟨w.heap.size, 1, none⟩ = some (.string nma) := by rw [Lib.cell_of_heap hh0]; rfl
  have c0_2 : w9.cell? ⟨w.heap.size, 2, none⟩ = some (.string txa) := by rw [Lib.cell_of_heap hh0]; rfl
  have c0_3 : w9.cell? ⟨w.heap.size, 3, none⟩ = some (.int .i64 na) := by rw [Lib.cell_of_heap hh0]; rfl
  have c0_4 : w9.cell? ⟨w.heap.size, 4, none⟩ = some (.int .i64 ma) := by rw [Lib.cell_of_heap hh0]; rfl
  clear hh0
  have HH1_9 := Lib.hid hh1
  have lt1 := heap_lt hh1
  have c1_0 : w9.cell? ⟨w.heap.size + 1, 0, none⟩ = some (.int .u8 kb) := by rw [Lib.cell_of_heap hh1]; rfl
  have c1_1 : w9.cell? ⟨w.heap.size + 1, 1, none⟩ = some (.string nmb) := by rw [Lib.cell_of_heap hh1]; rfl
  have c1_2 : w9.cell? ⟨w.heap.size + 1, 2, none⟩ = some (.string txb) := by rw [Lib.cell_of_heap hh1]; rfl
  have c1_3 : w9.cell? ⟨w.heap.size + 1, 3, none⟩ = some (.int .i64 nb) := by rw [Lib.cell_of_heap hh1]; rfl
  have c1_4 : w9.cell? ⟨w.heap.size + 1, 4, none⟩ = some (.int .i64 mb) := by rw [Lib.cell_of_heap hh1]; rfl
  clear hh1
  have HH2_9 := Lib.hid hh2
  have lt2 := heap_lt hh2
  have c2_0 : w9.cell? ⟨w.heap.size + 1 + 1, 0, none⟩ = some (.int .u8 kc) := by rw [Lib.cell_of_heap hh2]; rfl
  have c2_1 : w9.cell? ⟨w.heap.size + 1 + 1, 1, none⟩ = some (.string nmc) := by rw [Lib.cell_of_heap hh2]; rfl
  have c2_2 : w9.cell? ⟨w.heap.size + 1 + 1, 2, none⟩ = some (.string txc) := by rw [Lib.cell_of_heap hh2]; rfl
  have c2_3 : w9.cell? ⟨w.heap.size + 1 + 1, 3, none⟩ = some (.int .i64 nc) := by rw [Lib.cell_of_heap hh2]; rfl
  have c2_4 : w9.cell? ⟨w.heap.size + 1 + 1, 4, none⟩ = some (.int .i64 mc) := by rw [Lib.cell_of_heap hh2]; rfl
  clear hh2
  have HH3_9 := Lib.hid hh3
  have lt3 := heap_lt hh3
  have c3_0 : w9.cell? ⟨w4.heap.size, 0, none⟩ = some (.int .u8 kx) := by rw [Lib.cell_of_heap hh3]; rfl
  have c3_1 : w9.cell? ⟨w4.heap.size, 1, none⟩ = some (.string nmx) := by rw [Lib.cell_of_heap hh3]; rfl
  have c3_2 : w9.cell? ⟨w4.heap.size, 2, none⟩ = some (.string txx) := by rw [Lib.cell_of_heap hh3]; rfl
  have c3_3 : w9.cell? ⟨w4.heap.size, 3, none⟩ = some (.int .i64 nx) := by rw [Lib.cell_of_heap hh3]; rfl
  have c3_4 : w9.cell? ⟨w4.heap.size, 4, none⟩ = some (.int .i64 mx) := by rw [Lib.cell_of_heap hh3]; rfl
  clear hh3
  have HH4_9 := Lib.hid hh4
  have lt4 := heap_lt hh4
  have c4_0 : w9.cell? ⟨w5.heap.size, 0, none⟩ = some (.int .u8 kx) := by rw [Lib.cell_of_heap hh4]; rfl
  have c4_1 : w9.cell? ⟨w5.heap.size, 1, none⟩ = some (.string nmx) := by rw [Lib.cell_of_heap hh4]; rfl
  have c4_2 : w9.cell? ⟨w5.heap.size, 2, none⟩ = some (.string txx) := by rw [Lib.cell_of_heap hh4]; rfl
  have c4_3 : w9.cell? ⟨w5.heap.size, 3, none⟩ = some (.int .i64 nx) := by rw [Lib.cell_of_heap hh4]; rfl
  have c4_4 : w9.cell? ⟨w5.heap.size, 4, none⟩ = some (.int .i64 mx) := by rw [Lib.cell_of_heap hh4]; rfl
  clear hh4
  have HH5_9 := Lib.hid hh5
  have lt5 := heap_lt hh5
  have c5_0 : w9.cell? ⟨w7.heap.size, 0, none⟩ = some (.int .u8 kz) := by rw [Lib.cell_of_heap hh5]; rfl
  have c5_1 : w9.cell? ⟨w7.heap.size, 1, none⟩ = some (.string nmz) := by rw [Lib.cell_of_heap hh5]; rfl
  have c5_2 : w9.cell? ⟨w7.heap.size, 2, none⟩ = some (.string txz) := by rw [Lib.cell_of_heap hh5]; rfl
  have c5_3 : w9.cell? ⟨w7.heap.size, 3, none⟩ = some (.int .i64 nz) := by rw [Lib.cell_of_heap hh5]; rfl
  have c5_4 : w9.cell? ⟨w7.heap.size, 4, none⟩ = some (.int .i64 mz) := by rw [Lib.cell_of_heap hh5]; rfl
  clear hh5
  have sz9 := hbw9.size
  have HW9 := Lib.hid hbw9
  by_cases hg : g = 0
  · obtain ⟨rfl, rfl⟩ := ht hg
    subst hg
    by_cases hh : h = 0
    · subst hh
      (go_wp2_with fail; go_ret; exact ⟨rfl, by first | exact HW9.out | (go_grown; done)⟩)
    · have hh' : (h != 0) = true := by simpa using hh
      (go_wp2_with fail; go_ret; exact ⟨rfl, by first | exact HW9.out | (go_grown; done)⟩)
  · have hg' : (g != 0) = true := by simpa using hg
    clear ht
    (go_wp2_with fail; go_ret; exact ⟨rfl, by first | exact HW9.out | (go_grown; done)⟩)
theorem read_one (w : World) (k : Int) (g : Nat) (c a : Value) (l : Bool) (rd : RdV) (HK : KindC w k g c a l rd) (hc : c.oneCell' = true) (ha : a.oneCell' = true) (x : Cl) (hb : BdC x) (ho : okC rd x) : DoesU w 8 #[.int .u8 k, cellV x] (.tuple #[cellV x, .int .i64 0]) := by
  obtain ⟨xk, xnm, xtx, xn, xm⟩ := x
  obtain ⟨⟨h0, h1⟩, h2, h3, h4⟩ := hb
  obtain ⟨e1, e2, e3⟩ := ho
  dsimp only at *
  subst e2 e3
  have := readK_go w k g c a l rd HK hc ha xk ⟨#[]⟩ xtx xn 0 h0 h1 h2 h3 h4 (by rw [e1])
  rw [e1] at this
  exact this
theorem reads_one (w : World) (k : Int) (x : Cl) (H : DoesU w 8 #[.int .u8 k, cellV x] (.tuple #[cellV x, .int .i64 0])) : DoesU w 9 #[.int .u8 k, cellV x, cellV x] (.bool true) := fun W hW =>
  reads_yes k _ _ _ _ _ _ _ _ _ _ W (Lib.hid (H.below hW))
theorem sums16_any (k : Int) (h0 : 0 ≤ k) (h1 : k ≤ 255) (a b c : Cl) (ha : (0 ≤ a.k ∧ a.k ≤ 255) ∧ R a.n ∧ R a.m) (hb : (0 ≤ b.k ∧ b.k ≤ 255) ∧ R b.n ∧ R b.m) (hc : (0 ≤ c.k ∧ c.k ≤ 255) ∧ R c.n ∧ R c.m) (w : World) (hE : EnvS w) :
    Calls Tryz.prog 5 #[.int .u8 k, cellV a, cellV b, cellV c] w fun e w' => e = .returned (.bool true) ∧ Below w.heap.size w w' := by
  have HG := great16_any a b w
  have HH := great16_any c c w
  by_cases g1 : 1000 < a.tx.size ∨ 1000 < b.tx.size
  · rw [decide_eq_true g1] at HG
    exact sums16_ab _ _ _ _ _ _ _ _ _ _ _ _ _ _ _ _ w hE (Lib.hid HG)
  rw [decide_eq_false g1] at HG
  by_cases g2 : 1000 < c.tx.size ∨ 1000 < c.tx.size
  · rw [decide_eq_true g2] at HH
    exact sums16_c _ _ _ _ _ _ _ _ _ _ _ _ _ _ _ _ w hE (Lib.hid HG) (Lib.hid HH)
  rw [decide_eq_false g2] at HH
  obtain ⟨V, E, X, Q, H, S⟩ := sum_all w hE k h0 h1
  have ba : BdC a := ⟨ha.1, by omega, ha.2⟩
  have bb : BdC b := ⟨hb.1, by omega, hb.2⟩
  have bc : BdC c := ⟨hc.1, by omega, hc.2⟩
  have H1 := S.does a b ba bb
  have H2 := S.does b a bb ba
  have H3 := S.does c b bc bb
  have H4 := H.does a c ba bc
  have H5 := H.does (X a b) (X c b) (bd_sum S a b) (bd_sum S c b)
  rw [S.fcomm, S.xcomm] at H2
  by_cases he : Q a b = 0
  · have HR : DoesU w 8 #[.int .u8 k, cellV (X a b)] (.tuple #[cellV (X a b), .int .i64 0]) := by
      rcases S.one a b he with ⟨rfl, h⟩ | ⟨rfl, h⟩
      · exact read_one w 1 _ _ _ _ _ (kindc_1 w hE) rfl rfl _ (bd_sum S a b) h
      · exact read_one w 7 _ _ _ _ _ (kindc_7 w hE) rfl rfl _ (bd_sum S a b) h
    have hk := S.keep a b c he
    rw [he] at H1 H2
    exact sums16_go k _ _ _ _ _ _ _ _ _ _ _ _ _ _ _ _ _ _ _ _ _ _ _ _ _ w hE (Lib.hid HG) (Lib.hid HH) _ _ _ _ _ (Lib.hid H1) (Lib.hid H2) (Lib.hid (reads_one w k _ HR)) (Lib.hid H3) (Lib.hid H4) (Lib.hid H5) hk
  · rw [S.no a b he] at H1 H2 H5
    exact sums16_bad k _ _ _ _ _ _ _ _ _ _ _ _ _ _ _ _ _ _ _ _ w hE (Lib.hid HG) (Lib.hid HH) _ _ _ _ _ _ (Lib.hid H1) (Lib.hid H2) (Lib.hid H3) (Lib.hid H4) (Lib.hid H5) (by simpa using he) (by simpa using he)
end Go.Proofs.YtjhgiojmlkeccaaGreatDoor
