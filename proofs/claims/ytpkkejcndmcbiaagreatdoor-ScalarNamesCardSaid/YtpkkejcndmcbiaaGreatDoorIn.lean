/- The law ScalarNames. -/
import Derived.Test.YtpkkejcndmcbiaaGreatDoorIm
set_option linter.unusedSimpArgs false
set_option linter.unusedVariables false
namespace Go.Proofs.YtpkkejcndmcbiaaGreatDoor
open Go.RowKit Go.Shelf
theorem empty_toList : (⟨#[]⟩ : ByteArray).toList = [] := by rw [ByteArray.toList_eq]
theorem plainR_go (rd : RdV) (ck : Int) (tx : ByteArray) (n : Int) (h : if ck = 3 then n = 0 else tx.toList = []) : plainR rd ck tx n 0 = rd ck tx n := if_pos ⟨rfl, h⟩
/-- What 'of' gives. -/
def KindC (w : World) (k : Int) (g : Nat) (c a : Value) (l : Bool) (rd : RdV) : Prop := ∀ W, Below w.heap.size w W → Calls Tryz.prog 13 #[.int .u8 k] W fun e w' => (∃ cap : Array Value, e = .returned (.tuple #[.agg #[.func (.func g) #[] cap, c, a, .bool l], .int .i64 0]) ∧ PlC w' g cap c a l rd) ∧ Below W.heap.size W w'
theorem KindC.below {w w' : World} {k : Int} {g : Nat} {c a : Value} {l : Bool} {rd : RdV} (h : KindC w k g c a l rd) (hb : Below w.heap.size w w') : KindC w' k g c a l rd := fun W hW => h W (hb.trans (hW.mono hb.size))
theorem readK_go (w : World) (k : Int) (g : Nat) (c a : Value) (l : Bool) (rd : RdV) (HK : KindC w k g c a l rd) (hc : c.oneCell' = true) (ha : a.oneCell' = true) (ck : Int) (nm tx : ByteArray) (n m : Int) (h0 : 0 ≤ ck) (h1 : ck ≤ 255) (h2 : tx.size ≤ 1000000) (h3 : R n) (h4 : R m) (hr : (plainR rd ck tx n m).2.2.2 = true) :
    DoesU w 19 #[.int .u8 k, .agg #[.int .u8 ck, .string nm, .string tx, .int .i64 n, .int .i64 m]] (.tuple #[.agg #[.int .u8 (plainR rd ck tx n m).1, .string ⟨#[]⟩, .string (plainR rd ck tx n m).2.1, .int .i64 (plainR rd ck tx n m).2.2.1, .int .i64 0], .int .i64 0]) := fun W hW =>
  sread_go k ck nm tx n m _ _ _ _ _ W (Lib.hid fun W' hW' => (HK.below hW W' hW').mono fun e w' ⟨⟨cap, he, hp⟩, hb⟩ => ⟨⟨g, cap, c, a, l, he, Lib.hid ⟨hc, ha⟩, Lib.hid (by have := hp ck nm tx n m h0 h1 h2 h3 h4; rw [hr] at this; exact this)⟩, hb⟩)
theorem readK_no (w : World) (k : Int) (g : Nat) (c a : Value) (l : Bool) (rd : RdV) (HK : KindC w k g c a l rd) (hc : c.oneCell' = true) (ha : a.oneCell' = true) (ck : Int) (nm tx : ByteArray) (n m : Int) (h0 : 0 ≤ ck) (h1 : ck ≤ 255) (h2 : tx.size ≤ 1000000) (h3 : R n) (h4 : R m) (hr : (plainR rd ck tx n m).2.2.2 = false) :
    DoesU w 19 #[.int .u8 k, .agg #[.int .u8 ck, .string nm, .string tx, .int .i64 n, .int .i64 m]] (.tuple #[.agg #[.int .u8 0, .string ⟨#[]⟩, .string ⟨#[]⟩, .int .i64 0, .int .i64 0], .int .i64 160]) := fun W hW =>
  sread_no k ck nm tx n m (plainR rd ck tx n m).1 ⟨#[]⟩ (plainR rd ck tx n m).2.1 (plainR rd ck tx n m).2.2.1 0 W (Lib.hid fun W' hW' => (HK.below hW W' hW').mono fun e w' ⟨⟨cap, he, hp⟩, hb⟩ => ⟨⟨g, cap, c, a, l, he, Lib.hid ⟨hc, ha⟩, Lib.hid (by have := hp ck nm tx n m h0 h1 h2 h3 h4; rw [hr] at this; exact this)⟩, hb⟩)
theorem v_150 : plainR (digsR (toldR decC)) 3 ⟨#[49, 46, 53, 48]⟩ 0 0 = (3, ⟨#[49, 46, 53]⟩, 0, true) := by
  rw [plainR_go _ _ _ _ (by rw [if_pos rfl])]; decide +kernel
theorem v_3 : plainR (digsR (toldR decC)) 2 ⟨#[]⟩ 3 0 = (3, ⟨#[51]⟩, 0, true) := by
  rw [plainR_go _ _ _ _ (by rw [if_neg (by decide)]; exact empty_toList)]; decide +kernel
theorem v_7 : plainR (digsR (toldR someC)) 2 ⟨#[]⟩ 7 0 = (3, ⟨#[55]⟩, 0, true) := by
  rw [plainR_go _ _ _ _ (by rw [if_neg (by decide)]; exact empty_toList)]; decide +kernel
theorem v_big : plainR numR 2 ⟨#[]⟩ 2147483648 0 = (2, ⟨#[]⟩, 2147483648, false) := by
  rw [plainR_go _ _ _ _ (by rw [if_neg (by decide)]; exact empty_toList)]; decide +kernel
theorem v_s1 : plainR (toldR sameC) 2 ⟨#[]⟩ 1 0 = (2, ⟨#[]⟩, 1, false) := by
  rw [plainR_go _ _ _ _ (by rw [if_neg (by decide)]; exact empty_toList)]; decide +kernel
theorem v_e : plainR (digsR (toldR someC)) 3 ⟨#[]⟩ 0 0 = (3, ⟨#[]⟩, 0, false) := by
  rw [plainR_go _ _ _ _ (by rw [if_pos rfl])]
  unfold digsR toldR someC
  rw [if_neg (by decide), if_pos ⟨rfl, by decide +kernel⟩, if_pos empty_toList]; decide +kernel
theorem v_02 : plainR (digsR (toldR decC)) 3 ⟨#[48, 46, 50]⟩ 0 0 = (3, ⟨#[48, 46, 50]⟩, 0, true) := by
  rw [plainR_go _ _ _ _ (by rw [if_pos rfl])]; decide +kernel
theorem v_015 : plainR (digsR (toldR decC)) 3 ⟨#[48, 46, 49, 53]⟩ 0 0 = (3, ⟨#[48, 46, 49, 53]⟩, 0, true) := by
  rw [plainR_go _ _ _ _ (by rw [if_pos rfl])]; decide +kernel
theorem v_max : plainR numR 2 ⟨#[]⟩ 2147483647 0 = (2, ⟨#[]⟩, 2147483647, true) := by
  rw [plainR_go _ _ _ _ (by rw [if_neg (by decide)]; exact empty_toList)]; decide +kernel
theorem v_1 : plainR numR 2 ⟨#[]⟩ 1 0 = (2, ⟨#[]⟩, 1, true) := by
  rw [plainR_go _ _ _ _ (by rw [if_neg (by decide)]; exact empty_toList)]; decide +kernel
theorem v_05 : plainR (digsR (toldR decC)) 3 ⟨#[48, 46, 53]⟩ 0 0 = (3, ⟨#[48, 46, 53]⟩, 0, true) := by
  rw [plainR_go _ _ _ _ (by rw [if_pos rfl])]; decide +kernel
theorem v_ae : plainR (toldR sameC) 3 ⟨#[97, 226, 130, 172]⟩ 0 0 = (3, ⟨#[97, 226, 130, 172]⟩, 0, true) := by
  rw [plainR_go _ _ _ _ (by rw [if_pos rfl])]; decide +kernel
theorem kindc_1 (w : World) (hE : EnvS w) : KindC w 1 29 (.func (.func 30) #[] #[]) (.func (.func 32) #[] #[]) false numR := fun W hW => kind_1 W (hE.below hW)
theorem kindc_2 (w : World) (hE : EnvS w) : KindC w 2 52 (.func (.func 27) #[] #[]) .nilFunc true (toldR sameC) := fun W hW => kind_2 W (hE.below hW)
theorem kindc_3 (w : World) (hE : EnvS w) : KindC w 3 35 .nilFunc .nilFunc false boolR := fun W hW => kind_3 W (hE.below hW)
theorem kindc_4 (w : World) (hE : EnvS w) : KindC w 4 53 (.func (.func 27) #[] #[]) .nilFunc true (digsR (toldR someC)) := fun W hW => kind_4 W (hE.below hW)
theorem kindc_7 (w : World) (hE : EnvS w) : KindC w 7 53 (.func (.func 42) #[] #[]) (.func (.func 43) #[] #[]) false (digsR (toldR decC)) := fun W hW => kind_7 W (hE.below hW)
theorem r_150 (w : World) (hE : EnvS w) : DoesU w 19 #[.int .u8 7, .agg #[.int .u8 3, .string ⟨#[]⟩, .string ⟨#[49, 46, 53, 48]⟩, .int .i64 0, .int .i64 0]] (.tuple #[.agg #[.int .u8 3, .string ⟨#[]⟩, .string ⟨#[49, 46, 53]⟩, .int .i64 0, .int .i64 0], .int .i64 0]) := by
  have := readK_go w 7 _ _ _ _ _ (kindc_7 w hE) rfl rfl 3 ⟨#[]⟩ ⟨#[49, 46, 53, 48]⟩ 0 0 (by omega) (by omega) (by decide) (by unfold R; omega) (by unfold R; omega) (by rw [v_150])
  rw [v_150] at this
  exact this
theorem r_3 (w : World) (hE : EnvS w) : DoesU w 19 #[.int .u8 7, .agg #[.int .u8 2, .string ⟨#[]⟩, .string ⟨#[]⟩, .int .i64 3, .int .i64 0]] (.tuple #[.agg #[.int .u8 3, .string ⟨#[]⟩, .string ⟨#[51]⟩, .int .i64 0, .int .i64 0], .int .i64 0]) := by
  have := readK_go w 7 _ _ _ _ _ (kindc_7 w hE) rfl rfl 2 ⟨#[]⟩ ⟨#[]⟩ 3 0 (by omega) (by omega) (by decide) (by unfold R; omega) (by unfold R; omega) (by rw [v_3])
  rw [v_3] at this
  exact this
theorem r_7 (w : World) (hE : EnvS w) : DoesU w 19 #[.int .u8 4, .agg #[.int .u8 2, .string ⟨#[]⟩, .string ⟨#[]⟩, .int .i64 7, .int .i64 0]] (.tuple #[.agg #[.int .u8 3, .string ⟨#[]⟩, .string ⟨#[55]⟩, .int .i64 0, .int .i64 0], .int .i64 0]) := by
  have := readK_go w 4 _ _ _ _ _ (kindc_4 w hE) rfl rfl 2 ⟨#[]⟩ ⟨#[]⟩ 7 0 (by omega) (by omega) (by decide) (by unfold R; omega) (by unfold R; omega) (by rw [v_7])
  rw [v_7] at this
  exact this
theorem r_big (w : World) (hE : EnvS w) : DoesU w 19 #[.int .u8 1, .agg #[.int .u8 2, .string ⟨#[]⟩, .string ⟨#[]⟩, .int .i64 2147483648, .int .i64 0]] (.tuple #[.agg #[.int .u8 0, .string ⟨#[]⟩, .string ⟨#[]⟩, .int .i64 0, .int .i64 0], .int .i64 160]) := by
  have := readK_no w 1 _ _ _ _ _ (kindc_1 w hE) rfl rfl 2 ⟨#[]⟩ ⟨#[]⟩ 2147483648 0 (by omega) (by omega) (by decide) (by unfold R; omega) (by unfold R; omega) (by rw [v_big])
  exact this
theorem r_s1 (w : World) (hE : EnvS w) : DoesU w 19 #[.int .u8 2, .agg #[.int .u8 2, .string ⟨#[]⟩, .string ⟨#[]⟩, .int .i64 1, .int .i64 0]] (.tuple #[.agg #[.int .u8 0, .string ⟨#[]⟩, .string ⟨#[]⟩, .int .i64 0, .int .i64 0], .int .i64 160]) := by
  have := readK_no w 2 _ _ _ _ _ (kindc_2 w hE) rfl rfl 2 ⟨#[]⟩ ⟨#[]⟩ 1 0 (by omega) (by omega) (by decide) (by unfold R; omega) (by unfold R; omega) (by rw [v_s1])
  exact this
theorem r_e (w : World) (hE : EnvS w) : DoesU w 19 #[.int .u8 4, .agg #[.int .u8 3, .string ⟨#[]⟩, .string ⟨#[]⟩, .int .i64 0, .int .i64 0]] (.tuple #[.agg #[.int .u8 0, .string ⟨#[]⟩, .string ⟨#[]⟩, .int .i64 0, .int .i64 0], .int .i64 160]) := by
  have := readK_no w 4 _ _ _ _ _ (kindc_4 w hE) rfl rfl 3 ⟨#[]⟩ ⟨#[]⟩ 0 0 (by omega) (by omega) (by decide) (by unfold R; omega) (by unfold R; omega) (by rw [v_e])
  exact this
set_option maxRecDepth 100000 in
set_option maxHeartbeats 4000000 in
theorem ltext_d (s : ByteArray) (w : World) : DoesU w 5 #[.string s] (.agg #[.int .u8 3, .string ⟨#[]⟩, .string s, .int .i64 0, .int .i64 0]) := fun W _ => by
  go_enter Tryz.func5, Tryz.ntmps5
  go_wp2_with fail
  go_returns
  exact ⟨rfl, by go_grown⟩
set_option maxRecDepth 100000 in
set_option maxHeartbeats 4000000 in
theorem lnumber_d (n : Int) (w : World) : DoesU w 7 #[.int .i64 n] (.agg #[.int .u8 2, .string ⟨#[]⟩, .string ⟨#[]⟩, .int .i64 n, .int .i64 0]) := fun W _ => by
  go_enter Tryz.func7, Tryz.ntmps7
  go_wp2_with fail
  go_returns
  exact ⟨rfl, by go_grown⟩
set_option maxRecDepth 100000 in
set_option maxHeartbeats 4000000 in
theorem reads_yes (k : Int) (k1 : Int) (nm1 tx1 : ByteArray) (n1 m1 : Int) (k2 : Int) (nm2 tx2 : ByteArray) (n2 m2 : Int) (w : World) (HR : Hid (DoesU w 19 #[.int .u8 k, .agg #[.int .u8 k1, .string nm1, .string tx1, .int .i64 n1, .int .i64 m1]] (.tuple #[.agg #[.int .u8 k2, .string nm2, .string tx2, .int .i64 n2, .int .i64 m2], .int .i64 0]))) :
    Calls Tryz.prog 18 #[.int .u8 k, .agg #[.int .u8 k1, .string nm1, .string tx1, .int .i64 n1, .int .i64 m1], .agg #[.int .u8 k2, .string nm2, .string tx2, .int .i64 n2, .int .i64 m2]] w fun e w' => e = .returned (.bool true) ∧ Below w.heap.size w w' := by
  go_enter Tryz.func18, Tryz.ntmps18
  go_wp2_with fail
  refine (HR.out _ (by first | exact Below.refl _ _ | (go_grown; done))).mono ?_; rintro e w1 ⟨rfl, hb⟩
  have hh0 : w1.heap[w.heap.size]? = some (.cells #[.int .u8 k1, .string nm1, .string tx1, .int .i64 n1, .int .i64 m1] 26 (0, 0)) := (hb.block _ (by first | omega | (simp; done) | (simp; omega))).trans (heap_old (o' := (.cells #[.int .u8 k2, .string nm2, .string tx2, .int .i64 n2, .int .i64 m2] 26 (0, 0))) (heap_new _ _ _ (by first | rfl | simp)))
  have hh1 : w1.heap[w.heap.size + 1]? = some (.cells #[.int .u8 k2, .string nm2, .string tx2, .int .i64 n2, .int .i64 m2] 26 (0, 0)) := (hb.block _ (by first | omega | (simp; done) | (simp; omega))).trans (heap_new _ _ _ (by first | rfl | simp))
  have hbw1 : Below w.heap.size w w1 := (show Below w.heap.size w _ by first | exact Below.refl _ _ | (go_grown; done)).trans (hb.mono (by first | omega | (simp; done) | (simp; omega)))
  clear hb
  have HH0_1 := Lib.hid hh0
  have lt0 := heap_lt hh0
  have c0_0 : w1.cell? ⟨w.heap.size, 0, none⟩ = some (.int .u8 k1) := by rw [Lib.cell_of_heap hh0]; rfl
  have c0_1 : w1.cell? ⟨w.heap.size, 1, none⟩ = some (.string nm1) := by rw [Lib.cell_of_heap hh0]; rfl
  have c0_2 : w1.cell? ⟨w.heap.size, 2, none⟩ = some (.string tx1) := by rw [Lib.cell_of_heap hh0]; rfl
  have c0_3 : w1.cell? ⟨w.heap.size, 3, none⟩ = some (.int .i64 n1) := by rw [Lib.cell_of_heap hh0]; rfl
  have c0_4 : w1.cell? ⟨w.heap.size, 4, none⟩ = some (.int .i64 m1) := by rw [Lib.cell_of_heap hh0]; rfl
  clear hh0
  have HH1_1 := Lib.hid hh1
  have lt1 := heap_lt hh1
  have c1_0 : w1.cell? ⟨w.heap.size + 1, 0, none⟩ = some (.int .u8 k2) := by rw [Lib.cell_of_heap hh1]; rfl
  have c1_1 : w1.cell? ⟨w.heap.size + 1, 1, none⟩ = some (.string nm2) := by rw [Lib.cell_of_heap hh1]; rfl
  have c1_2 : w1.cell? ⟨w.heap.size + 1, 2, none⟩ = some (.string tx2) := by rw [Lib.cell_of_heap hh1]; rfl
  have c1_3 : w1.cell? ⟨w.heap.size + 1, 3, none⟩ = some (.int .i64 n2) := by rw [Lib.cell_of_heap hh1]; rfl
  have c1_4 : w1.cell? ⟨w.heap.size + 1, 4, none⟩ = some (.int .i64 m2) := by rw [Lib.cell_of_heap hh1]; rfl
  clear hh1
  have sz1 := hbw1.size
  have HW1 := Lib.hid hbw1
  go_wp2_with fail
  go_ret
  exact ⟨rfl, by first | exact HW1.out | (go_grown; done)⟩
set_option maxRecDepth 100000 in
set_option maxHeartbeats 4000000 in
theorem none_yes (k : Int) (k1 : Int) (nm1 tx1 : ByteArray) (n1 m1 : Int) (w : World) (HR : Hid (DoesU w 19 #[.int .u8 k, .agg #[.int .u8 k1, .string nm1, .string tx1, .int .i64 n1, .int .i64 m1]] (.tuple #[.agg #[.int .u8 0, .string ⟨#[]⟩, .string ⟨#[]⟩, .int .i64 0, .int .i64 0], .int .i64 160]))) :
    Calls Tryz.prog 12 #[.int .u8 k, .agg #[.int .u8 k1, .string nm1, .string tx1, .int .i64 n1, .int .i64 m1]] w fun e w' => e = .returned (.bool true) ∧ Below w.heap.size w w' := by
  go_enter Tryz.func12, Tryz.ntmps12
  go_wp2_with fail
  refine (HR.out _ (by first | exact Below.refl _ _ | (go_grown; done))).mono ?_; rintro e w1 ⟨rfl, hb⟩
  have hh0 : w1.heap[w.heap.size]? = some (.cells #[.int .u8 k1, .string nm1, .string tx1, .int .i64 n1, .int .i64 m1] 26 (0, 0)) := (hb.block _ (by first | omega | (simp; done) | (simp; omega))).trans (heap_new _ _ _ (by first | rfl | simp))
  have hbw1 : Below w.heap.size w w1 := (show Below w.heap.size w _ by first | exact Below.refl _ _ | (go_grown; done)).trans (hb.mono (by first | omega | (simp; done) | (simp; omega)))
  clear hb
  have HH0_1 := Lib.hid hh0
  have lt0 := heap_lt hh0
  have c0_0 : w1.cell? ⟨w.heap.size, 0, none⟩ = some (.int .u8 k1) := by rw [Lib.cell_of_heap hh0]; rfl
  have c0_1 : w1.cell? ⟨w.heap.size, 1, none⟩ = some (.string nm1) := by rw [Lib.cell_of_heap hh0]; rfl
  have c0_2 : w1.cell? ⟨w.heap.size, 2, none⟩ = some (.string tx1) := by rw [Lib.cell_of_heap hh0]; rfl
  have c0_3 : w1.cell? ⟨w.heap.size, 3, none⟩ = some (.int .i64 n1) := by rw [Lib.cell_of_heap hh0]; rfl
  have c0_4 : w1.cell? ⟨w.heap.size, 4, none⟩ = some (.int .i64 m1) := by rw [Lib.cell_of_heap hh0]; rfl
  clear hh0
  have sz1 := hbw1.size
  have HW1 := Lib.hid hbw1
  go_wp2_with fail
  go_ret
  exact ⟨rfl, by first | exact HW1.out | (go_grown; done)⟩
end Go.Proofs.YtpkkejcndmcbiaaGreatDoor
