/- strings.ToUpper at an escape (three ASCII bytes). -/
import Derived.Test.YtcocjmbhbddgiaaGreatDoorBb
set_option linter.unusedSimpArgs false
set_option linter.unusedVariables false
namespace Go.Proofs.YtcocjmbhbddgiaaGreatDoor
open Go.RowKit
/-- A builder in block b that holds these bytes. -/
def Bld (B b : Nat) (l : List UInt8) (w : World) : Prop := Lib.IsBuilder 66 5 B b (Lib.byteCells l) w
theorem wstr (B b : Nat) (l : List UInt8) (x : ByteArray) (w : World) (h : Bld B b l w) (hlen : l.length + x.size ≤ 100000000) (hBw : B ≤ w.heap.size) :
    Calls Tryz.prog 41 #[.pointer (some ⟨b, 0, none⟩), .string x] w fun e w' => e = .returned (.tuple #[.int .i64 x.size, .nilIface]) ∧ Bld B b (l ++ x.data.toList) w' ∧ Below B w w' ∧ Lib.OthersKept 5 (some b) w w' :=
  (write_any B b _ x w h (by rw [Lib.byteCells_length]; omega) hBw).mono fun e w' ⟨he, h1, h2, h3⟩ => ⟨he, by
    unfold Bld
    have e : Lib.byteCells (l ++ x.data.toList) = Lib.byteCells l ++ Lib.strCells x := by
      unfold Lib.byteCells Lib.strCells
      rw [List.map_append]
    rw [e]
    exact Or.inr h1, h2, h3⟩
theorem wbyte (B b : Nat) (l : List UInt8) (c : UInt8) (n : Int) (hn : n = (c.toNat : Int)) (w : World) (h : Bld B b l w) (hlen : l.length + 1 ≤ 100000000) (hBw : B ≤ w.heap.size) :
    Calls Tryz.prog 45 #[.pointer (some ⟨b, 0, none⟩), .int .u8 n] w fun e w' => e = .returned .nilIface ∧ Bld B b (l ++ [c]) w' ∧ Below B w w' := by
  subst hn
  refine (writeByte_any B b _ _ w h (by rw [Lib.byteCells_length]; omega) hBw).mono ?_
  rintro e w' ⟨rfl, h1, h2⟩
  refine ⟨rfl, ?_, h2⟩
  unfold Bld
  have e : Lib.byteCells (l ++ [c]) = Lib.byteCells l ++ [Value.int .u8 c.toNat] := by
    unfold Lib.byteCells
    rw [List.map_append]; rfl
  rw [e]
  exact Or.inr h1
theorem wdone (B b : Nat) (l : List UInt8) (w : World) (h : Bld B b l w) (hBw : B ≤ w.heap.size) :
    Calls Tryz.prog 43 #[.pointer (some ⟨b, 0, none⟩)] w fun e w' => e = .returned (.string (bs l)) ∧ Below B w w' :=
  Tryz.Builder_String_any B b l w h hBw
theorem upB_low (c : UInt8) (h1 : 97 ≤ (c.toNat : Int)) (h2 : (c.toNat : Int) ≤ 122) : (c.toNat : Int) - 32 = ((upB c).toNat : Int) := by
  unfold upB
  rw [if_pos (by omega), UInt8.toNat_ofNat']; omega
theorem upB_not (c : UInt8) (h : (c.toNat : Int) < 97) : upB c = c := by
  unfold upB
  rw [if_neg (by omega)]
theorem low_range (c : UInt8) (h : isHex c = true) : (c.toNat : Int) < 97 ∨ (97 ≤ (c.toNat : Int) ∧ (c.toNat : Int) ≤ 102) := by
  rcases hexI_hex c with ⟨_, h1, _⟩ | ⟨h1, _⟩
  · unfold hexI at h1
    by_cases q : (c.toNat : Int) < 97
    · left; exact q
    · right
      rw [if_neg (by omega), if_neg (by omega)] at h1
      by_cases q2 : (c.toNat : Int) ≤ 102
      · exact ⟨by omega, q2⟩
      · rw [if_neg (by omega)] at h1; omega
  · rw [h] at h1; cases h1
theorem str_three (s : ByteArray) (c a b : UInt8) (hs : s.size = 3) (h0 : s[0]'(by omega) = c) (h1 : s[1]'(by omega) = a) (h2 : s[2]'(by omega) = b) : s = bs [c, a, b] := by
  apply bs_of
  have hl : s.data.toList.length = 3 := (len_size s).trans hs
  apply List.ext_getElem? 
  intro i
  match i with
  | 0 => rw [List.getElem?_eq_getElem (by omega)]; exact congrArg some h0
  | 1 => rw [List.getElem?_eq_getElem (by omega)]; exact congrArg some h1
  | 2 => rw [List.getElem?_eq_getElem (by omega)]; exact congrArg some h2
  | n + 3 => rw [List.getElem?_eq_none (by omega)]; rfl
theorem sub_three (c a b : UInt8) : ((bs [c, a, b]).extract 0 1).data.toList = [c] ∧ ((bs [c, a, b]).extract 0 2).data.toList = [c, a] ∧ ((bs [c, a, b]).extract 2 3).data.toList = [b] := by
  refine ⟨?_, ?_, ?_⟩ <;> (rw [ByteArray.data_extract, Array.toList_extract, List.extract_eq_take_drop, bs_list]; rfl)
set_option maxRecDepth 100000 in
set_option maxHeartbeats 2000000 in
theorem upper_s (s : ByteArray) (a b : UInt8) (hs : s.size = 3) (h0 : s[0]'(by omega) = 37) (h1 : s[1]'(by omega) = a) (h2 : s[2]'(by omega) = b) (ha : isHex a = true) (hb : isHex b = true) (w : World) :
    Calls Tryz.prog 42 #[.string s] w fun e w' => e = .returned (.string (bs [37, upB a, upB b])) ∧ Below w.heap.size w w' := by
  have hse := str_three s 37 a b hs h0 h1 h2
  obtain ⟨x1, x2, x3⟩ := sub_three 37 a b
  rw [← hse] at x1 x2 x3
  have ga : ((a.toNat : Int) < 97 ∧ (a.toNat : Int) < 128) ∨ (97 ≤ (a.toNat : Int) ∧ (a.toNat : Int) ≤ 102) := by
    have := low_range a ha; omega
  have gb : ((b.toNat : Int) < 97 ∧ (b.toNat : Int) < 128) ∨ (97 ≤ (b.toNat : Int) ∧ (b.toNat : Int) ≤ 102) := by
    have := low_range b hb; omega
  have X1 := Lib.hid x1
  have X2 := Lib.hid x2
  have X3 := Lib.hid x3
  have q0 : ((37 : UInt8).toNat : Int) = 37 := rfl
  have hbk : (w.alloc (.cells #[.pointer none, .slice none 0 0] 66)).heap[w.heap.size]? = some (.cells #[.pointer none, .slice none 0 0] 66 (0, 0)) := heap_alloc_new w _
  have HG := Lib.hid (grow_any w.heap.size w.heap.size 3 _ (by decide) (by decide) (Nat.le_refl _) hbk (by simp))
  have HA := Lib.hid (upB_low a)
  have HB := Lib.hid (upB_low b)
  have NA := Lib.hid (upB_not a)
  have NB := Lib.hid (upB_not b)
  have HS := Lib.hid hse
  clear x1 x2 x3 hbk hse ha hb
  generalize upB a = ua at *
  generalize upB b = ub at *
  rcases ga with ⟨g1, g2⟩ | ⟨g1, g2⟩ <;> rcases gb with ⟨k1, k2⟩ | ⟨k1, k2⟩
  · have ea := NA.out (by omega)
    have eb := NB.out (by omega)
    subst ea eb
    go_enter Tryz.func42, Tryz.ntmps42
    go_wp2_with fail
    refine wp_loop_rounds 4 ?_
    rw [rounds_succ]
    go_wp2_with fail
    rw [rounds_succ]
    go_wp2_with fail
    rw [rounds_succ]
    go_wp2_with fail
    rw [rounds_succ]
    go_wp2_with fail
    go_ret
    exact ⟨congrArg (fun z => Ending.returned (Value.string z)) HS.out, Below.refl _ _⟩
  · have k3 : (b.toNat : Int) ≤ 122 := by omega
    have ea := NA.out (by omega)
    subst ea
    go_enter Tryz.func42, Tryz.ntmps42
    go_wp2_with fail
    refine wp_loop_rounds 4 ?_
    rw [rounds_succ]
    go_wp2_with fail
    rw [rounds_succ]
    go_wp2_with fail
    rw [rounds_succ]
    go_wp2_with fail
    rw [rounds_succ]
    go_wp2_with fail
    refine HG.out.mono ?_; rintro e w2 ⟨rfl, hb2, hbw2⟩
    have hz2 : w.heap.size + 1 ≤ w2.heap.size := by have := hbw2.size; simpa using this
    have B2 : Hid (Bld w.heap.size w.heap.size [] w2) := Lib.hid (Or.inr hb2)
    have W2 := Lib.hid (((Below.refl w.heap.size w).alloc (Nat.le_refl _) _).trans hbw2)
    clear hb2 hbw2
    go_wp2_with fail
    refine wp_loop_rounds 4 ?_
    rw [rounds_succ]
    go_wp2_with fail
    rw [rounds_succ]
    go_wp2_with fail
    rw [rounds_succ]
    go_wp2_with fail
    refine (wstr w.heap.size w.heap.size _ _ w2 B2.out (by rw [ByteArray.size_extract, hs]; simp) (by omega)).mono ?_
    rintro e w3 ⟨rfl, hb3, hbw3, ho3⟩
    clear ho3
    rw [X2.out] at hb3
    have hz3 : w.heap.size + 1 ≤ w3.heap.size := by have := hbw3.size; omega
    have B3 := Lib.hid hb3
    have W3 := Lib.hid (W2.out.trans hbw3)
    clear hb3 hbw3
    go_wp2_with fail
    refine (wbyte w.heap.size w.heap.size _ ub _ (HB.out (by omega) (by omega)) w3 B3.out (by simp) (by omega)).mono ?_
    rintro e w4 ⟨rfl, hb4, hbw4⟩
    have hz4 : w.heap.size + 1 ≤ w4.heap.size := by have := hbw4.size; omega
    have B4 := Lib.hid hb4
    have W4 := Lib.hid (W3.out.trans hbw4)
    clear hb4 hbw4
    go_wp2_with fail
    rw [rounds_succ]
    go_wp2_with fail
    refine (wdone _ _ _ _ B4.out (by omega)).mono ?_
    rintro e w9 ⟨rfl, hb9⟩
    have hfin := W4.out.trans hb9
    go_wp2_with fail
    go_ret
    exact ⟨rfl, hfin⟩
  · have g3 : (a.toNat : Int) ≤ 122 := by omega
    have eb := NB.out (by omega)
    subst eb
    go_enter Tryz.func42, Tryz.ntmps42
    go_wp2_with fail
    refine wp_loop_rounds 4 ?_
    rw [rounds_succ]
    go_wp2_with fail
    rw [rounds_succ]
    go_wp2_with fail
    rw [rounds_succ]
    go_wp2_with fail
    rw [rounds_succ]
    go_wp2_with fail
    refine HG.out.mono ?_; rintro e w2 ⟨rfl, hb2, hbw2⟩
    have hz2 : w.heap.size + 1 ≤ w2.heap.size := by have := hbw2.size; simpa using this
    have B2 : Hid (Bld w.heap.size w.heap.size [] w2) := Lib.hid (Or.inr hb2)
    have W2 := Lib.hid (((Below.refl w.heap.size w).alloc (Nat.le_refl _) _).trans hbw2)
    clear hb2 hbw2
    go_wp2_with fail
    refine wp_loop_rounds 4 ?_
    rw [rounds_succ]
    go_wp2_with fail
    rw [rounds_succ]
    go_wp2_with fail
    refine (wstr w.heap.size w.heap.size _ _ w2 B2.out (by rw [ByteArray.size_extract, hs]; simp) (by omega)).mono ?_
    rintro e w3 ⟨rfl, hb3, hbw3, ho3⟩
    clear ho3
    rw [X1.out] at hb3
    have hz3 : w.heap.size + 1 ≤ w3.heap.size := by have := hbw3.size; omega
    have B3 := Lib.hid hb3
    have W3 := Lib.hid (W2.out.trans hbw3)
    clear hb3 hbw3
    go_wp2_with fail
    refine (wbyte w.heap.size w.heap.size _ ua _ (HA.out (by omega) (by omega)) w3 B3.out (by simp) (by omega)).mono ?_
    rintro e w4 ⟨rfl, hb4, hbw4⟩
    have hz4 : w.heap.size + 1 ≤ w4.heap.size := by have := hbw4.size; omega
    have B4 := Lib.hid hb4
    have W4 := Lib.hid (W3.out.trans hbw4)
    clear hb4 hbw4
    go_wp2_with fail
    rw [rounds_succ]
    go_wp2_with fail
    rw [rounds_succ]
    go_wp2_with fail
    refine (wstr w.heap.size w.heap.size _ _ w4 B4.out (by rw [ByteArray.size_extract, hs]; simp) (by omega)).mono ?_
    rintro e w5 ⟨rfl, hb5, hbw5, ho5⟩
    clear ho5
    rw [X3.out] at hb5
    have hz5 : w.heap.size + 1 ≤ w5.heap.size := by have := hbw5.size; omega
    have B5 := Lib.hid hb5
    have W5 := Lib.hid (W4.out.trans hbw5)
    clear hb5 hbw5
    go_wp2_with fail
    refine (wdone _ _ _ _ B5.out (by omega)).mono ?_
    rintro e w9 ⟨rfl, hb9⟩
    have hfin := W5.out.trans hb9
    go_wp2_with fail
    go_ret
    exact ⟨rfl, hfin⟩
  · have k3 : (b.toNat : Int) ≤ 122 := by omega
    have g3 : (a.toNat : Int) ≤ 122 := by omega
    go_enter Tryz.func42, Tryz.ntmps42
    go_wp2_with fail
    refine wp_loop_rounds 4 ?_
    rw [rounds_succ]
    go_wp2_with fail
    rw [rounds_succ]
    go_wp2_with fail
    rw [rounds_succ]
    go_wp2_with fail
    rw [rounds_succ]
    go_wp2_with fail
    refine HG.out.mono ?_; rintro e w2 ⟨rfl, hb2, hbw2⟩
    have hz2 : w.heap.size + 1 ≤ w2.heap.size := by have := hbw2.size; simpa using this
    have B2 : Hid (Bld w.heap.size w.heap.size [] w2) := Lib.hid (Or.inr hb2)
    have W2 := Lib.hid (((Below.refl w.heap.size w).alloc (Nat.le_refl _) _).trans hbw2)
    clear hb2 hbw2
    go_wp2_with fail
    refine wp_loop_rounds 4 ?_
    rw [rounds_succ]
    go_wp2_with fail
    rw [rounds_succ]
    go_wp2_with fail
    refine (wstr w.heap.size w.heap.size _ _ w2 B2.out (by rw [ByteArray.size_extract, hs]; simp) (by omega)).mono ?_
    rintro e w3 ⟨rfl, hb3, hbw3, ho3⟩
    clear ho3
    rw [X1.out] at hb3
    have hz3 : w.heap.size + 1 ≤ w3.heap.size := by have := hbw3.size; omega
    have B3 := Lib.hid hb3
    have W3 := Lib.hid (W2.out.trans hbw3)
    clear hb3 hbw3
    go_wp2_with fail
    refine (wbyte w.heap.size w.heap.size _ ua _ (HA.out (by omega) (by omega)) w3 B3.out (by simp) (by omega)).mono ?_
    rintro e w4 ⟨rfl, hb4, hbw4⟩
    have hz4 : w.heap.size + 1 ≤ w4.heap.size := by have := hbw4.size; omega
    have B4 := Lib.hid hb4
    have W4 := Lib.hid (W3.out.trans hbw4)
    clear hb4 hbw4
    go_wp2_with fail
    rw [rounds_succ]
    go_wp2_with fail
    refine (wbyte w.heap.size w.heap.size _ ub _ (HB.out (by omega) (by omega)) w4 B4.out (by simp) (by omega)).mono ?_
    rintro e w5 ⟨rfl, hb5, hbw5⟩
    have hz5 : w.heap.size + 1 ≤ w5.heap.size := by have := hbw5.size; omega
    have B5 := Lib.hid hb5
    have W5 := Lib.hid (W4.out.trans hbw5)
    clear hb5 hbw5
    go_wp2_with fail
    rw [rounds_succ]
    go_wp2_with fail
    refine (wdone _ _ _ _ B5.out (by omega)).mono ?_
    rintro e w9 ⟨rfl, hb9⟩
    have hfin := W5.out.trans hb9
    go_wp2_with fail
    go_ret
    exact ⟨rfl, hfin⟩
end Go.Proofs.YtcocjmbhbddgiaaGreatDoor
