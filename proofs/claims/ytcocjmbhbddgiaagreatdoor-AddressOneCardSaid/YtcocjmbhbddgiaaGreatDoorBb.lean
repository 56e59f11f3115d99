/- strings.ToLower at one ASCII byte. -/
import Derived.Test.YtcocjmbhbddgiaaGreatDoorBa
import Derived.Test.YtcocjmbhbddgiaaGreatDoorPl
set_option linter.unusedSimpArgs false
set_option linter.unusedVariables false
namespace Go.Proofs.YtcocjmbhbddgiaaGreatDoor
open Go.RowKit
theorem str_one (s : ByteArray) (c : UInt8) (hs : s.size = 1) (h0 : s[0]'(by omega) = c) : s = bs [c] := by
  apply bs_of
  have hl : s.data.toList.length = 1 := (len_size s).trans hs
  match h : s.data.toList, hl with
  | [d], _ =>
    have : s[0]'(by omega) = d := by
      have e : s.data.toList[0]? = some d := by rw [h]; rfl
      rw [List.getElem?_eq_getElem (by rw [h]; exact Nat.zero_lt_one)] at e
      exact Option.some.inj e
    rw [← h0, this]
set_option maxRecDepth 100000 in
set_option maxHeartbeats 1000000 in
theorem lower_s (s : ByteArray) (c : UInt8) (hs : s.size = 1) (h0 : s[0]'(by omega) = c) (hc : c.toNat < 128) (w : World) :
    Calls Tryz.prog 20 #[.string s] w fun e w' => e = .returned (.string (bs [lowB c])) ∧ Below w.heap.size w w' := by
  have hse := str_one s c hs h0
  by_cases hu : 65 ≤ c.toNat ∧ c.toNat ≤ 90
  · have hlb : lowB c = UInt8.ofNat (c.toNat + 32) := if_pos hu
    obtain ⟨u1, u2⟩ := hu
    have hn : (UInt8.ofNat (c.toNat + 32)).toNat = c.toNat + 32 := by rw [UInt8.toNat_ofNat']; omega
    rw [hlb]
    have HN := Lib.hid hn
    have hbk : (w.alloc (.cells #[.pointer none, .slice none 0 0] 66)).heap[w.heap.size]? = some (.cells #[.pointer none, .slice none 0 0] 66 (0, 0)) := heap_alloc_new w _
    have HG := Lib.hid (grow_any w.heap.size w.heap.size 1 _ (by decide) (by decide) (Nat.le_refl _) hbk (by simp))
    have v1 : (65 : Int) ≤ (c.toNat : Int) := by omega
    have v2 : (c.toNat : Int) ≤ 90 := by omega
    have v3 : (c.toNat : Int) < 128 := by omega
    clear hn hbk hse hlb
    go_enter Tryz.func20, Tryz.ntmps20
    go_wp2_with fail
    refine wp_loop_rounds 2 ?_
    rw [rounds_succ]
    go_wp2_with fail
    rw [rounds_succ]
    go_wp2_with fail
    refine HG.out.mono ?_; rintro e w2 ⟨rfl, hb2, hbw2⟩
    have hz2 : w.heap.size + 1 ≤ w2.heap.size := by have := hbw2.size; simpa using this
    have HB := Lib.hid hb2
    have HW := Lib.hid (((Below.refl w.heap.size w).alloc (Nat.le_refl _) _).trans hbw2)
    clear hb2 hbw2
    go_wp2_with fail
    refine wp_loop_rounds 2 ?_
    rw [rounds_succ]
    go_wp2_with fail
    refine (writeByte_any w.heap.size w.heap.size [] _ w2 (Or.inr HB.out) (by decide) (by omega)).mono ?_
    rintro e w3 ⟨rfl, hb3, hbw3⟩
    have hz3 : w.heap.size + 1 ≤ w3.heap.size := by have := hbw3.size; omega
    have HB3 : Hid (Lib.IsBuilder 66 5 w.heap.size w.heap.size (Lib.byteCells [UInt8.ofNat (c.toNat + 32)]) w3) := Lib.hid (by
      refine Or.inr ?_
      have e : Lib.byteCells [UInt8.ofNat (c.toNat + 32)] = [] ++ [Value.int .u8 ((c.toNat : Int) + 32)] := by
        unfold Lib.byteCells
        rw [List.map_singleton, HN.out]
        simp
      rw [e]; exact hb3)
    have HW3 := Lib.hid (HW.out.trans hbw3)
    clear hb3 hbw3
    go_wp2_with fail
    rw [rounds_succ]
    go_wp2_with fail
    refine (Tryz.Builder_String_any _ _ _ _ HB3.out (by omega)).mono ?_
    rintro e w4 ⟨rfl, hb4⟩
    have hfin := HW3.out.trans hb4
    go_wp2_with fail
    go_ret
    exact ⟨rfl, hfin⟩
  · have hlb : lowB c = c := if_neg hu
    rw [hlb, ← hse]
    have hu2 : ¬ (65 ≤ (c.toNat : Int) ∧ (c.toNat : Int) ≤ 90) := by omega
    clear hse hlb hu
    have hu3 : (c.toNat : Int) < 65 ∨ 90 < (c.toNat : Int) := by omega
    clear hu2
    have hc2 : (c.toNat : Int) < 128 := by omega
    rcases hu3 with hu3 | hu3
    case inr => 
      have hu4 : decide ((c.toNat : Int) ≤ 90) = false := decide_eq_false (by omega)
      go_enter Tryz.func20, Tryz.ntmps20
      go_wp2_with fail
      refine wp_loop_rounds 2 ?_
      rw [rounds_succ]
      go_wp2_with fail
      all_goals
        rw [rounds_succ]
        go_wp2_with fail
        go_ret
        exact ⟨rfl, Below.refl _ _⟩
    all_goals
      go_enter Tryz.func20, Tryz.ntmps20
      go_wp2_with fail
      refine wp_loop_rounds 2 ?_
      rw [rounds_succ]
      go_wp2_with fail
      rw [rounds_succ]
      go_wp2_with fail
      go_ret
      exact ⟨rfl, Below.refl _ _⟩
end Go.Proofs.YtcocjmbhbddgiaaGreatDoor
