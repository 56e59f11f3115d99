/- The walk through the law's own function turned (provostlaw15). -/
import Derived.Test.YtcocjmbhbddgiaaGreatDoorBq
import Derived.Test.YtcocjmbhbddgiaaGreatDoorSb
import Derived.Deep.LoopGhost
set_option linter.unusedSimpArgs false
set_option linter.unusedVariables false
namespace Go.Proofs.YtcocjmbhbddgiaaGreatDoor
open Go.RowKit
def tat (s : ByteArray) (j i : Nat) (h : i < s.size) : UInt8 := if i < j then turnB s[i] else s[i]
def Cells (s : ByteArray) (B j : Nat) (W : World) : Prop := (∀ i (h : i < s.size), W.cell? ⟨B, i, none⟩ = some (.int .u8 ((tat s j i h).toNat : Int))) ∧ (∀ i, i < s.size → W.frozen? ⟨B, i, none⟩ = false)
theorem turn_cases (c : UInt8) : (97 ≤ (c.toNat : Int) ∧ (c.toNat : Int) ≤ 122 ∧ ((turnB c).toNat : Int) = (c.toNat : Int) - 32) ∨ (65 ≤ (c.toNat : Int) ∧ (c.toNat : Int) ≤ 90 ∧ ((turnB c).toNat : Int) = (c.toNat : Int) + 32) ∨ (((c.toNat : Int) < 65 ∨ (90 < (c.toNat : Int) ∧ (c.toNat : Int) < 97) ∨ 122 < (c.toNat : Int)) ∧ turnB c = c) := by
  have := c.toNat_lt
  unfold turnB
  by_cases h : 97 ≤ c.toNat ∧ c.toNat ≤ 122
  · left
    rw [if_pos h, UInt8.toNat_ofNat']; omega
  · rw [if_neg h]
    by_cases h2 : 65 ≤ c.toNat ∧ c.toNat ≤ 90
    · right; left
      rw [if_pos h2, UInt8.toNat_ofNat']; omega
    · right; right
      rw [if_neg h2]
      exact ⟨by omega, rfl⟩
theorem Cells.next {s : ByteArray} {B j : Nat} {W : World} (h : Cells s B j W) (hj : j < s.size) (v : Int) (hv : v = ((turnB s[j]).toNat : Int)) : Cells s B (j + 1) (W.setCell ⟨B, j, none⟩ (.int .u8 v)) := by
  constructor
  · intro i hi
    by_cases e : i = j
    · subst e
      rw [World.cell?_setCell_same W ⟨B, i, none⟩ _ (h.1 i hi), hv]
      unfold tat
      rw [if_pos (by omega)]
    · rw [World.cell?_setCell_other W ⟨B, j, none⟩ ⟨B, i, none⟩ _ (by intro q; injection q with q1 q2; exact e q2.symm), h.1 i hi]
      unfold tat
      by_cases q : i < j
      · rw [if_pos q, if_pos (by omega)]
      · rw [if_neg q, if_neg (by omega)]
  · intro i hi
    rw [World.frozen?_setCell]
    exact h.2 i hi
theorem Cells.skip {s : ByteArray} {B j : Nat} {W : World} (h : Cells s B j W) (hj : j < s.size) (hv : turnB s[j] = s[j]) : Cells s B (j + 1) W := by
  refine ⟨fun i hi => ?_, h.2⟩
  rw [h.1 i hi]
  unfold tat
  by_cases e : i = j
  · subst e
    rw [if_neg (by omega), if_pos (by omega), hv]
  · by_cases q : i < j
    · rw [if_pos q, if_pos (by omega)]
    · rw [if_neg q, if_neg (by omega)]
theorem Cells.now {s : ByteArray} {B j : Nat} {W : World} (h : Cells s B j W) (hj : j < s.size) : W.cell? ⟨B, j, none⟩ = some (.int .u8 (s[j].toNat : Int)) ∧ W.frozen? ⟨B, j, none⟩ = false := by
  refine ⟨?_, h.2 j hj⟩
  rw [h.1 j hj]
  unfold tat
  rw [if_neg (by omega)]
theorem Cells.text {s : ByteArray} {B j : Nat} {W : World} (h : Cells s B j W) (hj : s.size ≤ j) (cap : Nat) : (convert 48 9 (.slice (some ⟨B, 0, none⟩) s.size cap)).run Tryz.prog W = .ok (.string ⟨(s.data.toList.map turnB).toArray⟩) W := by
  have hl : (s.data.toList.map turnB).length = s.size := by rw [List.length_map, Array.length_toList]; rfl
  have := Go.run_convert_bytes_back W 48 9 5 ⟨B, 0, none⟩ cap (s.data.toList.map turnB) Tryz.underlying48 Tryz.underlying5 Tryz.underlying9 (by
    intro i hi
    have hi2 : i < s.size := by rw [← hl]; exact hi
    have ha : (⟨B, 0, none⟩ : Addr).add i = ⟨B, i, none⟩ := by
      unfold Addr.add
      split
      · rename_i h0; rw [h0]
      · simp
    rw [ha, h.1 i hi2]
    unfold tat
    rw [if_pos (by omega), List.getElem_map, Array.getElem_toList]; rfl)
  rw [hl] at this
  exact this
set_option maxRecDepth 100000 in
set_option maxHeartbeats 4000000 in
theorem turned_any (s : ByteArray) (hs : s.size ≤ 100000) (w : World) :
    Calls Tryz.prog 10 #[.string s] w fun e w' => e = .returned (.string ⟨(s.data.toList.map turnB).toArray⟩) ∧ Below w.heap.size w w' := by
  have kc := run_bytes_of_string (P := Tryz.prog) w 9 48 5 s Tryz.underlying9 Tryz.underlying48 Tryz.underlying5
  have hcap : s.size ≤ (bytesRow s (grownCap w s.size 0 5)).size := by unfold bytesRow; rw [Array.size_append, Array.size_map]; show s.data.size ≤ _; omega
  have HCAP := Lib.hid hcap
  clear hcap
  go_enter Tryz.func10, Tryz.ntmps10
  go_wp2_with fail
  clear kc
  go_loopg [4] s.size (fun k v wr => ∃ (j : Nat), v = .int .i64 j ∧ k + j = s.size ∧ Hid (Cells s w.heap.size j wr) ∧ Below w.heap.size w wr ∧ w.heap.size < wr.heap.size)
  case atStart =>
    refine ⟨0, rfl, by omega, Lib.hid ⟨?_, ?_⟩, ?_, by simp⟩
    · intro j hj
      change (w.alloc _).cell? _ = _
      rw [World.cell?_alloc_mark]
      unfold tat
      rw [if_neg (by omega)]
      exact bytesRow_at s _ j hj
    · intro j hj
      change (w.alloc _).frozen? _ = _
      rw [World.frozen?_alloc_mark]
      have := HCAP.out
      rw [decide_eq_false (by omega)]; rfl
    · go_grown
  case round =>
    rename World => wo
    obtain ⟨j, rfl, hk, HC, hbw, hsz⟩ := hrel
    by_cases hlt : j < s.size
    · obtain ⟨c1, f1⟩ := HC.out.now hlt
      have hc := turn_cases s[j]
      obtain ⟨g, rfl⟩ : ∃ g, gk = g + 1 := ⟨gk - 1, by omega⟩
      have hc8 : s[j].toNat < 256 := UInt8.toNat_lt _
      rcases hc with ⟨q1, q2, q3⟩ | ⟨q1, q2, q3⟩ | ⟨q1, q3⟩
      · have H2 := Lib.hid (HC.out.next hlt _ q3.symm)
        clear HC q3
        generalize s[j].toNat = n at *
        go_wp2_with fail
        go_roundg g
        case measure => omega
        case rel => exact ⟨j + 1, by go_num, by omega, H2, by go_grown, by simpa using hsz⟩
      · have H2 := Lib.hid (HC.out.next hlt _ q3.symm)
        clear HC q3
        generalize s[j].toNat = n at *
        have q4 : ¬ (97 : Int) ≤ n := by omega
        go_wp2_with fail
        go_roundg g
        case measure => omega
        case rel => exact ⟨j + 1, by go_num, by omega, H2, by go_grown, by simpa using hsz⟩
      · have H2 := Lib.hid (HC.out.skip hlt q3)
        clear HC q3
        generalize s[j].toNat = n at *
        rcases q1 with q1 | ⟨q1, q2⟩ | q1
        · have p1 : ¬ (97 : Int) ≤ n := by omega
          have p2 : ¬ (65 : Int) ≤ n := by omega
          go_wp2_with fail
          go_roundg g
          case measure => omega
          case rel => exact ⟨j + 1, by go_num, by omega, H2, hbw, hsz⟩
        · have p1 : ¬ (97 : Int) ≤ n := by omega
          have p2 : ¬ (n : Int) ≤ 90 := by omega
          have p3 : (65 : Int) ≤ n := by omega
          go_wp2_with fail
          go_roundg g
          case measure => omega
          case rel => exact ⟨j + 1, by go_num, by omega, H2, hbw, hsz⟩
        · have p1 : ¬ (n : Int) ≤ 122 := by omega
          have p2 : ¬ (n : Int) ≤ 90 := by omega
          have p3 : (65 : Int) ≤ n := by omega
          have p4 : (97 : Int) ≤ n := by omega
          go_wp2_with fail
          go_roundg g
          case measure => omega
          case rel => exact ⟨j + 1, by go_num, by omega, H2, hbw, hsz⟩
    · have HT := HC.out.text (by omega) (grownCap w s.size 0 5)
      clear HC
      go_wp2_with fail
      go_ret
      exact ⟨rfl, hbw⟩
end Go.Proofs.YtcocjmbhbddgiaaGreatDoor
