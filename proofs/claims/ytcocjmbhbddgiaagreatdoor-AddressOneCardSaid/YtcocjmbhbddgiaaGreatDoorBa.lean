/- A strings.Builder's Grow (not yet written) and WriteByte, at this dump. -/
import Derived.Test.YtcocjmbhbddgiaaGreatDoorAy
import Derived.Test.YtcocjmbhbddgiaaGreatDoorShelg
set_option linter.unusedSimpArgs false
set_option linter.unusedVariables false
namespace Go.Proofs.YtcocjmbhbddgiaaGreatDoor
open Go.RowKit
set_option maxRecDepth 100000 in
theorem grow_any (B b n : Nat) (w : World) (hn : 1 ≤ n) (hn2 : n ≤ 1000000) (hB : B ≤ b) (hbk : w.heap[b]? = some (.cells #[.pointer none, .slice none 0 0] 66 (0, 0))) (hBw : B ≤ w.heap.size) :
    Calls Tryz.prog 44 #[.pointer (some ⟨b, 0, none⟩), .int .i64 n] w fun e w' => e = .returned (.tuple #[]) ∧ Lib.BuilderAt 66 5 B b (.pointer (some ⟨b, 0, none⟩)) [] w' ∧ Below B w w' := by
  have hfr : Lib.BuilderAt 66 5 B b (.pointer none) [] w := ⟨hB, .slice none 0 0, hbk, World.ownsRow_nil _ _ _ _, by simp [Value.ownBlock]⟩
  have HC := Lib.hid (fun (w : World) (h : Lib.BuilderAt 66 5 B b (.pointer none) [] w) => copy_fresh b w h.cell0 h.shape h.frozen0)
  have h2 := pset (i := 0) hbk (.pointer (some ⟨b, 0, none⟩)) rfl
  have hz : (w.setCell ⟨b, 0, none⟩ (.pointer (some ⟨b, 0, none⟩))).heap.size = w.heap.size := by simp [World.setCell]
  have c1 : (w.setCell ⟨b, 0, none⟩ (.pointer (some ⟨b, 0, none⟩))).cell? ⟨b, 1, none⟩ = some (.slice none 0 0) := by rw [Lib.cell_of_heap h2]; rfl
  have hn3 : ¬ (n : Int) < 0 := by omega
  have hn4 : (0 : Int) < n := by omega
  obtain ⟨W, hW⟩ : ∃ W, w.setCell ⟨b, 0, none⟩ (.pointer (some ⟨b, 0, none⟩)) = W := ⟨_, rfl⟩
  have hbw : Below B w W := by rw [← hW]; exact (Below.refl _ _).setCell (p := ⟨b, 0, none⟩) hB _
  rw [hW] at h2 hz c1
  have HG := Lib.hid (fun (V : World) h h' => Tryz.Builder_grow_fresh B b n V hB h h' (by omega))
  have H2 := Lib.hid h2
  have HW := Lib.hid hW
  have HF := Lib.hid hfr
  clear h2 hW hfr hbk
  go_enter Tryz.func44, Tryz.ntmps44
  go_wp2_with fail
  refine (HC.out _ HF.out).mono ?_; rintro e w1 ⟨rfl, rfl⟩
  rw [HW.out]
  go_wp2_with fail
  go_quiet (fail)
  go_wp2_with fail
  refine (HG.out _ (by exact H2.out) (by show B ≤ W.heap.size; omega)).mono ?_
  rintro e w3 ⟨rfl, hb3, hbw3⟩
  have hfin : Below B w w3 := hbw.trans ⟨hbw3.os, hbw3.tape, hbw3.output, hbw3.size, hbw3.block⟩
  go_wp2_with fail
  go_end0
  exact ⟨rfl, hb3, hfin⟩
set_option maxHeartbeats 1000000 in
set_option maxRecDepth 100000 in
theorem writeByte_any (B b : Nat) (bs : List Value) (c : Int) (w : World) (h : Lib.IsBuilder 66 5 B b bs w) (hlen : bs.length + 1 ≤ 140737488355328) (hBw : B ≤ w.heap.size) :
    Calls Tryz.prog 45 #[.pointer (some ⟨b, 0, none⟩), .int .u8 c] w fun e w' => e = .returned .nilIface ∧ (Lib.BuilderAt 66 5 B b (.pointer (some ⟨b, 0, none⟩)) (bs ++ [.int .u8 c]) w' ∧ Below B w w') := by
  obtain ⟨i0, hi, hz0, hz1, hz2⟩ := info_parts byte_info
  go_enter Tryz.func45, Tryz.ntmps45
  go_wp2_with fail
  refine (copy_any B b bs _ h).mono ?_
  rintro e w1 ⟨rfl, h1, hb1, ho1⟩
  clear ho1
  obtain ⟨hB, v, hbk, hown, hne⟩ := h1
  have c0 : w1.cell? ⟨b, 0, none⟩ = some (.pointer (some ⟨b, 0, none⟩)) := by rw [Lib.cell_of_heap hbk]; rfl
  have c1 : w1.cell? ⟨b, 1, none⟩ = some v := by rw [Lib.cell_of_heap hbk]; rfl
  have hlt : b < w1.heap.size := (Array.getElem?_eq_some_iff.1 hbk).1
  go_wp2_with (at_builtin; refine wpList_append_own _ rfl _ _ 48 rfl B 5 i0 (.int .u8 0) 1 1 Tryz.underlying48 hi hz0 hz1 hz2 rfl (by decide) _ _ _ rfl (hown.alloc _) ⟨w1.heap.size, 0, none⟩ 1 1 [.int .u8 c] rfl rfl ?c1 ?c2 ?c3 ?c4 ?c5 ?_)
  case c1 =>
    intro j u hj
    match j, hj with
    | 0, hj =>
      have e : u = .int .u8 c := (Option.some.inj hj).symm
      rw [e]
      exact new_cell w1 _ _ 0 _ rfl
    | j + 1, hj => cases hj
  case c2 => intro u hu; rw [List.mem_singleton] at hu; rw [hu]; rfl
  case c3 => unfold maxLen; omega
  case c4 => omega
  case c5 => have := hb1.size; simp; omega
  intro v' w2 hown' hgrow _
  have hb2 : w2.heap[b]? = some (.cells #[.pointer (some ⟨b, 0, none⟩), v] 66 (0, 0)) := by
    rw [hgrow.block b (by simp; omega) (fun e => hne e.symm), Below.heap_alloc _ _ _ hlt]
    exact hbk
  have d0 : w2.cell? ⟨b, 0, none⟩ = some (.pointer (some ⟨b, 0, none⟩)) := by rw [Lib.cell_of_heap hb2]; rfl
  have d1 : w2.cell? ⟨b, 1, none⟩ = some v := by rw [Lib.cell_of_heap hb2]; rfl
  have f1 : w2.frozen? ⟨b, 1, none⟩ = false := Lib.frozen_of_heap hb2 1
  obtain ⟨ao, n', cap, rfl⟩ : ∃ ao n' cap, v' = .slice ao n' cap := by
    rcases hown'.2 with ⟨hv, _⟩ | ⟨g, cap, cur, hv, _⟩
    · exact ⟨_, _, _, hv⟩
    · exact ⟨_, _, _, hv⟩
  go_wp2
  go_ret
  refine ⟨rfl, ?_, ?_⟩
  · exact Lib.BuilderAt.put (T := 66) (e := 5) hB hb2 (bs' := bs ++ [.int .u8 c]) (by simpa using hown') (by decide)
  · exact ((hb1.alloc (by have := hb1.size; omega) _).grown hgrow (by have := hb1.size; simp; omega) (fun k hk => (hown.lt k hk).1)).setCell (p := ⟨b, 1, none⟩) hB _
end Go.Proofs.YtcocjmbhbddgiaaGreatDoor
