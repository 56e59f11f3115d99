/- The walk through the reference's sum of two rows of digits (provostref14.both). -/
import Derived.Test.YtgljbhbpjobnbaaDoorNf
set_option linter.unusedSimpArgs false
set_option linter.unusedVariables false
namespace Go.Proofs.YtgljbhbpjobnbaaDoor
open Go.RowKit
theorem sofar_none (U : Nat) : rowF (sofar U 0) = rowF (fun _ => 0) := rowF_congr fun i _ => by unfold sofar; rw [if_neg (by omega)]
theorem sofar_all (U : Nat) : rowF (sofar U 40) = rowV U := rowF_congr fun i h => by unfold sofar; rw [if_pos h]
set_option maxRecDepth 100000 in
set_option maxHeartbeats 4000000 in
theorem rboth_plus (u v : Nat) (w : World) :
    Calls Tryd.prog 25 #[.agg (rowV u), .agg (rowV v), .bool false] w fun e w' => e = .returned (.agg (rowV (u + v))) ∧ Below w.heap.size w w' := by
  obtain ⟨X, hX⟩ : ∃ X, rowV u = X := ⟨_, rfl⟩
  obtain ⟨Y, hY⟩ : ∃ Y, rowV v = Y := ⟨_, rfl⟩
  have HX := Lib.hid hX
  have HY := Lib.hid hY
  rw [hX, hY]
  clear hX hY
  go_enter Tryd.func25, Tryd.ntmps25
  go_wp2_with fail
  go_loopw [8, 9] (fun c n wr => ∃ i : Nat, i ≤ 40 ∧ n = .int .i64 (i : Int) ∧ c = .int .i64 (cry u v (i) : Int) ∧ Hid (wr.heap[w.heap.size]? = some (.cells X 51 (0, 0)) ∧ wr.heap[w.heap.size + 1]? = some (.cells Y 51 (0, 0)) ∧ wr.heap[w.heap.size + 1 + 1]? = some (.cells (rowF (fun _ => 0)) 51 (0, 0)) ∧ wr.heap[w.heap.size + 1 + 1 + 1]? = some (.cells (rowF (sofar (u + v) i)) 51 (0, 0))) ∧ Below w.heap.size w wr) (fun c n wr => (40 - intOf n).toNat)
  case atStart =>
    refine ⟨0, by omega, rfl, by rw [cry_zero]; rfl, Lib.hid ⟨?_, ?_, ?_, ?_⟩, by go_grown⟩
    · exact hold (hold (hold (hnew _ _ _ rfl)))
    · exact hold (hold (hnew _ _ _ (by simp)))
    · rw [← rowF_zero]; exact hold (hnew _ _ _ (by simp))
    · rw [sofar_none, ← rowF_zero]; exact hnew _ _ _ (by simp)
  case round =>
    obtain ⟨i, hi40, rfl, rfl, HH, hbw⟩ := hrel
    have HB := Lib.hid hbw
    clear hbw
    by_cases hi0 : i = 40
    · subst hi0
      have HE : Hid (wr.heap[w.heap.size + 1 + 1 + 1]? = some (.cells (rowV (u + v)) 51 (0, 0))) := Lib.hid (by rw [HH.out.2.2.2, sofar_all])
      go_wp2_with (first | (refine wpList_load_row rfl 51 _ rfl (w.heap.size + 1 + 1 + 1) rfl 51 (rowV (u + v)) (0, 0) _ HE.out Tryd.underlying51 rfl (info40V _) ?_) | (refine wpList_store_row rfl 51 _ _ rfl (w.heap.size + 1 + 1) (rowV (u + v)) rfl rfl 51 (rowF (fun _ => 0)) HH.out.2.2.1 (info40V _) (by rw [rowF_size, rowV_size]) (rowV_one _) ?_))
      refine bodyPost_ret (results_cell_row Tryd.results25 _ _ (w.heap.size + 1 + 1) 51 (rowV (u + v)) (0, 0) _ rfl (setRow_heap _ _ _ _ _ _ HH.out.2.2.1) Tryd.underlying51 rfl (info40V _)) rfl ?_
      exact ⟨rfl, below_setRow HB.out (by omega) _⟩
    · have hi : i < 40 := by omega
      have hii : (i : Int) < 40 := by omega
      obtain ⟨x, hx⟩ : ∃ x, dgt u i = x := ⟨_, rfl⟩
      obtain ⟨y, hy⟩ : ∃ y, dgt v i = y := ⟨_, rfl⟩
      obtain ⟨c, hc⟩ : ∃ c, cry u v i = c := ⟨_, rfl⟩
      obtain ⟨d, hd⟩ : ∃ d, dgt (u + v) i = d := ⟨_, rfl⟩
      obtain ⟨k, hk⟩ : ∃ k, cry u v (i + 1) = k := ⟨_, rfl⟩
      have c0 : wr.cell? ⟨w.heap.size, i, none⟩ = some (.int .i64 (x : Int)) := by
        rw [cell_of_row _ _ _ _ _ _ HH.out.1, ← HX.out, rowV_get _ _ hi, hx]
      have c1 : wr.cell? ⟨w.heap.size + 1, i, none⟩ = some (.int .i64 (y : Int)) := by
        rw [cell_of_row _ _ _ _ _ _ HH.out.2.1, ← HY.out, rowV_get _ _ hi, hy]
      have c3 : wr.cell? ⟨w.heap.size + 1 + 1 + 1, i, none⟩ = some (.int .i64 0) := by
        rw [cell_of_row _ _ _ _ _ _ HH.out.2.2.2, rowF_get _ _ hi]; unfold sofar; rw [if_neg (by omega)]
      have f3 := frozen_row HH.out.2.2.2 i
      have hx9 : x ≤ 9 := by have := dgt_lt (u) i; omega
      have hy9 : y ≤ 9 := by have := dgt_lt v i; omega
      have hd9 : d ≤ 9 := by have := dgt_lt (u + v) i; omega
      have hc1 : c ≤ 1 := by have := cry_le u v i; omega
      have hk1 : k ≤ 1 := by have := cry_le u v (i + 1); omega
      have hs : x + y + c = 10 * k + d := by
        have h1 := dgt_sum u v i
        have h2 := cry_succ u v i
        omega
      have v1 : IntKind.i64.wrap ((x : Int) + (y : Int)) = (x : Int) + (y : Int) := IntWalk.i64_in _ (by omega)
      obtain ⟨s, hss⟩ : ∃ s : Nat, x + y + c = s := ⟨_, rfl⟩
      have v2 : IntKind.i64.wrap ((x : Int) + (y : Int) + (c : Int)) = (s : Int) := by rw [IntWalk.i64_in _ (by omega)]; omega
      have HD := Lib.hid hd
      have HC2 := Lib.hid hk
      have hs19 : s ≤ 19 := by omega
      rw [hc]
      rcases (show k = 0 ∨ k = 1 by omega) with rfl | rfl
      · obtain rfl : s = d := by omega
        have hgt : decide (9 < (s : Int)) = false := decide_eq_false (by omega)
        have hge : ¬ (9 < (s : Int)) := by omega
        have hlt : decide ((s : Int) < 0) = false := decide_eq_false (by omega)
        clear hx hy hc hd hk hs hss hi0
        go_wp2_with fail
        go_quiet (fail)
        go_wp2_with fail
        skip
        skip
        go_roundw
        case rel =>
          refine ⟨i + 1, by omega, by go_num, ?_, Lib.hid ⟨?_, ?_, ?_, ?_⟩, ?_⟩
          · rw [HC2.out]; rfl
          · exact (Below.heap_setCell _ _ _ _ (by first | (simp; done) | (simp; omega))).trans HH.out.1
          · exact (Below.heap_setCell _ _ _ _ (by first | (simp; done) | (simp; omega))).trans HH.out.2.1
          · exact (Below.heap_setCell _ _ _ _ (by first | (simp; done) | (simp; omega))).trans HH.out.2.2.1
          · refine (row_setCell _ HH.out.2.2.2).trans ?_
            rw [rowF_set _ _ _ hi, ← sofar_step, HD.out]
            try (rfl)
          · first | exact (below_drawN _ (below_drawN _ HB.out)).setCell (by simp; omega) _ | exact (below_drawN _ HB.out).setCell (by simp; omega) _ | go_grown
        case measure => simp [intOf]; omega
      · obtain rfl : s = d + 10 := by omega
        have hgt : (9 : Int) < ((d + 10 : Nat) : Int) := by omega
        have v3 : IntKind.i64.wrap (((d + 10 : Nat) : Int) - 10) = (d : Int) := by rw [IntWalk.i64_in _ (by omega)]; omega
        have hlt : decide ((d : Int) < 0) = false := decide_eq_false (by omega)
        clear hx hy hc hd hk hs hss hi0
        go_wp2_with fail
        go_quiet (fail)
        go_wp2_with fail
        skip
        skip
        go_roundw
        case rel =>
          refine ⟨i + 1, by omega, by go_num, ?_, Lib.hid ⟨?_, ?_, ?_, ?_⟩, ?_⟩
          · rw [HC2.out]; rfl
          · exact (Below.heap_setCell _ _ _ _ (by first | (simp; done) | (simp; omega))).trans HH.out.1
          · exact (Below.heap_setCell _ _ _ _ (by first | (simp; done) | (simp; omega))).trans HH.out.2.1
          · exact (Below.heap_setCell _ _ _ _ (by first | (simp; done) | (simp; omega))).trans HH.out.2.2.1
          · refine (row_setCell _ HH.out.2.2.2).trans ?_
            rw [rowF_set _ _ _ hi, ← sofar_step, HD.out]
            try (first | rfl | (congr 3; funext z; split <;> first | rfl | omega))
          · first | exact (below_drawN _ (below_drawN _ HB.out)).setCell (by simp; omega) _ | exact (below_drawN _ HB.out).setCell (by simp; omega) _ | go_grown
        case measure => simp [intOf]; omega
set_option maxRecDepth 100000 in
set_option maxHeartbeats 4000000 in
theorem rboth_minus (u v : Nat) (w : World) :
    Calls Tryd.prog 25 #[.agg (rowV (u + v)), .agg (rowV v), .bool true] w fun e w' => e = .returned (.agg (rowV (u))) ∧ Below w.heap.size w w' := by
  obtain ⟨X, hX⟩ : ∃ X, rowV (u + v) = X := ⟨_, rfl⟩
  obtain ⟨Y, hY⟩ : ∃ Y, rowV v = Y := ⟨_, rfl⟩
  have HX := Lib.hid hX
  have HY := Lib.hid hY
  rw [hX, hY]
  clear hX hY
  go_enter Tryd.func25, Tryd.ntmps25
  go_wp2_with fail
  go_loopw [8, 9] (fun c n wr => ∃ i : Nat, i ≤ 40 ∧ n = .int .i64 (i : Int) ∧ c = .int .i64 (-(cry u v (i) : Int)) ∧ Hid (wr.heap[w.heap.size]? = some (.cells X 51 (0, 0)) ∧ wr.heap[w.heap.size + 1]? = some (.cells Y 51 (0, 0)) ∧ wr.heap[w.heap.size + 1 + 1]? = some (.cells (rowF (fun _ => 0)) 51 (0, 0)) ∧ wr.heap[w.heap.size + 1 + 1 + 1]? = some (.cells (rowF (sofar (u) i)) 51 (0, 0))) ∧ Below w.heap.size w wr) (fun c n wr => (40 - intOf n).toNat)
  case atStart =>
    refine ⟨0, by omega, rfl, by rw [cry_zero]; rfl, Lib.hid ⟨?_, ?_, ?_, ?_⟩, by go_grown⟩
    · exact hold (hold (hold (hnew _ _ _ rfl)))
    · exact hold (hold (hnew _ _ _ (by simp)))
    · rw [← rowF_zero]; exact hold (hnew _ _ _ (by simp))
    · rw [sofar_none, ← rowF_zero]; exact hnew _ _ _ (by simp)
  case round =>
    obtain ⟨i, hi40, rfl, rfl, HH, hbw⟩ := hrel
    have HB := Lib.hid hbw
    clear hbw
    by_cases hi0 : i = 40
    · subst hi0
      have HE : Hid (wr.heap[w.heap.size + 1 + 1 + 1]? = some (.cells (rowV (u)) 51 (0, 0))) := Lib.hid (by rw [HH.out.2.2.2, sofar_all])
      go_wp2_with (first | (refine wpList_load_row rfl 51 _ rfl (w.heap.size + 1 + 1 + 1) rfl 51 (rowV (u)) (0, 0) _ HE.out Tryd.underlying51 rfl (info40V _) ?_) | (refine wpList_store_row rfl 51 _ _ rfl (w.heap.size + 1 + 1) (rowV (u)) rfl rfl 51 (rowF (fun _ => 0)) HH.out.2.2.1 (info40V _) (by rw [rowF_size, rowV_size]) (rowV_one _) ?_))
      refine bodyPost_ret (results_cell_row Tryd.results25 _ _ (w.heap.size + 1 + 1) 51 (rowV (u)) (0, 0) _ rfl (setRow_heap _ _ _ _ _ _ HH.out.2.2.1) Tryd.underlying51 rfl (info40V _)) rfl ?_
      exact ⟨rfl, below_setRow HB.out (by omega) _⟩
    · have hi : i < 40 := by omega
      have hii : (i : Int) < 40 := by omega
      obtain ⟨x, hx⟩ : ∃ x, dgt (u + v) i = x := ⟨_, rfl⟩
      obtain ⟨y, hy⟩ : ∃ y, dgt v i = y := ⟨_, rfl⟩
      obtain ⟨c, hc⟩ : ∃ c, cry u v i = c := ⟨_, rfl⟩
      obtain ⟨d, hd⟩ : ∃ d, dgt (u) i = d := ⟨_, rfl⟩
      obtain ⟨k, hk⟩ : ∃ k, cry u v (i + 1) = k := ⟨_, rfl⟩
      have c0 : wr.cell? ⟨w.heap.size, i, none⟩ = some (.int .i64 (x : Int)) := by
        rw [cell_of_row _ _ _ _ _ _ HH.out.1, ← HX.out, rowV_get _ _ hi, hx]
      have c1 : wr.cell? ⟨w.heap.size + 1, i, none⟩ = some (.int .i64 (y : Int)) := by
        rw [cell_of_row _ _ _ _ _ _ HH.out.2.1, ← HY.out, rowV_get _ _ hi, hy]
      have c3 : wr.cell? ⟨w.heap.size + 1 + 1 + 1, i, none⟩ = some (.int .i64 0) := by
        rw [cell_of_row _ _ _ _ _ _ HH.out.2.2.2, rowF_get _ _ hi]; unfold sofar; rw [if_neg (by omega)]
      have f3 := frozen_row HH.out.2.2.2 i
      have hx9 : x ≤ 9 := by have := dgt_lt (u + v) i; omega
      have hy9 : y ≤ 9 := by have := dgt_lt v i; omega
      have hd9 : d ≤ 9 := by have := dgt_lt (u) i; omega
      have hc1 : c ≤ 1 := by have := cry_le u v i; omega
      have hk1 : k ≤ 1 := by have := cry_le u v (i + 1); omega
      have hs : (x : Int) - y - c = d - 10 * k := by
        have h1 := dgt_diff u v i
        omega
      have v1 : IntKind.i64.wrap ((x : Int) - (y : Int)) = (x : Int) - (y : Int) := IntWalk.i64_in _ (by omega)
      have v0 : IntKind.i64.wrap ((x : Int) + (y : Int)) = (x : Int) + (y : Int) := IntWalk.i64_in _ (by omega)
      have v00 : IntKind.i64.wrap ((x : Int) + (y : Int) + -(c : Int)) = (x : Int) + (y : Int) + -(c : Int) := IntWalk.i64_in _ (by omega)
      have HD := Lib.hid hd
      have HC2 := Lib.hid hk
      rw [hc]
      rcases (show k = 0 ∨ k = 1 by omega) with rfl | rfl
      · have v2 : IntKind.i64.wrap ((x : Int) - (y : Int) + -(c : Int)) = (d : Int) := by rw [IntWalk.i64_in _ (by omega)]; omega
        have hge : ¬ (9 < (d : Int)) := by omega
        have hlt : decide ((d : Int) < 0) = false := decide_eq_false (by omega)
        clear hx hy hc hd hk hs hi0
        go_wp2_with fail
        go_quiet (fail)
        go_wp2_with fail
        go_quiet (fail)
        go_wp2_with fail
        go_roundw
        case rel =>
          refine ⟨i + 1, by omega, by go_num, ?_, Lib.hid ⟨?_, ?_, ?_, ?_⟩, ?_⟩
          · rw [HC2.out]; rfl
          · exact (Below.heap_setCell _ _ _ _ (by first | (simp; done) | (simp; omega))).trans HH.out.1
          · exact (Below.heap_setCell _ _ _ _ (by first | (simp; done) | (simp; omega))).trans HH.out.2.1
          · exact (Below.heap_setCell _ _ _ _ (by first | (simp; done) | (simp; omega))).trans HH.out.2.2.1
          · refine (row_setCell _ HH.out.2.2.2).trans ?_
            rw [rowF_set _ _ _ hi, ← sofar_step, HD.out]
            try (rfl)
          · first | exact (below_drawN _ (below_drawN _ HB.out)).setCell (by simp; omega) _ | exact (below_drawN _ HB.out).setCell (by simp; omega) _ | go_grown
        case measure => simp [intOf]; omega
      · obtain ⟨e, he⟩ : ∃ e : Nat, 10 - d = e := ⟨_, rfl⟩
        have v2 : IntKind.i64.wrap ((x : Int) - (y : Int) + -(c : Int)) = -(e : Int) := by rw [IntWalk.i64_in _ (by omega)]; omega
        have v3 : IntKind.i64.wrap (-(e : Int) + 10) = (d : Int) := by rw [IntWalk.i64_in _ (by omega)]; omega
        have hge : ¬ (9 < -(e : Int)) := by omega
        have hlt : -(e : Int) < 0 := by omega
        have hep : 0 < (e : Int) := by omega
        clear hx hy hc hd hk hs hi0
        go_wp2_with fail
        go_quiet (fail)
        go_wp2_with fail
        go_quiet (fail)
        go_wp2_with fail
        go_roundw
        case rel =>
          refine ⟨i + 1, by omega, by go_num, ?_, Lib.hid ⟨?_, ?_, ?_, ?_⟩, ?_⟩
          · rw [HC2.out]; rfl
          · exact (Below.heap_setCell _ _ _ _ (by first | (simp; done) | (simp; omega))).trans HH.out.1
          · exact (Below.heap_setCell _ _ _ _ (by first | (simp; done) | (simp; omega))).trans HH.out.2.1
          · exact (Below.heap_setCell _ _ _ _ (by first | (simp; done) | (simp; omega))).trans HH.out.2.2.1
          · refine (row_setCell _ HH.out.2.2.2).trans ?_
            rw [rowF_set _ _ _ hi, ← sofar_step, HD.out]
            try (first | rfl | (congr 3; funext z; split <;> first | rfl | omega))
          · first | exact (below_drawN _ (below_drawN _ HB.out)).setCell (by simp; omega) _ | exact (below_drawN _ HB.out).setCell (by simp; omega) _ | go_grown
        case measure => simp [intOf]; omega
end Go.Proofs.YtgljbhbpjobnbaaDoor
