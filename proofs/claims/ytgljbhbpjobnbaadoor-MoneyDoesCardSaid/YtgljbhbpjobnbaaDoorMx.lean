/- The reference's rows of digits (provostref14: less, row, both): plain, and the walks. -/
import Derived.Test.YtgljbhbpjobnbaaDoorMj
import Derived.Laws.Rows
import Derived.Laws.Tables
set_option linter.unusedSimpArgs false
set_option linter.unusedVariables false
namespace Go.Proofs.YtgljbhbpjobnbaaDoor
open Go.RowKit
/-- A number's digit at a place. -/
def dgt (u i : Nat) : Nat := u / 10 ^ i % 10
theorem dgt_lt (u i : Nat) : dgt u i < 10 := Nat.mod_lt _ (by decide)
theorem div_succ (u i : Nat) : u / 10 ^ (i + 1) = u / 10 ^ i / 10 := by rw [Nat.pow_succ, Nat.div_div_eq_div_mul]
theorem less_same (u v i : Nat) (h : u / 10 ^ (i + 1) = v / 10 ^ (i + 1)) (h2 : dgt u i = dgt v i) : u / 10 ^ i = v / 10 ^ i := by
  rw [div_succ, div_succ] at h
  unfold dgt at h2
  omega
theorem less_part (u v i : Nat) (h : u / 10 ^ (i + 1) = v / 10 ^ (i + 1)) (h2 : ¬ dgt u i = dgt v i) : decide (dgt u i < dgt v i) = decide (u < v) := by
  rw [div_succ, div_succ] at h
  unfold dgt at *
  rw [decide_eq_decide]
  constructor
  · intro q
    exact Nat.lt_of_div_lt_div (c := 10 ^ i) (by omega)
  · intro q
    rcases Nat.lt_trichotomy (u / 10 ^ i) (v / 10 ^ i) with g | g | g
    · omega
    · omega
    · exact absurd (Nat.lt_of_div_lt_div g) (by omega)
/-- A row of forty digits. -/
def rowV (u : Nat) : Array Value := ((List.range 40).map fun i => Value.int .i64 (dgt u i)).toArray
theorem rowV_get (u i : Nat) (h : i < 40) : (rowV u)[i]? = some (.int .i64 (dgt u i)) := by
  unfold rowV
  rw [List.getElem?_toArray, List.getElem?_map, List.getElem?_range h]; rfl
theorem rowV_size (u : Nat) : (rowV u).size = 40 := by unfold rowV; simp
set_option maxRecDepth 100000 in
set_option maxHeartbeats 1000000 in
theorem rless_any (u v : Nat) (hu : u < 10 ^ 40) (hv : v < 10 ^ 40) (w : World) :
    Calls Tryd.prog 24 #[.agg (rowV u), .agg (rowV v)] w fun e w' => e = .returned (.bool (decide (u < v))) ∧ Below w.heap.size w w' := by
  have H0 : Hid (u / 10 ^ 40 = v / 10 ^ 40) := Lib.hid (by rw [Nat.div_eq_of_lt hu, Nat.div_eq_of_lt hv])
  obtain ⟨X, hX⟩ : ∃ X, rowV u = X := ⟨_, rfl⟩
  obtain ⟨Y, hY⟩ : ∃ Y, rowV v = Y := ⟨_, rfl⟩
  have HX : Hid (∀ i, i < 40 → X[i]? = some (.int .i64 (dgt u i))) := Lib.hid (fun i h => by rw [← hX]; exact rowV_get u i h)
  have HY : Hid (∀ i, i < 40 → Y[i]? = some (.int .i64 (dgt v i))) := Lib.hid (fun i h => by rw [← hY]; exact rowV_get v i h)
  rw [hX, hY]
  clear hX hY hu hv
  go_enter Tryd.func24, Tryd.ntmps24
  go_wp2_with fail
  go_loopw [5] (fun i wr => ∃ k : Nat, k ≤ 40 ∧ i = .int .i64 ((k : Int) - 1) ∧ Hid (u / 10 ^ k = v / 10 ^ k) ∧ Hid (∀ j, j < 40 → wr.cell? ⟨w.heap.size, j, none⟩ = some (.int .i64 (dgt u j)) ∧ wr.cell? ⟨w.heap.size + 1, j, none⟩ = some (.int .i64 (dgt v j))) ∧ Below w.heap.size w wr) (fun i wr => (intOf i + 1).toNat)
  case atStart =>
    refine ⟨40, by omega, rfl, H0, Lib.hid (fun j hj => ⟨?_, ?_⟩), by go_grown⟩
    · simp [go_sem, HX.out j hj]
    · simp [go_sem, HY.out j hj]
  case round =>
    obtain ⟨k, hk, rfl, HE, HC, hbw⟩ := hrel
    by_cases hk0 : k = 0
    · subst hk0
      have huv : u = v := by have := HE.out; simpa using this
      go_wp2_with fail
      go_ret
      exact ⟨ret1 (by rw [huv]; simp), hbw⟩
    · obtain ⟨j, rfl⟩ : ∃ j, k = j + 1 := ⟨k - 1, by omega⟩
      obtain ⟨c0, c1⟩ := HC.out j (by omega)
      rw [show ((j + 1 : Nat) : Int) - 1 = (j : Int) by omega]
      have hj : j < 40 := by omega
      have hji : (j : Int) < 40 := by omega
      by_cases hd : dgt u j = dgt v j
      · have HE2 := Lib.hid (less_same u v j HE.out hd)
        have hdd : ((dgt u j : Int) != dgt v j) = false := by simp [hd]
        clear hd hk0
        go_wp2_with fail
        go_quiet (fail)
        go_wp2_with fail
        go_roundw
        case rel => exact ⟨j, by omega, rfl, HE2, Lib.hid (fun i hi => by simpa using HC.out i hi), below_drawN _ hbw⟩
        case measure => simp [intOf]
      · have HE2 := Lib.hid (less_part u v j HE.out hd)
        have hdd : ((dgt u j : Int) != dgt v j) = true := by simpa using fun q => hd (by exact_mod_cast q)
        clear hd hk0
        go_wp2_with fail
        go_quiet (fail)
        go_wp2_with fail
        go_quiet (fail)
        go_wp2_with fail
        go_ret
        exact ⟨ret1 HE2.out, below_drawN _ (below_drawN _ hbw)⟩
/-! ### row -/
theorem frozen_row {w : World} {b : Nat} {cs : Array Value} {t : TypeId} (h : w.heap[b]? = some (.cells cs t (0, 0))) (o : Nat) : w.frozen? ⟨b, o, none⟩ = false := by simp [World.frozen?, h]
theorem row_setCell {w : World} {b i : Nat} {cs : Array Value} {t : TypeId} {fr : Nat × Nat} (v : Value) (h : w.heap[b]? = some (.cells cs t fr)) : (w.setCell ⟨b, i, none⟩ v).heap[b]? = some (.cells (cs.setIfInBounds i v) t fr) := by
  rw [setCell_eq_setRow w b i cs t fr v h]; exact setRow_heap w b cs _ t fr h
end Go.Proofs.YtgljbhbpjobnbaaDoor
