/- The walk through the reference's row of digits (provostref14.row), whole. -/
import Derived.Test.YtgljbhbpjobnbaaDoorNe
import Derived.Laws.CopyOwn
import Derived.StillTailTactics
set_option linter.unusedSimpArgs false
set_option linter.unusedVariables false
namespace Go.Proofs.YtgljbhbpjobnbaaDoor
open Go.RowKit
/-- A row by its digits. -/
def rowF (f : Nat → Int) : Array Value := ((List.range 40).map fun i => Value.int .i64 (f i)).toArray
theorem rowF_get (f : Nat → Int) (i : Nat) (h : i < 40) : (rowF f)[i]? = some (.int .i64 (f i)) := by
  unfold rowF
  rw [List.getElem?_toArray, List.getElem?_map, List.getElem?_range h]; rfl
theorem rowF_size (f : Nat → Int) : (rowF f).size = 40 := by unfold rowF; simp
theorem rowF_set (f : Nat → Int) (a : Nat) (x : Int) (h : a < 40) : (rowF f).setIfInBounds a (.int .i64 x) = rowF (fun i => if i = a then x else f i) := by
  apply Array.ext
  · rw [Array.size_setIfInBounds, rowF_size, rowF_size]
  · intro i h1 h2
    rw [rowF_size] at h2
    have e1 := rowF_get f i h2
    have e2 := rowF_get (fun i => if i = a then x else f i) i h2
    rw [Array.getElem?_eq_getElem (by rw [rowF_size]; exact h2)] at e1 e2
    rw [Option.some.injEq] at e1 e2
    rw [Array.getElem_setIfInBounds (by rw [rowF_size]; exact h2), e2]
    by_cases q : a = i
    · subst q; simp
    · rw [if_neg q, e1, if_neg (fun e => q e.symm)]
theorem rowF_congr {f g : Nat → Int} (h : ∀ i, i < 40 → f i = g i) : rowF f = rowF g := by
  unfold rowF
  congr 1
  apply List.map_congr_left
  intro i hi
  rw [h i (List.mem_range.1 hi)]
theorem rowF_one (f : Nat → Int) : (rowF f).all (·.oneCell') = true := by
  unfold rowF
  rw [List.all_toArray, List.all_map]
  exact List.all_eq_true.2 fun x _ => rfl
theorem rowF_zero : (#[.int .i64 0, .int .i64 0, .int .i64 0, .int .i64 0, .int .i64 0, .int .i64 0, .int .i64 0, .int .i64 0, .int .i64 0, .int .i64 0, .int .i64 0, .int .i64 0, .int .i64 0, .int .i64 0, .int .i64 0, .int .i64 0, .int .i64 0, .int .i64 0, .int .i64 0, .int .i64 0, .int .i64 0, .int .i64 0, .int .i64 0, .int .i64 0, .int .i64 0, .int .i64 0, .int .i64 0, .int .i64 0, .int .i64 0, .int .i64 0, .int .i64 0, .int .i64 0, .int .i64 0, .int .i64 0, .int .i64 0, .int .i64 0, .int .i64 0, .int .i64 0, .int .i64 0, .int .i64 0] : Array Value) = rowF (fun _ => 0) := by rfl
theorem still_load_row {P : Program} {ops : Array Oper} {o : Oper} {a : Act} {w : World} {K : Act → Prop} (hgd : o.guard = none) (ty : TypeId) (x : Operand) (ho : o.op = .load ty x)
    (g : Nat) (hx : a.eval x = .pointer (some ⟨g, 0, none⟩)) (t : TypeId) (cs : Array Value) (fr : Nat × Nat) (d : TypeDesc) (hg : w.heap[g]? = some (.cells cs t fr))
    (hu : P.underlying ty = some d) (hd : (match d with | .struct _ | .array _ _ => true | _ => false) = true) (hi : (P.info? ty).map (·.size) = some cs.size)
    (h : K (a.put o.dst (.agg cs))) : if Region.wanted o (yielded ops a.tmps) = true then o.still P a w K else K (a.put o.dst undef) := by
  have hw : Region.wanted o (yielded ops a.tmps) = true := by simp [Region.wanted, hgd]
  rw [if_pos hw]
  unfold Oper.still execOp
  simp only [ho, hx, Instr.loadAt, Instr.sureAddr, Sem.run_bind, Sem.run_pure, Result.andThen_ok, run_loadVar_row w g t ty cs fr d hg hu hd hi]
  exact ⟨rfl, h⟩
theorem info40 : (Tryd.prog.info? 51).map (·.size) = some 40 := by kernel_rfl
theorem dgt_low (M k i : Nat) (h : i < k) : dgt (M * 10 ^ k) i = 0 := by
  unfold dgt
  obtain ⟨j, rfl⟩ : ∃ j, k = i + (j + 1) := ⟨k - i - 1, by omega⟩
  rw [show M * 10 ^ (i + (j + 1)) = 10 ^ i * (10 * (M * 10 ^ j)) by rw [Nat.pow_add, Nat.pow_succ]; simp only [Nat.mul_comm, Nat.mul_left_comm, Nat.mul_assoc]]
  rw [Nat.mul_div_cancel_left _ (Nat.pow_pos (by decide)), Nat.mul_mod_right]
theorem dgt_high (M k j : Nat) : dgt (M * 10 ^ k) (k + j) = M / 10 ^ j % 10 := by
  unfold dgt
  rw [Nat.pow_add, ← Nat.div_div_eq_div_mul, Nat.mul_div_cancel _ (Nat.pow_pos (by decide))]
/-- The digits so far. -/
def sofar (U a : Nat) (i : Nat) : Int := if i < a then (dgt U i : Int) else 0
theorem sofar_zero (M k : Nat) : rowF (sofar (M * 10 ^ k) k) = rowF (fun _ => 0) := rowF_congr fun i _ => by
  unfold sofar; split
  · rw [dgt_low _ _ _ (by assumption)]; rfl
  · rfl
theorem sofar_step (U a : Nat) : (fun i => if i = a then (dgt U a : Int) else sofar U a i) = sofar U (a + 1) := by
  funext i
  unfold sofar
  by_cases h : i = a
  · subst h; rw [if_pos rfl, if_pos (by omega)]
  · rw [if_neg h]
    by_cases h2 : i < a
    · rw [if_pos h2, if_pos (by omega)]
    · rw [if_neg h2, if_neg (by omega)]
theorem sofar_end (M k j : Nat) (h : M / 10 ^ j = 0) : rowF (sofar (M * 10 ^ k) (k + j)) = rowV (M * 10 ^ k) := rowF_congr fun i _ => by
  unfold sofar; split
  · rfl
  · obtain ⟨t, rfl⟩ : ∃ t, i = k + j + t := ⟨i - (k + j), by omega⟩
    rw [Nat.add_assoc, dgt_high, Nat.pow_add, ← Nat.div_div_eq_div_mul, h]; simp
theorem small_j (M j : Nat) (hM : M ≤ 9223372036854775808) (h : ¬ M / 10 ^ j = 0) : j ≤ 18 := by
  rcases Nat.lt_or_ge 18 j with q | q
  · exfalso
    apply h
    apply Nat.div_eq_of_lt
    have : 10 ^ 19 ≤ 10 ^ j := Nat.pow_le_pow_right (by decide) q
    have : (10 : Nat) ^ 19 = 10000000000000000000 := by decide
    omega
  · exact q
/-- An operation that is not wanted is taken first. -/
theorem tkn {P : Program} {ops : Array Oper} {Q : Exit → Act → World → Prop} {md : Region.Mode} {S : World → Prop} (i : Nat) (d : Option Tmp) {oi : Oper} {fuel : Nat} {listed : Array Bool} {a : Act} {w : World} (hi' : ops.toList[i]? = some oi)
    (hk : (Region.noSelect ops && Region.free md ops listed i && (Region.ready md ops listed).contains i) = true) (hw : Region.wanted oi (yielded ops a.tmps) = false)
    (hd : oi.dst = d) (hQ : ∀ c a w, Q (.panic c) (a.put d undef) w → Q (.panic c) a w) (hS : S w)
    (h : wpAnyH P md ops Q S fuel (listed.setIfInBounds i true) (a.put d undef) w) : wpAnyH P md ops Q S (fuel + 1) listed a w := by
  have hi : ops[i]? = some oi := by rw [← Array.getElem?_toList]; exact hi'
  subst hd
  simp only [Bool.and_eq_true] at hk
  exact wpAnyH_take hi hk.1.1 hk.1.2 hk.2 hQ (Or.inr ⟨hw, rfl⟩) hS h
/-- An operation that yields in every world that meets S is taken first. -/
theorem tky {P : Program} {ops : Array Oper} {Q : Exit → Act → World → Prop} {md : Region.Mode} {S : World → Prop} (i : Nat) (d : Option Tmp) {v : Value} {oi : Oper} {fuel : Nat} {listed : Array Bool} {a : Act} {w : World} (hi' : ops.toList[i]? = some oi)
    (hk : (Region.noSelect ops && Region.free md ops listed i && (Region.ready md ops listed).contains i) = true) (hw : Region.wanted oi (yielded ops a.tmps) = true)
    (hd : oi.dst = d) (hQ : ∀ c a w, Q (.panic c) (a.put d v) w → Q (.panic c) a w) (hy : ∀ w, S w → (execOp a.eval oi).run P w = .ok (.value v) w) (hS : S w)
    (h : wpAnyH P md ops Q S fuel (listed.setIfInBounds i true) (a.put d v) w) : wpAnyH P md ops Q S (fuel + 1) listed a w := by
  have hi : ops[i]? = some oi := by rw [← Array.getElem?_toList]; exact hi'
  subst hd
  simp only [Bool.and_eq_true] at hk
  exact wpAnyH_take hi hk.1.1 hk.1.2 hk.2 hQ (Or.inl ⟨hw, hy⟩) hS h
/-- What is carried out comes up alone. -/
theorem rcons {P : Program} {ops : Array Oper} {Q : Exit → Act → World → Prop} {md : Region.Mode} {S : World → Prop} (i : Nat) {fuel : Nat} {listed : Array Bool} {a : Act} {w : World} {o : Oper} (ho : ops.toList[i]? = some o) (hr : Region.ready md ops listed = [i])
    (h : ∀ K' : Act → World → Prop, Shut (∀ a w, S w → (S w → wpAnyH P md ops Q S fuel (listed.setIfInBounds i true) a w) → K' a w) → if Region.wanted o (yielded ops a.tmps) = true then Oper.wp P o a w K' Q else K' (a.put o.dst undef) w) : wpAnyH P md ops Q S (fuel + 1) listed a w :=
  wpAnyH_ready (rs := [i]) hr (by simp) (AllReadyH.cons (by rw [← Array.getElem?_toList]; exact ho) h AllReadyH.nil)
theorem rowV_one (u : Nat) : (rowV u).all (·.oneCell') = true := by
  unfold rowV
  rw [List.all_toArray, List.all_map]
  exact List.all_eq_true.2 fun x _ => rfl
theorem info40V (u : Nat) : (Tryd.prog.info? 51).map (·.size) = some (rowV u).size := by rw [rowV_size]; exact info40
theorem hnew (W : World) (o : Obj) (b : Nat) (hb : b = W.heap.size) : (W.alloc o).heap[b]? = some o := by rw [hb]; exact heap_alloc_new W o
theorem hold {b : Nat} {W : World} {o o' : Obj} (h : W.heap[b]? = some o) : (W.alloc o').heap[b]? = some o := by
  rw [Below.heap_alloc _ _ _ (Array.getElem?_eq_some_iff.1 h).1]; exact h
/-- A whole row loaded. -/
theorem exec_load_row {P : Program} {o : Oper} {a : Act} {w : World} (ty : TypeId) (x : Operand) (ho : o.op = .load ty x)
    (g : Nat) (hx : a.eval x = .pointer (some ⟨g, 0, none⟩)) (t : TypeId) (cs : Array Value) (fr : Nat × Nat) (d : TypeDesc) (hg : w.heap[g]? = some (.cells cs t fr))
    (hu : P.underlying ty = some d) (hd : (match d with | .struct _ | .array _ _ => true | _ => false) = true) (hi : (P.info? ty).map (·.size) = some cs.size) :
    (execOp a.eval o).run P w = .ok (.value (.agg cs)) w := by
  unfold execOp
  simp only [ho, hx, Instr.loadAt, Instr.sureAddr, Sem.run_bind, Sem.run_pure, Result.andThen_ok, run_loadVar_row w g t ty cs fr d hg hu hd hi]
/-- A row and a word as results. -/
theorem results_row2 {P : Program} {fn : Func} {p q : Tmp} {ty : TypeId} (h : fn.results = #[.cell p ty, .tmp q]) (tmps : Array Value) (w : World) (g : Nat) (t : TypeId) (cs : Array Value) (fr : Nat × Nat) (d : TypeDesc) (v : Value)
    (hp : tmps.getD p undef = .pointer (some ⟨g, 0, none⟩)) (hq : tmps.getD q undef = v) (hg : w.heap[g]? = some (.cells cs t fr))
    (hu : P.underlying ty = some d) (hd : (match d with | .struct _ | .array _ _ => true | _ => false) = true) (hi : (P.info? ty).map (·.size) = some cs.size) :
    (results fn tmps).run P w = .ok (.tuple #[.agg cs, v]) w := by
  have hp' : tmps[p]?.getD undef = .pointer (some ⟨g, 0, none⟩) := by simpa using hp
  have hq' : tmps[q]?.getD undef = v := by simpa using hq
  simp [results, h, hp', hq', asAddr, run_loadVar_row w g t ty cs fr d hg hu hd hi]
set_option maxRecDepth 100000 in
set_option maxHeartbeats 4000000 in
theorem rrow_pos (m s : Int) (hm : R m) (hs : 0 ≤ s) (hs2 : s ≤ 18) (hc : 0 ≤ m) (w : World) :
    Calls Tryd.prog 23 #[.agg #[.int .i64 m, .int .i64 s]] w fun e w' => e = .returned (.tuple #[.agg (rowV (mag m s)), .bool false]) ∧ Below w.heap.size w w' := by
  obtain ⟨k0, hk⟩ : ∃ k0 : Nat, 18 - s = k0 := Int.eq_ofNat_of_zero_le (by omega)
  have hk18 : k0 ≤ 18 := by omega
  obtain ⟨M, hM⟩ : ∃ M, m.natAbs = M := ⟨_, rfl⟩
  have hMb : M ≤ 9223372036854775808 := by unfold R at hm; omega
  have hmm : m = (M : Int) := by omega
  have hneg : decide (((M : Int)) < 0) = false := by rw [decide_eq_false_iff_not]; omega
  have hU : mag m s = M * 10 ^ k0 := by unfold mag; rw [hM, show 18 - s.toNat = k0 by omega]
  rw [hU]
  have HMB := Lib.hid hMb
  subst hmm
  clear hU hM hm hMb
  go_enter Tryd.func23, Tryd.ntmps23
  go_wp2_with fail
  go_loopw [5, 6] (fun n a wr => ∃ q j : Nat, n = .int .i64 ((q : Int)) ∧ a = .int .i64 ((k0 + j : Nat) : Int) ∧ q ≤ 9223372036854775808 ∧ j ≤ 19 ∧ Hid (q = M / 10 ^ j ∧ wr.heap[w.heap.size + 1 + 1]? = some (.cells (rowF (sofar (M * 10 ^ k0) (k0 + j))) 51 (0, 0))) ∧ wr.cell? ⟨w.heap.size, 0, none⟩ = some (.int .i64 ((M : Int))) ∧ wr.heap[w.heap.size + 1]? = some (.cells (rowF (fun _ => 0)) 51 (0, 0)) ∧ Below w.heap.size w wr) (fun n a wr => (intOf n).natAbs)
  case atStart =>
    refine ⟨M, 0, rfl, by simp, HMB.out, by omega, Lib.hid ⟨by simp, ?_⟩, by simp [go_sem], ?_, by go_grown⟩
    · rw [show k0 + 0 = k0 from rfl, sofar_zero, ← rowF_zero]; exact hnew _ _ _ (by simp)
    · rw [← rowF_zero]; exact hold (hnew _ _ _ (by simp))
  case round =>
    obtain ⟨q, j, rfl, rfl, hqb, hjb, HQ, c0, h1, hbw⟩ := hrel
    by_cases hq0 : q = 0
    · subst hq0
      have HE : Hid (wr.heap[w.heap.size + 1 + 1]? = some (.cells (rowV (M * 10 ^ k0)) 51 (0, 0))) := Lib.hid (by rw [HQ.out.2, sofar_end _ _ _ HQ.out.1.symm])
      have H1 := Lib.hid h1
      have HB := Lib.hid hbw
      clear h1 hbw HQ
      go_wp2_with fail
      refine wp_region_held_drew (S := fun W => W.heap[w.heap.size + 1 + 1]? = some (.cells (rowV (M * 10 ^ k0)) 51 (0, 0)) ∧ W.cell? ⟨w.heap.size, 0, none⟩ = some (.int .i64 ((M : Int))) ∧ ∃ cs, W.heap[w.heap.size + 1]? = some (.cells cs 51 (0, 0)) ∧ cs.size = 40) (by kernel_rfl) (⟨HE.out, c0, _, H1.out, rowF_size _⟩) (fun hHeld => ?_)
      refine tky 0 (some 28) (v := .agg (rowV (M * 10 ^ k0))) rfl (by kernel_rfl) (by kernel_rfl) (by kernel_rfl) (fun _ _ _ h => h) ?_ hHeld ?_
      focus (intro w hSw; exact exec_load_row 51 _ (by rfl) _ (by rfl) 51 _ (0, 0) _ hSw.1 Tryd.underlying51 (by rfl) (info40V _))
      simp only [Act.put, List.setIfInBounds_toArray, List.set_cons_zero, List.set_cons_succ]
      refine tky 1 (some 29) (v := ?_) rfl (by kernel_rfl) (by kernel_rfl) (by kernel_rfl) (fun _ _ _ h => h) ?_ hHeld ?_
      rotate_left
      focus (intro w hSw; (try dsimp only at hSw); go_simp; (try with_reducible rfl); done)
      simp only [Act.put, List.setIfInBounds_toArray, List.set_cons_zero, List.set_cons_succ]
      refine tky 2 (some 30) (v := ?_) rfl (by kernel_rfl) (by kernel_rfl) (by kernel_rfl) (fun _ _ _ h => h) ?_ hHeld ?_
      rotate_left
      focus (intro w hSw; (try dsimp only at hSw); go_simp; (try with_reducible rfl); done)
      simp only [Act.put, List.setIfInBounds_toArray, List.set_cons_zero, List.set_cons_succ]
      refine tky 3 (some 31) (v := ?_) rfl (by kernel_rfl) (by kernel_rfl) (by kernel_rfl) (fun _ _ _ h => h) ?_ hHeld ?_
      rotate_left
      focus (intro w hSw; (try dsimp only at hSw); go_simp; (try with_reducible rfl); done)
      simp only [Act.put, List.setIfInBounds_toArray, List.set_cons_zero, List.set_cons_succ]
      refine rcons 4 rfl (by kernel_rfl) (fun K hK => ?_)
      rw [if_pos]
      rotate_left
      focus kernel_rfl
      (obtain ⟨cs, hcs, hcz⟩ := hHeld.2.2)
      refine wp_store_row 51 _ _ rfl (w.heap.size + 1) (rowV (M * 10 ^ k0)) rfl rfl 51 cs hcs (info40V _) (by rw [hcz, rowV_size]) (rowV_one _) ?_
      (try dsimp only)
      refine hK.out _ _ (⟨(setRow_other _ _ _ _ (by omega)).trans hHeld.1, (cell_setRow_other _ _ _ _ (by simp)).trans hHeld.2.1, _, setRow_heap _ _ _ _ _ _ hcs, rowV_size _⟩) (fun hHeld2 => ?_)
      clear hK K hHeld
      have hHeld := hHeld2
      clear hHeld2
      (try simp only [Act.put, List.setIfInBounds_toArray, List.set_cons_zero, List.set_cons_succ])
      refine tky 5 (some 3) (v := ?_) rfl (by kernel_rfl) (by kernel_rfl) (by kernel_rfl) (fun _ _ _ h => h) ?_ hHeld ?_
      rotate_left
      focus (intro w hSw; (try dsimp only at hSw); go_simp; (try with_reducible rfl); done)
      simp only [Act.put, List.setIfInBounds_toArray, List.set_cons_zero, List.set_cons_succ]
      refine wpAnyH_done (by kernel_rfl) ?_ _
      try go_wp2_with fail
      refine bodyPost_ret (results_row2 Tryd.results23 _ _ (w.heap.size + 1) 51 (rowV (M * 10 ^ k0)) (0, 0) _ (.bool false) rfl (by first | rfl | (simp [hneg]; done) | (simp; omega)) (setRow_heap _ _ _ _ _ _ H1.out) Tryd.underlying51 rfl (info40V _)) rfl ?_
      exact ⟨rfl, below_setRow HB.out.drew (by omega) _⟩
    · have hj := small_j M j HMB.out (by rw [← HQ.out.1]; exact hq0)
      obtain ⟨a, haa⟩ : ∃ a, k0 + j = a := ⟨_, rfl⟩
      have ha : k0 + j < 40 := by omega
      have hai : ((k0 + j : Nat) : Int) < 40 := by omega
      have c2 : wr.cell? ⟨w.heap.size + 1 + 1, k0 + j, none⟩ = some (.int .i64 0) := by
        rw [cell_of_row _ _ _ _ _ _ HQ.out.2, rowF_get _ _ ha]; unfold sofar; rw [if_neg (by omega)]
      have f2 := frozen_row HQ.out.2 (k0 + j)
      have hq1 : ((q : Int) != 0) = true := by simpa using hq0
      have HQ0 := Lib.hid hq0
      clear hq0 haa
      go_wp2_with fail
      go_roundw
      case rel =>
        refine ⟨q / 10, j + 1, by go_num, by go_num, by omega, by omega, Lib.hid ⟨?_, ?_⟩, ?_, ?_, ?_⟩
        · rw [HQ.out.1, div_succ]
        · rw [row_setCell _ HQ.out.2, rowF_set _ _ _ ha, ← Nat.add_assoc, ← sofar_step]
          congr 3
          funext i
          split
          · rw [dgt_high, ← HQ.out.1]; first | rfl | omega
          · rfl
        · simp [go_sem, *]
        · exact (Below.heap_setCell _ _ _ _ (by simp)).trans h1
        · go_grown
      case measure => have hq9 := HQ0.out; simp [intOf]; omega
set_option maxRecDepth 100000 in
set_option maxHeartbeats 4000000 in
theorem rrow_neg (m s : Int) (hm : R m) (hs : 0 ≤ s) (hs2 : s ≤ 18) (hc : m < 0) (w : World) :
    Calls Tryd.prog 23 #[.agg #[.int .i64 m, .int .i64 s]] w fun e w' => e = .returned (.tuple #[.agg (rowV (mag m s)), .bool true]) ∧ Below w.heap.size w w' := by
  obtain ⟨k0, hk⟩ : ∃ k0 : Nat, 18 - s = k0 := Int.eq_ofNat_of_zero_le (by omega)
  have hk18 : k0 ≤ 18 := by omega
  obtain ⟨M, hM⟩ : ∃ M, m.natAbs = M := ⟨_, rfl⟩
  have hMb : M ≤ 9223372036854775808 := by unfold R at hm; omega
  have hmm : m = -(M : Int) := by omega
  have hneg : decide ((-(M : Int)) < 0) = true := by rw [decide_eq_true_eq]; omega
  have hU : mag m s = M * 10 ^ k0 := by unfold mag; rw [hM, show 18 - s.toNat = k0 by omega]
  rw [hU]
  have HMB := Lib.hid hMb
  subst hmm
  clear hU hM hm hMb
  go_enter Tryd.func23, Tryd.ntmps23
  go_wp2_with fail
  go_loopw [5, 6] (fun n a wr => ∃ q j : Nat, n = .int .i64 (-(q : Int)) ∧ a = .int .i64 ((k0 + j : Nat) : Int) ∧ q ≤ 9223372036854775808 ∧ j ≤ 19 ∧ Hid (q = M / 10 ^ j ∧ wr.heap[w.heap.size + 1 + 1]? = some (.cells (rowF (sofar (M * 10 ^ k0) (k0 + j))) 51 (0, 0))) ∧ wr.cell? ⟨w.heap.size, 0, none⟩ = some (.int .i64 (-(M : Int))) ∧ wr.heap[w.heap.size + 1]? = some (.cells (rowF (fun _ => 0)) 51 (0, 0)) ∧ Below w.heap.size w wr) (fun n a wr => (intOf n).natAbs)
  case atStart =>
    refine ⟨M, 0, rfl, by simp, HMB.out, by omega, Lib.hid ⟨by simp, ?_⟩, by simp [go_sem], ?_, by go_grown⟩
    · rw [show k0 + 0 = k0 from rfl, sofar_zero, ← rowF_zero]; exact hnew _ _ _ (by simp)
    · rw [← rowF_zero]; exact hold (hnew _ _ _ (by simp))
  case round =>
    obtain ⟨q, j, rfl, rfl, hqb, hjb, HQ, c0, h1, hbw⟩ := hrel
    by_cases hq0 : q = 0
    · subst hq0
      have HE : Hid (wr.heap[w.heap.size + 1 + 1]? = some (.cells (rowV (M * 10 ^ k0)) 51 (0, 0))) := Lib.hid (by rw [HQ.out.2, sofar_end _ _ _ HQ.out.1.symm])
      have H1 := Lib.hid h1
      have HB := Lib.hid hbw
      clear h1 hbw HQ
      go_wp2_with fail
      refine wp_region_held_drew (S := fun W => W.heap[w.heap.size + 1 + 1]? = some (.cells (rowV (M * 10 ^ k0)) 51 (0, 0)) ∧ W.cell? ⟨w.heap.size, 0, none⟩ = some (.int .i64 (-(M : Int))) ∧ ∃ cs, W.heap[w.heap.size + 1]? = some (.cells cs 51 (0, 0)) ∧ cs.size = 40) (by kernel_rfl) (⟨HE.out, c0, _, H1.out, rowF_size _⟩) (fun hHeld => ?_)
      refine tky 0 (some 28) (v := .agg (rowV (M * 10 ^ k0))) rfl (by kernel_rfl) (by kernel_rfl) (by kernel_rfl) (fun _ _ _ h => h) ?_ hHeld ?_
      focus (intro w hSw; exact exec_load_row 51 _ (by rfl) _ (by rfl) 51 _ (0, 0) _ hSw.1 Tryd.underlying51 (by rfl) (info40V _))
      simp only [Act.put, List.setIfInBounds_toArray, List.set_cons_zero, List.set_cons_succ]
      refine tky 1 (some 29) (v := ?_) rfl (by kernel_rfl) (by kernel_rfl) (by kernel_rfl) (fun _ _ _ h => h) ?_ hHeld ?_
      rotate_left
      focus (intro w hSw; (try dsimp only at hSw); go_simp; (try with_reducible rfl); done)
      simp only [Act.put, List.setIfInBounds_toArray, List.set_cons_zero, List.set_cons_succ]
      refine tky 2 (some 30) (v := ?_) rfl (by kernel_rfl) (by kernel_rfl) (by kernel_rfl) (fun _ _ _ h => h) ?_ hHeld ?_
      rotate_left
      focus (intro w hSw; (try dsimp only at hSw); go_simp; (try with_reducible rfl); done)
      simp only [Act.put, List.setIfInBounds_toArray, List.set_cons_zero, List.set_cons_succ]
      refine tky 3 (some 31) (v := ?_) rfl (by kernel_rfl) (by kernel_rfl) (by kernel_rfl) (fun _ _ _ h => h) ?_ hHeld ?_
      rotate_left
      focus (intro w hSw; (try dsimp only at hSw); go_simp; (try with_reducible rfl); done)
      simp only [Act.put, List.setIfInBounds_toArray, List.set_cons_zero, List.set_cons_succ]
      refine rcons 4 rfl (by kernel_rfl) (fun K hK => ?_)
      rw [if_pos]
      rotate_left
      focus kernel_rfl
      (obtain ⟨cs, hcs, hcz⟩ := hHeld.2.2)
      refine wp_store_row 51 _ _ rfl (w.heap.size + 1) (rowV (M * 10 ^ k0)) rfl rfl 51 cs hcs (info40V _) (by rw [hcz, rowV_size]) (rowV_one _) ?_
      (try dsimp only)
      refine hK.out _ _ (⟨(setRow_other _ _ _ _ (by omega)).trans hHeld.1, (cell_setRow_other _ _ _ _ (by simp)).trans hHeld.2.1, _, setRow_heap _ _ _ _ _ _ hcs, rowV_size _⟩) (fun hHeld2 => ?_)
      clear hK K hHeld
      have hHeld := hHeld2
      clear hHeld2
      (try simp only [Act.put, List.setIfInBounds_toArray, List.set_cons_zero, List.set_cons_succ])
      refine tky 5 (some 3) (v := ?_) rfl (by kernel_rfl) (by kernel_rfl) (by kernel_rfl) (fun _ _ _ h => h) ?_ hHeld ?_
      rotate_left
      focus (intro w hSw; (try dsimp only at hSw); go_simp; (try with_reducible rfl); done)
      simp only [Act.put, List.setIfInBounds_toArray, List.set_cons_zero, List.set_cons_succ]
      refine wpAnyH_done (by kernel_rfl) ?_ _
      try go_wp2_with fail
      refine bodyPost_ret (results_row2 Tryd.results23 _ _ (w.heap.size + 1) 51 (rowV (M * 10 ^ k0)) (0, 0) _ (.bool true) rfl (by first | rfl | (simp [hneg]; done) | (simp; omega)) (setRow_heap _ _ _ _ _ _ H1.out) Tryd.underlying51 rfl (info40V _)) rfl ?_
      exact ⟨rfl, below_setRow HB.out.drew (by omega) _⟩
    · have hj := small_j M j HMB.out (by rw [← HQ.out.1]; exact hq0)
      obtain ⟨a, haa⟩ : ∃ a, k0 + j = a := ⟨_, rfl⟩
      have ha : k0 + j < 40 := by omega
      have hai : ((k0 + j : Nat) : Int) < 40 := by omega
      have c2 : wr.cell? ⟨w.heap.size + 1 + 1, k0 + j, none⟩ = some (.int .i64 0) := by
        rw [cell_of_row _ _ _ _ _ _ HQ.out.2, rowF_get _ _ ha]; unfold sofar; rw [if_neg (by omega)]
      have f2 := frozen_row HQ.out.2 (k0 + j)
      have hq1 : (-(q : Int) != 0) = true := by simp; exact hq0
      have HTM : Hid ((-(q : Int)).tmod 10 = -((q % 10 : Nat) : Int)) := Lib.hid (by rw [Int.neg_tmod]; rfl)
      have htd : (-(q : Int)).tdiv 10 = -((q / 10 : Nat) : Int) := by rw [Int.neg_tdiv]; rfl
      have HQ0 := Lib.hid hq0
      clear hq0 haa
      rcases Nat.eq_zero_or_pos (q % 10) with hd0 | hd0
      · have htm : (-(q : Int)).tmod 10 = 0 := by rw [HTM.out, hd0]; rfl
        have HD0 := Lib.hid hd0
        clear hd0
        go_wp2_with fail
        go_roundw
        case rel =>
          refine ⟨q / 10, j + 1, by go_num, by go_num, by omega, by omega, Lib.hid ⟨?_, ?_⟩, ?_, ?_, ?_⟩
          · rw [HQ.out.1, div_succ]
          · rw [row_setCell _ HQ.out.2, rowF_set _ _ _ ha, ← Nat.add_assoc, ← sofar_step]
            congr 3
            funext i
            split
            · rw [dgt_high, ← HQ.out.1]; rw [show M / 10 ^ j = q from HQ.out.1.symm] at *; first | (rw [HD0.out]; rfl) | omega
            · rfl
          · simp [go_sem, *]
          · exact (Below.heap_setCell _ _ _ _ (by simp)).trans h1
          · go_grown
        case measure => have hq9 := HQ0.out; simp [intOf]; omega
      · obtain ⟨d, hd⟩ : ∃ d, q % 10 = d := ⟨_, rfl⟩
        have htm : (-(q : Int)).tmod 10 = -(d : Int) := by rw [HTM.out, hd]
        have hdp : (0 : Int) < (d : Int) := by omega
        have hdn : -(d : Int) < 0 := by omega
        have hd9 : d ≤ 9 := by omega
        have HD0 := Lib.hid hd
        clear hd0 hd
        go_wp2_with fail
        go_roundw
        case rel =>
          refine ⟨q / 10, j + 1, by go_num, by go_num, by omega, by omega, Lib.hid ⟨?_, ?_⟩, ?_, ?_, ?_⟩
          · rw [HQ.out.1, div_succ]
          · rw [row_setCell _ HQ.out.2, rowF_set _ _ _ ha, ← Nat.add_assoc, ← sofar_step]
            congr 3
            funext i
            split
            · rw [dgt_high, ← HQ.out.1]; first | (rw [HD0.out]; done) | rfl | omega
            · rfl
          · simp [go_sem, *]
          · exact (Below.heap_setCell _ _ _ _ (by simp)).trans h1
          · go_grown
        case measure => have hq9 := HQ0.out; simp [intOf]; omega
end Go.Proofs.YtgljbhbpjobnbaaDoor
