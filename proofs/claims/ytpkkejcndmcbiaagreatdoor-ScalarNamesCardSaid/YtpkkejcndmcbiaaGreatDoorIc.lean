/- scalar's table: made by all's closure. -/
import Derived.Test.YtpkkejcndmcbiaaGreatDoorIb
import Derived.Test.YtpkkejcndmcbiaaGreatDoorTw
import Derived.Test.YtpkkejcndmcbiaaGreatDoorCr
set_option linter.unusedSimpArgs false
set_option linter.unusedVariables false
namespace Go.Proofs.YtpkkejcndmcbiaaGreatDoor
open Go.RowKit
/-- What the table's row holds: eight scalars of four values each; what their readers hold. -/
def TabP (tb : Nat) (lv : Value) (W : World) : Prop := ∃ lb p2 p4 q4 p5 p6 p7 q7 p8 : Nat, lv = .slice (some ⟨lb, 0, none⟩) 8 8 ∧ W.heap[lb]? = some (.cells #[.func (.func 29) #[] #[], .func (.func 30) #[] #[], .func (.func 32) #[] #[], .bool false, .func (.func 52) #[] #[.pointer (some ⟨p2, 0, none⟩)], .func (.func 27) #[] #[], Value.nilFunc, .bool true, .func (.func 35) #[] #[], Value.nilFunc, Value.nilFunc, .bool false, .func (.func 53) #[] #[.pointer (some ⟨q4, 0, none⟩)], .func (.func 27) #[] #[], Value.nilFunc, .bool true, .func (.func 52) #[] #[.pointer (some ⟨p5, 0, none⟩)], .func (.func 39) #[] #[], Value.nilFunc, .bool false, .func (.func 52) #[] #[.pointer (some ⟨p6, 0, none⟩)], .func (.func 27) #[] #[], Value.nilFunc, .bool false, .func (.func 53) #[] #[.pointer (some ⟨q7, 0, none⟩)], .func (.func 42) #[] #[], .func (.func 43) #[] #[], .bool false, .func (.func 52) #[] #[.pointer (some ⟨p8, 0, none⟩)], Value.nilFunc, Value.nilFunc, .bool true] 42 (0, 0)) ∧
  (tb < lb ∧ tb < p2 ∧ tb < p4 ∧ tb < q4 ∧ tb < p5 ∧ tb < p6 ∧ tb < p7 ∧ tb < q7 ∧ tb < p8) ∧ W.cell? ⟨p2, 0, none⟩ = some (.func (.func 34) #[] #[]) ∧ W.cell? ⟨p4, 0, none⟩ = some (.func (.func 37) #[] #[]) ∧ W.cell? ⟨q4, 0, none⟩ = some (.func (.func 52) #[] #[.pointer (some ⟨p4, 0, none⟩)]) ∧ W.cell? ⟨p5, 0, none⟩ = some (.func (.func 38) #[] #[]) ∧ W.cell? ⟨p6, 0, none⟩ = some (.func (.func 40) #[] #[]) ∧ W.cell? ⟨p7, 0, none⟩ = some (.func (.func 41) #[] #[]) ∧ W.cell? ⟨q7, 0, none⟩ = some (.func (.func 52) #[] #[.pointer (some ⟨p7, 0, none⟩)]) ∧ W.cell? ⟨p8, 0, none⟩ = some (.func (.func 44) #[] #[])
theorem TabP.kept {tb : Nat} {l : Value} {W W' : World} (h : TabP tb l W) (hk : ∀ b, b ≠ tb → W'.heap[b]? = W.heap[b]?) : TabP tb l W' := by
  obtain ⟨lb, p2, p4, q4, p5, p6, p7, q7, p8, e, h0, ⟨n0, n1, n2, n3, n4, n5, n6, n7, n8⟩, c1, c2, c3, c4, c5, c6, c7, c8⟩ := h
  have ck : ∀ p v, tb < p → W.cell? ⟨p, 0, none⟩ = some v → W'.cell? ⟨p, 0, none⟩ = some v := fun p v hp h => by
    have hb := hk p (by omega)
    unfold World.cell? at h ⊢
    simp only at h ⊢
    rw [hb]; exact h
  exact ⟨lb, p2, p4, q4, p5, p6, p7, q7, p8, e, (hk lb (by omega)).trans h0, ⟨n0, n1, n2, n3, n4, n5, n6, n7, n8⟩, ck _ _ n1 c1, ck _ _ n2 c2, ck _ _ n3 c3, ck _ _ n4 c4, ck _ _ n5 c5, ck _ _ n6 c6, ck _ _ n7 c7, ck _ _ n8 c8⟩
theorem keep_s {w W W' : World} {tv tb : Nat} (hb : Below W.heap.size W W') (h : (fun W => (Below tb w W ∧ tb ≤ W.heap.size ∧ tv ≠ tb) ∧ W.cell? ⟨tv, 0, none⟩ = some (.pointer (some ⟨tb, 0, none⟩)) ∧ ∃ l, W.cell? ⟨tb, 4, none⟩ = some l ∧ W.frozen? ⟨tb, 4, none⟩ = false) W) : (fun W => (Below tb w W ∧ tb ≤ W.heap.size ∧ tv ≠ tb) ∧ W.cell? ⟨tv, 0, none⟩ = some (.pointer (some ⟨tb, 0, none⟩)) ∧ ∃ l, W.cell? ⟨tb, 4, none⟩ = some l ∧ W.frozen? ⟨tb, 4, none⟩ = false) W' :=
  ⟨⟨h.1.1.trans (hb.mono h.1.2.1), Nat.le_trans h.1.2.1 hb.size, h.1.2.2⟩, (hb.cell (p := ⟨_, _, none⟩) (lt_of_cell h.2.1)).trans h.2.1, (by obtain ⟨_, _, l, h3, h4⟩ := h; exact ⟨l, (hb.cell (p := ⟨_, _, none⟩) (lt_of_cell h3)).trans h3, (hb.frozen (p := ⟨_, _, none⟩) (lt_of_cell h3)).trans h4⟩)⟩
set_option maxRecDepth 100000 in
set_option maxHeartbeats 4000000 in
theorem tab_made (tv tb : Nat) (d m sm a l0 : Value) (T0 : TypeId) (w : World) (hne : tv ≠ tb) (ct : w.cell? ⟨tv, 0, none⟩ = some (.pointer (some ⟨tb, 0, none⟩))) (hh : w.heap[tb]? = some (.cells #[d, m, sm, a, l0] T0 (0, 0))) :
    Calls Tryz.prog 26 #[.pointer (some ⟨tv, 0, none⟩)] w fun e w' => e = .returned (.tuple #[]) ∧ (∃ l1, w'.heap[tb]? = some (.cells #[d, m, sm, a, l1] T0 (0, 0)) ∧ TabP tb l1 w') ∧ Below tb w w' ∧ (∀ b, b < w.heap.size → b ≠ tb → w'.heap[b]? = w.heap[b]?) := by
  have cl : w.cell? ⟨tb, 4, none⟩ = some l0 := (Lib.cell_of_heap hh 4).trans rfl
  have zl : w.frozen? ⟨tb, 4, none⟩ = false := Lib.frozen_of_heap hh 4
  go_enter Tryz.func26, Tryz.ntmps26
  go_wp2_with fail
  refine wp_region_held_drew (S := fun W => (Below tb w W ∧ tb ≤ W.heap.size ∧ tv ≠ tb) ∧ W.cell? ⟨tv, 0, none⟩ = some (.pointer (some ⟨tb, 0, none⟩)) ∧ ∃ l, W.cell? ⟨tb, 4, none⟩ = some l ∧ W.frozen? ⟨tb, 4, none⟩ = false) (by kernel_rfl) (⟨⟨⟨rfl, rfl, rfl, Nat.le_refl _, fun _ _ => rfl⟩, Nat.le_of_lt (heap_lt hh), hne⟩, ct, l0, cl, zl⟩) (fun hHeld => ?_)
  refine tky 0 (some 2) (v := ?_) rfl (by kernel_rfl) (by kernel_rfl) (by kernel_rfl) (fun _ _ _ h => h) ?_ hHeld ?_
  rotate_left
  focus (intro w hSw; (try dsimp only at hSw); go_simp; (try with_reducible rfl); done)
  simp only [Act.put, List.setIfInBounds_toArray, List.set_cons_zero, List.set_cons_succ]
  refine tky 1 (some 3) (v := ?_) rfl (by kernel_rfl) (by kernel_rfl) (by kernel_rfl) (fun _ _ _ h => h) ?_ hHeld ?_
  rotate_left
  focus (intro w hSw; (try dsimp only at hSw); go_simp; (try with_reducible rfl); done)
  simp only [Act.put, List.setIfInBounds_toArray, List.set_cons_zero, List.set_cons_succ]
  refine tky 3 (some 5) (v := ?_) rfl (by kernel_rfl) (by kernel_rfl) (by kernel_rfl) (fun _ _ _ h => h) ?_ hHeld ?_
  rotate_left
  focus (intro w hSw; (try dsimp only at hSw); go_simp; (try with_reducible rfl); done)
  simp only [Act.put, List.setIfInBounds_toArray, List.set_cons_zero, List.set_cons_succ]
  refine tky 5 (some 7) (v := ?_) rfl (by kernel_rfl) (by kernel_rfl) (by kernel_rfl) (fun _ _ _ h => h) ?_ hHeld ?_
  rotate_left
  focus (intro w hSw; (try dsimp only at hSw); go_simp; (try with_reducible rfl); done)
  simp only [Act.put, List.setIfInBounds_toArray, List.set_cons_zero, List.set_cons_succ]
  refine tky 8 (some 10) (v := ?_) rfl (by kernel_rfl) (by kernel_rfl) (by kernel_rfl) (fun _ _ _ h => h) ?_ hHeld ?_
  rotate_left
  focus (intro w hSw; (try dsimp only at hSw); go_simp; (try with_reducible rfl); done)
  simp only [Act.put, List.setIfInBounds_toArray, List.set_cons_zero, List.set_cons_succ]
  refine tky 13 (some 15) (v := ?_) rfl (by kernel_rfl) (by kernel_rfl) (by kernel_rfl) (fun _ _ _ h => h) ?_ hHeld ?_
  rotate_left
  focus (intro w hSw; (try dsimp only at hSw); go_simp; (try with_reducible rfl); done)
  simp only [Act.put, List.setIfInBounds_toArray, List.set_cons_zero, List.set_cons_succ]
  refine rcons 2 rfl (by kernel_rfl) (fun K hK => ?_)
  go_simp
  refine (told_any _ _ _ _).mono ?_; rintro e wc0 ⟨⟨p2, rfl, hle0, hc0⟩, hb⟩; have HB0 := Lib.hid hb; have HC0 := Lib.hid hc0; clear hc0
  (try dsimp only)
  refine hK.out _ _ (keep_s hb hHeld) (fun hHeld2 => ?_)
  clear hK K hHeld
  have hHeld := hHeld2
  clear hHeld2
  (try simp only [Act.put, List.setIfInBounds_toArray, List.set_cons_zero, List.set_cons_succ])
  refine tky 4 (some 6) (v := ?_) rfl (by kernel_rfl) (by kernel_rfl) (by kernel_rfl) (fun _ _ _ h => h) ?_ hHeld ?_
  rotate_left
  focus (intro w hSw; (try dsimp only at hSw); go_simp; (try with_reducible rfl); done)
  simp only [Act.put, List.setIfInBounds_toArray, List.set_cons_zero, List.set_cons_succ]
  refine rcons 6 rfl (by kernel_rfl) (fun K hK => ?_)
  go_simp
  refine (told_any _ _ _ _).mono ?_; rintro e wc1 ⟨⟨p4, rfl, hle1, hc1⟩, hb⟩; have HB1 := Lib.hid hb; have HC1 := Lib.hid hc1; clear hc1
  (try dsimp only)
  refine hK.out _ _ (keep_s hb hHeld) (fun hHeld2 => ?_)
  clear hK K hHeld
  have hHeld := hHeld2
  clear hHeld2
  (try simp only [Act.put, List.setIfInBounds_toArray, List.set_cons_zero, List.set_cons_succ])
  refine rcons 7 rfl (by kernel_rfl) (fun K hK => ?_)
  go_simp
  refine (digs_any _ _ _ _).mono ?_; rintro e wc2 ⟨⟨q4, rfl, hle2, hc2⟩, hb⟩; have HB2 := Lib.hid hb; have HC2 := Lib.hid hc2; clear hc2
  (try dsimp only)
  refine hK.out _ _ (keep_s hb hHeld) (fun hHeld2 => ?_)
  clear hK K hHeld
  have hHeld := hHeld2
  clear hHeld2
  (try simp only [Act.put, List.setIfInBounds_toArray, List.set_cons_zero, List.set_cons_succ])
  refine tky 9 (some 11) (v := ?_) rfl (by kernel_rfl) (by kernel_rfl) (by kernel_rfl) (fun _ _ _ h => h) ?_ hHeld ?_
  rotate_left
  focus (intro w hSw; (try dsimp only at hSw); go_simp; (try with_reducible rfl); done)
  simp only [Act.put, List.setIfInBounds_toArray, List.set_cons_zero, List.set_cons_succ]
  refine rcons 10 rfl (by kernel_rfl) (fun K hK => ?_)
  go_simp
  refine (told_any _ _ _ _).mono ?_; rintro e wc3 ⟨⟨p5, rfl, hle3, hc3⟩, hb⟩; have HB3 := Lib.hid hb; have HC3 := Lib.hid hc3; clear hc3
  (try dsimp only)
  refine hK.out _ _ (keep_s hb hHeld) (fun hHeld2 => ?_)
  clear hK K hHeld
  have hHeld := hHeld2
  clear hHeld2
  (try simp only [Act.put, List.setIfInBounds_toArray, List.set_cons_zero, List.set_cons_succ])
  refine tky 11 (some 13) (v := ?_) rfl (by kernel_rfl) (by kernel_rfl) (by kernel_rfl) (fun _ _ _ h => h) ?_ hHeld ?_
  rotate_left
  focus (intro w hSw; (try dsimp only at hSw); go_simp; (try with_reducible rfl); done)
  simp only [Act.put, List.setIfInBounds_toArray, List.set_cons_zero, List.set_cons_succ]
  refine rcons 12 rfl (by kernel_rfl) (fun K hK => ?_)
  go_simp
  refine (told_any _ _ _ _).mono ?_; rintro e wc4 ⟨⟨p6, rfl, hle4, hc4⟩, hb⟩; have HB4 := Lib.hid hb; have HC4 := Lib.hid hc4; clear hc4
  (try dsimp only)
  refine hK.out _ _ (keep_s hb hHeld) (fun hHeld2 => ?_)
  clear hK K hHeld
  have hHeld := hHeld2
  clear hHeld2
  (try simp only [Act.put, List.setIfInBounds_toArray, List.set_cons_zero, List.set_cons_succ])
  refine tky 14 (some 16) (v := ?_) rfl (by kernel_rfl) (by kernel_rfl) (by kernel_rfl) (fun _ _ _ h => h) ?_ hHeld ?_
  rotate_left
  focus (intro w hSw; (try dsimp only at hSw); go_simp; (try with_reducible rfl); done)
  simp only [Act.put, List.setIfInBounds_toArray, List.set_cons_zero, List.set_cons_succ]
  refine rcons 15 rfl (by kernel_rfl) (fun K hK => ?_)
  go_simp
  refine (told_any _ _ _ _).mono ?_; rintro e wc5 ⟨⟨p7, rfl, hle5, hc5⟩, hb⟩; have HB5 := Lib.hid hb; have HC5 := Lib.hid hc5; clear hc5
  (try dsimp only)
  refine hK.out _ _ (keep_s hb hHeld) (fun hHeld2 => ?_)
  clear hK K hHeld
  have hHeld := hHeld2
  clear hHeld2
  (try simp only [Act.put, List.setIfInBounds_toArray, List.set_cons_zero, List.set_cons_succ])
  refine rcons 16 rfl (by kernel_rfl) (fun K hK => ?_)
  go_simp
  refine (digs_any _ _ _ _).mono ?_; rintro e wc6 ⟨⟨q7, rfl, hle6, hc6⟩, hb⟩; have HB6 := Lib.hid hb; have HC6 := Lib.hid hc6; clear hc6
  (try dsimp only)
  refine hK.out _ _ (keep_s hb hHeld) (fun hHeld2 => ?_)
  clear hK K hHeld
  have hHeld := hHeld2
  clear hHeld2
  (try simp only [Act.put, List.setIfInBounds_toArray, List.set_cons_zero, List.set_cons_succ])
  refine tky 17 (some 19) (v := ?_) rfl (by kernel_rfl) (by kernel_rfl) (by kernel_rfl) (fun _ _ _ h => h) ?_ hHeld ?_
  rotate_left
  focus (intro w hSw; (try dsimp only at hSw); go_simp; (try with_reducible rfl); done)
  simp only [Act.put, List.setIfInBounds_toArray, List.set_cons_zero, List.set_cons_succ]
  refine rcons 18 rfl (by kernel_rfl) (fun K hK => ?_)
  go_simp
  refine (told_any _ _ _ _).mono ?_; rintro e wc7 ⟨⟨p8, rfl, hle7, hc7⟩, hb⟩; have HB7 := Lib.hid hb; have HC7 := Lib.hid hc7; clear hc7
  (try dsimp only)
  refine hK.out _ _ (keep_s hb hHeld) (fun hHeld2 => ?_)
  clear hK K hHeld
  have hHeld := hHeld2
  clear hHeld2
  (try simp only [Act.put, List.setIfInBounds_toArray, List.set_cons_zero, List.set_cons_succ])
  refine tky 19 (some 21) (v := ?_) rfl (by kernel_rfl) (by kernel_rfl) (by kernel_rfl) (fun _ _ _ h => h) ?_ hHeld ?_
  rotate_left
  focus (intro w hSw; (try dsimp only at hSw); go_simp; (try with_reducible rfl); done)
  simp only [Act.put, List.setIfInBounds_toArray, List.set_cons_zero, List.set_cons_succ]
  refine rcons 20 rfl (by kernel_rfl) (fun K hK => ?_)
  go_simp
  refine hK.out _ _ (keep_s ((Below.refl _ _).alloc (Nat.le_refl _) _) hHeld) (fun hHeld2 => ?_)
  clear hK K hHeld
  have hHeld := hHeld2
  clear hHeld2
  (try simp only [Act.put, List.setIfInBounds_toArray, List.set_cons_zero, List.set_cons_succ])
  refine tky 21 (some 23) (v := ?_) rfl (by kernel_rfl) (by kernel_rfl) (by kernel_rfl) (fun _ _ _ h => h) ?_ hHeld ?_
  rotate_left
  focus (intro w hSw; (try dsimp only at hSw); go_simp; (try with_reducible rfl); done)
  simp only [Act.put, List.setIfInBounds_toArray, List.set_cons_zero, List.set_cons_succ]
  refine tky 22 (some 24) (v := ?_) rfl (by kernel_rfl) (by kernel_rfl) (by kernel_rfl) (fun _ _ _ h => h) ?_ hHeld ?_
  rotate_left
  focus (intro w hSw; (try dsimp only at hSw); go_simp; (try with_reducible rfl); done)
  simp only [Act.put, List.setIfInBounds_toArray, List.set_cons_zero, List.set_cons_succ]
  refine rcons 23 rfl (by kernel_rfl) (fun K hK => ?_)
  have hHx := hHeld; obtain ⟨hs1, hs2, lx, hs3, hs4⟩ := hHx
  go_simp
  refine hK.out _ _ (⟨⟨hs1.1.setCell (p := ⟨tb, 4, none⟩) (Nat.le_refl tb) _, by simpa [World.setCell] using hs1.2.1, hs1.2.2⟩, (World.cell?_setCell_other _ ⟨tb, 4, none⟩ ⟨tv, 0, none⟩ _ (by simp)).trans hs2, _, World.cell?_setCell_same _ _ _ hs3, by simp [hs4]⟩) (fun hHeld2 => ?_)
  clear hK K hHeld
  have hHeld := hHeld2
  clear hHeld2
  (try simp only [Act.put, List.setIfInBounds_toArray, List.set_cons_zero, List.set_cons_succ])
  refine wpAnyH_done (by kernel_rfl) ?_ _
  have t0 := HB0.out
  have t1 := t0.trans (HB1.out.mono t0.size)
  have t2 := t1.trans (HB2.out.mono t1.size)
  have t3 := t2.trans (HB3.out.mono t2.size)
  have t4 := t3.trans (HB4.out.mono t3.size)
  have t5 := t4.trans (HB5.out.mono t4.size)
  have t6 := t5.trans (HB6.out.mono t5.size)
  have t7 := t6.trans (HB7.out.mono t6.size)
  have s7 := Below.refl wc7.heap.size wc7
  have s6 : Below wc6.heap.size wc6 wc7 := HB7.out.trans (s7.mono HB7.out.size)
  have s5 : Below wc5.heap.size wc5 wc7 := HB6.out.trans (s6.mono HB6.out.size)
  have s4 : Below wc4.heap.size wc4 wc7 := HB5.out.trans (s5.mono HB5.out.size)
  have s3 : Below wc3.heap.size wc3 wc7 := HB4.out.trans (s4.mono HB4.out.size)
  have s2 : Below wc2.heap.size wc2 wc7 := HB3.out.trans (s3.mono HB3.out.size)
  have s1 : Below wc1.heap.size wc1 wc7 := HB2.out.trans (s2.mono HB2.out.size)
  have s0 : Below wc0.heap.size wc0 wc7 := HB1.out.trans (s1.mono HB1.out.size)
  have g0 := (s0.cell (p := ⟨_, _, none⟩) (lt_of_cell HC0.out)).trans HC0.out
  have g1 := (s1.cell (p := ⟨_, _, none⟩) (lt_of_cell HC1.out)).trans HC1.out
  have g2 := (s2.cell (p := ⟨_, _, none⟩) (lt_of_cell HC2.out)).trans HC2.out
  have g3 := (s3.cell (p := ⟨_, _, none⟩) (lt_of_cell HC3.out)).trans HC3.out
  have g4 := (s4.cell (p := ⟨_, _, none⟩) (lt_of_cell HC4.out)).trans HC4.out
  have g5 := (s5.cell (p := ⟨_, _, none⟩) (lt_of_cell HC5.out)).trans HC5.out
  have g6 := (s6.cell (p := ⟨_, _, none⟩) (lt_of_cell HC6.out)).trans HC6.out
  have g7 := (s7.cell (p := ⟨_, _, none⟩) (lt_of_cell HC7.out)).trans HC7.out
  have z0 : w.heap.size ≤ p2 := hle0
  have z1 : w.heap.size ≤ p4 := Nat.le_trans t0.size hle1
  have z2 : w.heap.size ≤ q4 := Nat.le_trans t1.size hle2
  have z3 : w.heap.size ≤ p5 := Nat.le_trans t2.size hle3
  have z4 : w.heap.size ≤ p6 := Nat.le_trans t3.size hle4
  have z5 : w.heap.size ≤ p7 := Nat.le_trans t4.size hle5
  have z6 : w.heap.size ≤ q7 := Nat.le_trans t5.size hle6
  have z7 : w.heap.size ≤ p8 := Nat.le_trans t6.size hle7
  have hlt : tb < w.heap.size := heap_lt hh
  have hT : wc7.heap[tb]? = some (.cells #[d, m, sm, a, l0] T0 (0, 0)) := (t7.block _ hlt).trans hh
  have hA : (wc7.alloc (.cells #[.func (.func 29) #[] #[], .func (.func 30) #[] #[], .func (.func 32) #[] #[], .bool false, .func (.func 52) #[] #[.pointer (some ⟨p2, 0, none⟩)], .func (.func 27) #[] #[], Value.nilFunc, .bool true, .func (.func 35) #[] #[], Value.nilFunc, Value.nilFunc, .bool false, .func (.func 53) #[] #[.pointer (some ⟨q4, 0, none⟩)], .func (.func 27) #[] #[], Value.nilFunc, .bool true, .func (.func 52) #[] #[.pointer (some ⟨p5, 0, none⟩)], .func (.func 39) #[] #[], Value.nilFunc, .bool false, .func (.func 52) #[] #[.pointer (some ⟨p6, 0, none⟩)], .func (.func 27) #[] #[], Value.nilFunc, .bool false, .func (.func 53) #[] #[.pointer (some ⟨q7, 0, none⟩)], .func (.func 42) #[] #[], .func (.func 43) #[] #[], .bool false, .func (.func 52) #[] #[.pointer (some ⟨p8, 0, none⟩)], Value.nilFunc, Value.nilFunc, .bool true] 42 (0, 0))).heap[tb]? = some (.cells #[d, m, sm, a, l0] T0 (0, 0)) := heap_old hT
  have hL : (wc7.alloc (.cells #[.func (.func 29) #[] #[], .func (.func 30) #[] #[], .func (.func 32) #[] #[], .bool false, .func (.func 52) #[] #[.pointer (some ⟨p2, 0, none⟩)], .func (.func 27) #[] #[], Value.nilFunc, .bool true, .func (.func 35) #[] #[], Value.nilFunc, Value.nilFunc, .bool false, .func (.func 53) #[] #[.pointer (some ⟨q4, 0, none⟩)], .func (.func 27) #[] #[], Value.nilFunc, .bool true, .func (.func 52) #[] #[.pointer (some ⟨p5, 0, none⟩)], .func (.func 39) #[] #[], Value.nilFunc, .bool false, .func (.func 52) #[] #[.pointer (some ⟨p6, 0, none⟩)], .func (.func 27) #[] #[], Value.nilFunc, .bool false, .func (.func 53) #[] #[.pointer (some ⟨q7, 0, none⟩)], .func (.func 42) #[] #[], .func (.func 43) #[] #[], .bool false, .func (.func 52) #[] #[.pointer (some ⟨p8, 0, none⟩)], Value.nilFunc, Value.nilFunc, .bool true] 42 (0, 0))).heap[wc7.heap.size]? = some (.cells #[.func (.func 29) #[] #[], .func (.func 30) #[] #[], .func (.func 32) #[] #[], .bool false, .func (.func 52) #[] #[.pointer (some ⟨p2, 0, none⟩)], .func (.func 27) #[] #[], Value.nilFunc, .bool true, .func (.func 35) #[] #[], Value.nilFunc, Value.nilFunc, .bool false, .func (.func 53) #[] #[.pointer (some ⟨q4, 0, none⟩)], .func (.func 27) #[] #[], Value.nilFunc, .bool true, .func (.func 52) #[] #[.pointer (some ⟨p5, 0, none⟩)], .func (.func 39) #[] #[], Value.nilFunc, .bool false, .func (.func 52) #[] #[.pointer (some ⟨p6, 0, none⟩)], .func (.func 27) #[] #[], Value.nilFunc, .bool false, .func (.func 53) #[] #[.pointer (some ⟨q7, 0, none⟩)], .func (.func 42) #[] #[], .func (.func 43) #[] #[], .bool false, .func (.func 52) #[] #[.pointer (some ⟨p8, 0, none⟩)], Value.nilFunc, Value.nilFunc, .bool true] 42 (0, 0)) := heap_new _ _ _ rfl
  have hF := on_pset hA (i := 4) (.slice (some ⟨wc7.heap.size, 0, none⟩) 8 8) rfl
  have sz7 : w.heap.size ≤ wc7.heap.size := t7.size
  have nb7 : wc7.heap.size ≠ tb := by omega
  have keepc : ∀ p v, w.heap.size ≤ p → wc7.cell? ⟨p, 0, none⟩ = some v → ((wc7.alloc (.cells #[.func (.func 29) #[] #[], .func (.func 30) #[] #[], .func (.func 32) #[] #[], .bool false, .func (.func 52) #[] #[.pointer (some ⟨p2, 0, none⟩)], .func (.func 27) #[] #[], Value.nilFunc, .bool true, .func (.func 35) #[] #[], Value.nilFunc, Value.nilFunc, .bool false, .func (.func 53) #[] #[.pointer (some ⟨q4, 0, none⟩)], .func (.func 27) #[] #[], Value.nilFunc, .bool true, .func (.func 52) #[] #[.pointer (some ⟨p5, 0, none⟩)], .func (.func 39) #[] #[], Value.nilFunc, .bool false, .func (.func 52) #[] #[.pointer (some ⟨p6, 0, none⟩)], .func (.func 27) #[] #[], Value.nilFunc, .bool false, .func (.func 53) #[] #[.pointer (some ⟨q7, 0, none⟩)], .func (.func 42) #[] #[], .func (.func 43) #[] #[], .bool false, .func (.func 52) #[] #[.pointer (some ⟨p8, 0, none⟩)], Value.nilFunc, Value.nilFunc, .bool true] 42 (0, 0))).setCell ⟨tb, 4, none⟩ (.slice (some ⟨wc7.heap.size, 0, none⟩) 8 8)).cell? ⟨p, 0, none⟩ = some v := fun p v hp h => by
    rw [World.cell?_setCell_other _ ⟨tb, 4, none⟩ ⟨p, 0, none⟩ _ (by simp)]
    exact (((Below.refl wc7.heap.size wc7).alloc (Nat.le_refl _) _).cell (p := ⟨p, 0, none⟩) (lt_of_cell h)).trans h
  have hLF : ((wc7.alloc (.cells #[.func (.func 29) #[] #[], .func (.func 30) #[] #[], .func (.func 32) #[] #[], .bool false, .func (.func 52) #[] #[.pointer (some ⟨p2, 0, none⟩)], .func (.func 27) #[] #[], Value.nilFunc, .bool true, .func (.func 35) #[] #[], Value.nilFunc, Value.nilFunc, .bool false, .func (.func 53) #[] #[.pointer (some ⟨q4, 0, none⟩)], .func (.func 27) #[] #[], Value.nilFunc, .bool true, .func (.func 52) #[] #[.pointer (some ⟨p5, 0, none⟩)], .func (.func 39) #[] #[], Value.nilFunc, .bool false, .func (.func 52) #[] #[.pointer (some ⟨p6, 0, none⟩)], .func (.func 27) #[] #[], Value.nilFunc, .bool false, .func (.func 53) #[] #[.pointer (some ⟨q7, 0, none⟩)], .func (.func 42) #[] #[], .func (.func 43) #[] #[], .bool false, .func (.func 52) #[] #[.pointer (some ⟨p8, 0, none⟩)], Value.nilFunc, Value.nilFunc, .bool true] 42 (0, 0))).setCell ⟨tb, 4, none⟩ (.slice (some ⟨wc7.heap.size, 0, none⟩) 8 8)).heap[wc7.heap.size]? = some (.cells #[.func (.func 29) #[] #[], .func (.func 30) #[] #[], .func (.func 32) #[] #[], .bool false, .func (.func 52) #[] #[.pointer (some ⟨p2, 0, none⟩)], .func (.func 27) #[] #[], Value.nilFunc, .bool true, .func (.func 35) #[] #[], Value.nilFunc, Value.nilFunc, .bool false, .func (.func 53) #[] #[.pointer (some ⟨q4, 0, none⟩)], .func (.func 27) #[] #[], Value.nilFunc, .bool true, .func (.func 52) #[] #[.pointer (some ⟨p5, 0, none⟩)], .func (.func 39) #[] #[], Value.nilFunc, .bool false, .func (.func 52) #[] #[.pointer (some ⟨p6, 0, none⟩)], .func (.func 27) #[] #[], Value.nilFunc, .bool false, .func (.func 53) #[] #[.pointer (some ⟨q7, 0, none⟩)], .func (.func 42) #[] #[], .func (.func 43) #[] #[], .bool false, .func (.func 52) #[] #[.pointer (some ⟨p8, 0, none⟩)], Value.nilFunc, Value.nilFunc, .bool true] 42 (0, 0)) := by
    rw [Below.heap_setCell _ _ _ _ nb7]; exact hL
  have HE := Lib.hid (And.intro hF (And.intro hLF hHeld.1.1))
  have HG := Lib.hid (And.intro (keepc _ _ z0 g0) (And.intro (keepc _ _ z1 g1) (And.intro (keepc _ _ z2 g2) (And.intro (keepc _ _ z3 g3) (And.intro (keepc _ _ z4 g4) (And.intro (keepc _ _ z5 g5) (And.intro (keepc _ _ z6 g6) (keepc _ _ z7 g7))))))))
  have HN : Hid (tb < wc7.heap.size ∧ tb < p2 ∧ tb < p4 ∧ tb < q4 ∧ tb < p5 ∧ tb < p6 ∧ tb < p7 ∧ tb < q7 ∧ tb < p8) := Lib.hid ⟨by omega, by omega, by omega, by omega, by omega, by omega, by omega, by omega, by omega⟩
  have HK : Hid (∀ b, b < w.heap.size → b ≠ tb → ((wc7.alloc (.cells #[.func (.func 29) #[] #[], .func (.func 30) #[] #[], .func (.func 32) #[] #[], .bool false, .func (.func 52) #[] #[.pointer (some ⟨p2, 0, none⟩)], .func (.func 27) #[] #[], Value.nilFunc, .bool true, .func (.func 35) #[] #[], Value.nilFunc, Value.nilFunc, .bool false, .func (.func 53) #[] #[.pointer (some ⟨q4, 0, none⟩)], .func (.func 27) #[] #[], Value.nilFunc, .bool true, .func (.func 52) #[] #[.pointer (some ⟨p5, 0, none⟩)], .func (.func 39) #[] #[], Value.nilFunc, .bool false, .func (.func 52) #[] #[.pointer (some ⟨p6, 0, none⟩)], .func (.func 27) #[] #[], Value.nilFunc, .bool false, .func (.func 53) #[] #[.pointer (some ⟨q7, 0, none⟩)], .func (.func 42) #[] #[], .func (.func 43) #[] #[], .bool false, .func (.func 52) #[] #[.pointer (some ⟨p8, 0, none⟩)], Value.nilFunc, Value.nilFunc, .bool true] 42 (0, 0))).setCell ⟨tb, 4, none⟩ (.slice (some ⟨wc7.heap.size, 0, none⟩) 8 8)).heap[b]? = w.heap[b]?) := Lib.hid fun b hb hn => by
    rw [Below.heap_setCell _ _ _ _ hn, Below.heap_alloc _ _ _ (by omega)]
    exact t7.block b hb
  clear keepc hF hLF hHeld
  go_wp2_with fail
  go_end0
  all_goals exact ⟨rfl, ⟨_, HE.out.1, _, _, _, _, _, _, _, _, _, rfl, HE.out.2.1, HN.out, HG.out⟩, HE.out.2.2, HK.out⟩
end Go.Proofs.YtpkkejcndmcbiaaGreatDoor
