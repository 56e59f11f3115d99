/- doc.sels: are selections just so many? -/
import Derived.Test.YtbejhdhhkpllfaaGreatDoorXh
set_option linter.unusedSimpArgs false
set_option linter.unusedVariables false
namespace Go.Proofs.YtbejhdhhkpllfaaGreatDoor
open Go.RowKit
theorem slg_form' {α : Type} {k : Nat} {E : Addr → α → World → Prop} {v : Value} {L : List α} {w : World} (h : SlG k E v L w) : ∃ a n c, v = .slice a n c := by
  rcases h with ⟨a, c, e, _⟩ | ⟨b, off, c, e, _⟩
  · exact ⟨_, _, _, e⟩
  · exact ⟨_, _, _, e⟩
theorem endW_all (L : List SelD) (R : Option Nat) : (endW L R == (L.length : Int)) = decide (R = some L.length) := by
  cases R with
  | none =>
    rw [Bool.eq_iff_iff, beq_iff_eq, decide_eq_true_iff]; unfold endW
    exact ⟨fun h => absurd h (by simp only; omega), fun h => by cases h⟩
  | some q =>
    rw [Bool.eq_iff_iff, beq_iff_eq, decide_eq_true_iff]; unfold endW
    exact ⟨fun h => by rw [Int.ofNat_inj.1 h], fun h => by injection h with h; rw [h]⟩
set_option maxRecDepth 100000 in
set_option maxHeartbeats 4000000 in
theorem docsels_any (L : List SelD) (v : Value) (many : Int) (w : World) (hv : SelSl v L w) (hl : L.length ≤ 100000) (hsm : ∀ x ∈ L, SelRm x) (hmm : -9223372036854775808 ≤ many ∧ many ≤ 9223372036854775807) (hE : EnvU w) (hT : EnvT w) :
    Calls Tryz.prog 12 #[v, .int .i64 many] w fun e w' => e = .returned (.bool (selsB L many)) ∧ Below w.heap.size w w' := by
  obtain ⟨sa, n, c, rfl⟩ := slg_form' hv
  have HAT := Lib.hid (selAt_of hv)
  have hn : n = L.length := HAT.out.1
  unfold selsB
  by_cases hm : 0 < many
  · rw [decide_eq_true hm, Bool.true_and, ← endW_all]
    obtain ⟨q, hq⟩ : ∃ q, endW L (runS L L.length 0 many.toNat 1) = q := ⟨_, rfl⟩
    rw [hq, ← hn]
    have HR : Hid (∀ (W : World) (bl bw : Nat), Below w.heap.size w W → W.cell? ⟨bl, 0, none⟩ = some (.slice sa n c) → W.cell? ⟨bw, 0, none⟩ = some (.func (.func 36) #[] #[.pointer (some ⟨bl, 0, none⟩), .pointer (some ⟨bw, 0, none⟩)]) → ∀ W', Below W.heap.size W W' →
        Calls Tryz.prog 36 #[.int .i64 0, .int .i64 many, .int .i64 1, .pointer (some ⟨bl, 0, none⟩), .pointer (some ⟨bw, 0, none⟩)] W' fun e w' => e = .returned (.int .i64 q) ∧ Below W'.heap.size W' w') := Lib.hid fun W bl bw hW h1 h2 W' hW' => by
      have hr : ((many.toNat : Nat) : Int) = many := by omega
      have := dwalk_any L sa n c bl bw W (selAt_of (SelSl.below hv hW)) hsm hl (hE.below hW) (hT.stays hW) h1 h2 L.length 0 many.toNat 1 W' (Nat.zero_le _) (by omega) (by omega) (by omega) (by omega) hW'
      rw [hr, hq] at this
      exact this
    obtain ⟨tE, htE⟩ : ∃ t, (q == (n : Int)) = t := ⟨_, rfl⟩
    rw [htE]
    have ew := dw_ent
    clear hv hsm hE hT hl hn hq
    go_enter Tryz.func12, Tryz.ntmps12
    go_upto_region 3 with fail
    obtain ⟨w2, hw2⟩ : ∃ w2, (w.alloc (.cells #[.slice sa n c] 33 (0, 0))).alloc (.cells #[.func (.func 36) #[] #[.pointer (some ⟨w.heap.size, 0, none⟩), .pointer (some ⟨w.heap.size + 1, 0, none⟩)]] 74 (0, 0)) = w2 := ⟨_, rfl⟩
    have HB2 : Hid (Below w.heap.size w w2) := Lib.hid (by rw [← hw2]; exact ((Below.refl _ _).alloc (Nat.le_refl _) _).alloc (by simp) _)
    have k0 : w2.heap[w.heap.size]? = some (.cells #[.slice sa n c] 33 (0, 0)) := by rw [← hw2]; exact heap_old (heap_new _ _ _ rfl)
    have k1 : w2.heap[w.heap.size + 1]? = some (.cells #[.func (.func 36) #[] #[.pointer (some ⟨w.heap.size, 0, none⟩), .pointer (some ⟨w.heap.size + 1, 0, none⟩)]] 74 (0, 0)) := by rw [← hw2]; exact heap_new _ _ _ (by simp)
    have f0 : w2.cell? ⟨w.heap.size, 0, none⟩ = some (.slice sa n c) := (Lib.cell_of_heap k0 0).trans rfl
    have f1 : w2.cell? ⟨w.heap.size + 1, 0, none⟩ = some (.func (.func 36) #[] #[.pointer (some ⟨w.heap.size, 0, none⟩), .pointer (some ⟨w.heap.size + 1, 0, none⟩)]) := (Lib.cell_of_heap k1 0).trans rfl
    try rw [hw2]
    clear hw2 k0 k1
    obtain ⟨lb, hlb⟩ : ∃ lb, w.heap.size = lb := ⟨_, rfl⟩
    obtain ⟨fb, hfb⟩ : ∃ fb, w.heap.size + 1 = fb := ⟨_, rfl⟩
    rw [hfb] at f1
    rw [hlb] at f0 f1
    try rw [hfb]
    try rw [hlb]
    clear hlb hfb
    have HR2 := Lib.hid (HR.out w2 lb fb HB2.out f0 f1)
    clear HR
    refine wp_region_held_drew (S := fun W => Below w2.heap.size w2 W ∧ W.cell? ⟨lb, 0, none⟩ = some (.slice sa n c) ∧ W.cell? ⟨fb, 0, none⟩ = some (.func (.func 36) #[] #[.pointer (some ⟨lb, 0, none⟩), .pointer (some ⟨fb, 0, none⟩)])) (by kernel_rfl) (⟨⟨rfl, rfl, rfl, Nat.le_refl _, fun _ _ => rfl⟩, f0, f1⟩) (fun hHeld => ?_)
    refine tky 0 (some 7) (v := ?_) rfl (by kernel_rfl) (by kernel_rfl) (by kernel_rfl) (fun _ _ _ h => h) ?_ hHeld ?_
    rotate_left
    focus (intro w hSw; (try dsimp only at hSw); go_simp; (try with_reducible rfl); done)
    simp only [Act.put, List.setIfInBounds_toArray, List.set_cons_zero, List.set_cons_succ]
    refine tky 1 (some 8) (v := ?_) rfl (by kernel_rfl) (by kernel_rfl) (by kernel_rfl) (fun _ _ _ h => h) ?_ hHeld ?_
    rotate_left
    focus (intro w hSw; (try dsimp only at hSw); go_simp; (try with_reducible rfl); done)
    simp only [Act.put, List.setIfInBounds_toArray, List.set_cons_zero, List.set_cons_succ]
    refine tky 2 (some 9) (v := ?_) rfl (by kernel_rfl) (by kernel_rfl) (by kernel_rfl) (fun _ _ _ h => h) ?_ hHeld ?_
    rotate_left
    focus (intro w hSw; (try dsimp only at hSw); go_simp; (try with_reducible rfl); done)
    simp only [Act.put, List.setIfInBounds_toArray, List.set_cons_zero, List.set_cons_succ]
    refine tky 3 (some 10) (v := ?_) rfl (by kernel_rfl) (by kernel_rfl) (by kernel_rfl) (fun _ _ _ h => h) ?_ hHeld ?_
    rotate_left
    focus (intro w hSw; (try dsimp only at hSw); go_simp; (try with_reducible rfl); done)
    simp only [Act.put, List.setIfInBounds_toArray, List.set_cons_zero, List.set_cons_succ]
    refine tky 4 (some 11) (v := ?_) rfl (by kernel_rfl) (by kernel_rfl) (by kernel_rfl) (fun _ _ _ h => h) ?_ hHeld ?_
    rotate_left
    focus (intro w hSw; (try dsimp only at hSw); go_simp; (try with_reducible rfl); done)
    simp only [Act.put, List.setIfInBounds_toArray, List.set_cons_zero, List.set_cons_succ]
    refine tky 6 (some 13) (v := ?_) rfl (by kernel_rfl) (by kernel_rfl) (by kernel_rfl) (fun _ _ _ h => h) ?_ hHeld ?_
    rotate_left
    focus (intro w hSw; (try dsimp only at hSw); go_simp; (try with_reducible rfl); done)
    simp only [Act.put, List.setIfInBounds_toArray, List.set_cons_zero, List.set_cons_succ]
    refine tky 7 (some 14) (v := ?_) rfl (by kernel_rfl) (by kernel_rfl) (by kernel_rfl) (fun _ _ _ h => h) ?_ hHeld ?_
    rotate_left
    focus (intro w hSw; (try dsimp only at hSw); go_simp; (try with_reducible rfl); done)
    simp only [Act.put, List.setIfInBounds_toArray, List.set_cons_zero, List.set_cons_succ]
    refine rcons 5 rfl (by kernel_rfl) (fun K hK => ?_)
    go_simp
    refine (HR2.out _ hHeld.1).mono ?_; rintro e w5 ⟨rfl, hb⟩
    (try dsimp only)
    refine hK.out _ _ (⟨hHeld.1.trans (hb.mono hHeld.1.size), (hb.cell (p := ⟨_, _, none⟩) (lt_of_cell hHeld.2.1)).trans hHeld.2.1, (hb.cell (p := ⟨_, _, none⟩) (lt_of_cell hHeld.2.2)).trans hHeld.2.2⟩) (fun hHeld2 => ?_)
    clear hK K hHeld
    have hHeld := hHeld2
    clear hHeld2
    (try simp only [Act.put, List.setIfInBounds_toArray, List.set_cons_zero, List.set_cons_succ])
    refine tky 8 (some 15) (v := ?_) rfl (by kernel_rfl) (by kernel_rfl) (by kernel_rfl) (fun _ _ _ h => h) ?_ hHeld ?_
    rotate_left
    focus (intro w hSw; (try dsimp only at hSw); go_simp; (try with_reducible rfl); done)
    simp only [Act.put, List.setIfInBounds_toArray, List.set_cons_zero, List.set_cons_succ]
    refine tky 9 (some 16) (v := ?_) rfl (by kernel_rfl) (by kernel_rfl) (by kernel_rfl) (fun _ _ _ h => h) ?_ hHeld ?_
    rotate_left
    focus (intro w hSw; (try dsimp only at hSw); go_simp; (try with_reducible rfl); done)
    simp only [Act.put, List.setIfInBounds_toArray, List.set_cons_zero, List.set_cons_succ]
    refine tky 10 (some 4) (v := ?_) rfl (by kernel_rfl) (by kernel_rfl) (by kernel_rfl) (fun _ _ _ h => h) ?_ hHeld ?_
    rotate_left
    focus (intro w hSw; (try dsimp only at hSw); go_simp; (try with_reducible rfl); done)
    simp only [Act.put, List.setIfInBounds_toArray, List.set_cons_zero, List.set_cons_succ]
    refine wpAnyH_done (by kernel_rfl) ?_ _
    have HBN := Lib.hid (HB2.out.trans (hHeld.1.mono HB2.out.size))
    go_wp2_with fail
    go_ret
    exact ⟨rfl, HBN.out⟩
  · rw [decide_eq_false hm, Bool.false_and]
    have hmf : decide (0 < many) = false := decide_eq_false hm
    clear hv hsm hE hT hl hn
    go_enter Tryz.func12, Tryz.ntmps12
    go_upto_region 3 with fail
    obtain ⟨w2, hw2⟩ : ∃ w2, (w.alloc (.cells #[.slice sa n c] 33 (0, 0))).alloc (.cells #[.func (.func 36) #[] #[.pointer (some ⟨w.heap.size, 0, none⟩), .pointer (some ⟨w.heap.size + 1, 0, none⟩)]] 74 (0, 0)) = w2 := ⟨_, rfl⟩
    have HB2 : Hid (Below w.heap.size w w2) := Lib.hid (by rw [← hw2]; exact ((Below.refl _ _).alloc (Nat.le_refl _) _).alloc (by simp) _)
    have k0 : w2.heap[w.heap.size]? = some (.cells #[.slice sa n c] 33 (0, 0)) := by rw [← hw2]; exact heap_old (heap_new _ _ _ rfl)
    have k1 : w2.heap[w.heap.size + 1]? = some (.cells #[.func (.func 36) #[] #[.pointer (some ⟨w.heap.size, 0, none⟩), .pointer (some ⟨w.heap.size + 1, 0, none⟩)]] 74 (0, 0)) := by rw [← hw2]; exact heap_new _ _ _ (by simp)
    have f0 : w2.cell? ⟨w.heap.size, 0, none⟩ = some (.slice sa n c) := (Lib.cell_of_heap k0 0).trans rfl
    have f1 : w2.cell? ⟨w.heap.size + 1, 0, none⟩ = some (.func (.func 36) #[] #[.pointer (some ⟨w.heap.size, 0, none⟩), .pointer (some ⟨w.heap.size + 1, 0, none⟩)]) := (Lib.cell_of_heap k1 0).trans rfl
    try rw [hw2]
    clear hw2 k0 k1
    obtain ⟨lb, hlb⟩ : ∃ lb, w.heap.size = lb := ⟨_, rfl⟩
    obtain ⟨fb, hfb⟩ : ∃ fb, w.heap.size + 1 = fb := ⟨_, rfl⟩
    rw [hfb] at f1
    rw [hlb] at f0 f1
    try rw [hfb]
    try rw [hlb]
    clear hlb hfb
    refine wp_region_held_drew (S := fun W => Below w2.heap.size w2 W ∧ W.cell? ⟨lb, 0, none⟩ = some (.slice sa n c) ∧ W.cell? ⟨fb, 0, none⟩ = some (.func (.func 36) #[] #[.pointer (some ⟨lb, 0, none⟩), .pointer (some ⟨fb, 0, none⟩)])) (by kernel_rfl) (⟨⟨rfl, rfl, rfl, Nat.le_refl _, fun _ _ => rfl⟩, f0, f1⟩) (fun hHeld => ?_)
    refine tky 0 (some 7) (v := ?_) rfl (by kernel_rfl) (by kernel_rfl) (by kernel_rfl) (fun _ _ _ h => h) ?_ hHeld ?_
    rotate_left
    focus (intro w hSw; (try dsimp only at hSw); go_simp; (try with_reducible rfl); done)
    simp only [Act.put, List.setIfInBounds_toArray, List.set_cons_zero, List.set_cons_succ]
    refine tky 1 (some 8) (v := ?_) rfl (by kernel_rfl) (by kernel_rfl) (by kernel_rfl) (fun _ _ _ h => h) ?_ hHeld ?_
    rotate_left
    focus (intro w hSw; (try dsimp only at hSw); go_simp; (try with_reducible rfl); done)
    simp only [Act.put, List.setIfInBounds_toArray, List.set_cons_zero, List.set_cons_succ]
    refine tky 2 (some 9) (v := ?_) rfl (by kernel_rfl) (by kernel_rfl) (by kernel_rfl) (fun _ _ _ h => h) ?_ hHeld ?_
    rotate_left
    focus (intro w hSw; (try dsimp only at hSw); go_simp; (try with_reducible rfl); done)
    simp only [Act.put, List.setIfInBounds_toArray, List.set_cons_zero, List.set_cons_succ]
    refine tkn 3 (some 10) rfl (by kernel_rfl) (by kernel_rfl) (by kernel_rfl) (fun _ _ _ h => h) hHeld ?_
    simp only [Act.put, List.setIfInBounds_toArray, List.set_cons_zero, List.set_cons_succ]
    refine tkn 4 (some 11) rfl (by kernel_rfl) (by kernel_rfl) (by kernel_rfl) (fun _ _ _ h => h) hHeld ?_
    simp only [Act.put, List.setIfInBounds_toArray, List.set_cons_zero, List.set_cons_succ]
    refine tkn 5 (some 12) rfl (by kernel_rfl) (by kernel_rfl) (by kernel_rfl) (fun _ _ _ h => h) hHeld ?_
    simp only [Act.put, List.setIfInBounds_toArray, List.set_cons_zero, List.set_cons_succ]
    refine tkn 6 (some 13) rfl (by kernel_rfl) (by kernel_rfl) (by kernel_rfl) (fun _ _ _ h => h) hHeld ?_
    simp only [Act.put, List.setIfInBounds_toArray, List.set_cons_zero, List.set_cons_succ]
    refine tkn 7 (some 14) rfl (by kernel_rfl) (by kernel_rfl) (by kernel_rfl) (fun _ _ _ h => h) hHeld ?_
    simp only [Act.put, List.setIfInBounds_toArray, List.set_cons_zero, List.set_cons_succ]
    refine tkn 8 (some 15) rfl (by kernel_rfl) (by kernel_rfl) (by kernel_rfl) (fun _ _ _ h => h) hHeld ?_
    simp only [Act.put, List.setIfInBounds_toArray, List.set_cons_zero, List.set_cons_succ]
    refine tky 9 (some 16) (v := ?_) rfl (by kernel_rfl) (by kernel_rfl) (by kernel_rfl) (fun _ _ _ h => h) ?_ hHeld ?_
    rotate_left
    focus (intro w hSw; (try dsimp only at hSw); go_simp; (try with_reducible rfl); done)
    simp only [Act.put, List.setIfInBounds_toArray, List.set_cons_zero, List.set_cons_succ]
    refine tky 10 (some 4) (v := ?_) rfl (by kernel_rfl) (by kernel_rfl) (by kernel_rfl) (fun _ _ _ h => h) ?_ hHeld ?_
    rotate_left
    focus (intro w hSw; (try dsimp only at hSw); go_simp; (try with_reducible rfl); done)
    simp only [Act.put, List.setIfInBounds_toArray, List.set_cons_zero, List.set_cons_succ]
    refine wpAnyH_done (by kernel_rfl) ?_ _
    have HBN := Lib.hid (HB2.out.trans (hHeld.1.mono HB2.out.size))
    go_wp2_with fail
    go_ret
    exact ⟨rfl, HBN.out⟩
end Go.Proofs.YtbejhdhhkpllfaaGreatDoor
