/- The walk through Canon (address), over its callees' contracts: under way. -/
import Derived.Test.YtcocjmbhbddgiaaGreatDoorBd
set_option linter.unusedSimpArgs false
set_option linter.unusedVariables false
namespace Go.Proofs.YtcocjmbhbddgiaaGreatDoor
open Go.RowKit
set_option maxRecDepth 100000 in
theorem canon_no (s : ByteArray) (H1 : Hid (Does 5 #[.string s] (.tuple #[zeroA, .int .i64 150]))) (w : World) :
    Calls Tryz.prog 7 #[.string s] w fun e w' => e = .returned (.tuple #[.string ⟨#[]⟩, .int .i64 150]) ∧ Below w.heap.size w w' := by
  unfold zeroA at H1
  go_enter Tryz.func7, Tryz.ntmps7
  go_wp2_with fail
  refine (H1.out _).mono ?_; rintro e w1 ⟨rfl, hb1⟩
  go_wp2_with fail
  go_ret2
  refine ⟨rfl, ?_⟩
  exact hb1.alloc hb1.size _
theorem acons {P : Program} {ops : Array Oper} {Q : Exit → Act → World → Prop} {md : Region.Mode} {S : World → Prop} (i : Nat) {fuel : Nat} {listed : Array Bool} {a : Act} {w : World} {o : Oper} {rs : List Nat} (ho : ops.toList[i]? = some o)
    (h : ∀ K' : Act → World → Prop, Shut (∀ a w, S w → (S w → wpAnyH P md ops Q S fuel (listed.setIfInBounds i true) a w) → K' a w) → if Region.wanted o (yielded ops a.tmps) = true then Oper.wp P o a w K' Q else K' (a.put o.dst undef) w)
    (hs : AllReadyH P md ops Q S fuel listed a w rs) : AllReadyH P md ops Q S fuel listed a w (i :: rs) :=
  AllReadyH.cons (by rw [← Array.getElem?_toList]; exact ho) h hs
/-- The own block holds these cells, and nothing older has turned. -/
def CK (w : World) (b : Nat) (A : Array Value) (W : World) : Prop := W.heap[b]? = some (.cells A 23 (0, 0)) ∧ w.heap.size ≤ W.heap.size ∧ w.heap.size ≤ b ∧ Below w.heap.size w W
theorem CK.below {w W w1 : World} {b : Nat} {A : Array Value} (h : CK w b A W) (hb : Below W.heap.size W w1) : CK w b A w1 :=
  ⟨(hb.block b (Array.getElem?_eq_some_iff.1 h.1).1).trans h.1, Nat.le_trans h.2.1 hb.size, h.2.2.1, h.2.2.2.trans (hb.mono h.2.1)⟩
theorem CK.drew {w W : World} {b : Nat} {A : Array Value} (h : CK w b A W) : CK w b A W.drew := ⟨h.1, h.2.1, h.2.2.1, h.2.2.2.drew⟩
theorem CK.set {w W : World} {b i : Nat} {A A' : Array Value} (h : CK w b A W) (v : Value) (hA : A.setIfInBounds i v = A') : CK w b A' (W.setCell ⟨b, i, none⟩ v) :=
  ⟨pset h.1 v hA, by simpa [World.setCell] using h.2.1, h.2.2.1, h.2.2.2.setCell (p := ⟨b, i, none⟩) h.2.2.1 v⟩
set_option maxRecDepth 100000 in
set_option maxHeartbeats 4000000 in
theorem canon_go (s sc us ho po pa qu sc2 us2 ho2 pa2 qu2 tx : ByteArray) (hu hq : Bool) (H1 : Hid (Does 5 #[.string s] (.tuple #[.agg #[.string sc, .string us, .string ho, .string po, .string pa, .string qu, .bool hu, .bool hq], .int .i64 0])))
    (L1 : Hid (Does 19 #[.string sc, .func (.func 20) #[] #[]] (.string sc2))) (L2 : Hid (Does 19 #[.string ho, .func (.func 20) #[] #[]] (.string ho2))) (K1 : Hid (Does 19 #[.string us, .func (.func 18) #[] #[]] (.string us2))) (K2 : Hid (Does 19 #[.string pa, .func (.func 18) #[] #[]] (.string pa2))) (K3 : Hid (Does 19 #[.string qu, .func (.func 18) #[] #[]] (.string qu2)))
    (HT : Hid (Does 21 #[.agg #[.string sc2, .string us2, .string ho2, .string po, .string pa2, .string qu2, .bool hu, .bool hq]] (.string tx))) (w : World) :
    Calls Tryz.prog 7 #[.string s] w fun e w' => e = .returned (.tuple #[.string tx, .int .i64 0]) ∧ Below w.heap.size w w' := by
  go_enter Tryz.func7, Tryz.ntmps7
  go_wp2_with fail
  refine (H1.out _).mono ?_; rintro e w1 ⟨rfl, hb1⟩
  go_wp2_with fail
  have ck : CK w w1.heap.size #[.string sc, .string us, .string ho, .string po, .string pa, .string qu, .bool hu, .bool hq] (w1.alloc (.cells #[.string sc, .string us, .string ho, .string po, .string pa, .string qu, .bool hu, .bool hq] 23)) := ⟨heap_alloc_new w1 _, by have := hb1.size; simp; omega, hb1.size, hb1.alloc hb1.size _⟩
  generalize w1.alloc (.cells #[.string sc, .string us, .string ho, .string po, .string pa, .string qu, .bool hu, .bool hq] 23) = W at *
  generalize w1.heap.size = b at *
  obtain ⟨⟨c0, c1, c2, c3, c4, c5, c6, c7⟩, ⟨g0, g1, g2, g3, g4, g5, g6, g7⟩, hz⟩ := pcells ck.1
  go_upto_region 6 with fail
  go_cut [17] (fun s17 wx => CK w b #[.string sc2, .string us, .string ho2, .string po, .string pa, .string qu, .bool hu, .bool hq] wx)
  case first =>
    refine wp_region_held_drew (S := fun _ => True) (by kernel_rfl) trivial (fun hHeld => ?_)
    refine tky 0 (some 15) (v := ?_) rfl (by kernel_rfl) (by kernel_rfl) (by kernel_rfl) (fun _ _ _ h => h) ?_ hHeld ?_
    rotate_left
    focus (intro w hSw; go_simp; (try with_reducible rfl); done)
    simp only [Act.put, List.setIfInBounds_toArray, List.set_cons_zero, List.set_cons_succ]
    refine tky 3 (some 18) (v := ?_) rfl (by kernel_rfl) (by kernel_rfl) (by kernel_rfl) (fun _ _ _ h => h) ?_ hHeld ?_
    rotate_left
    focus (intro w hSw; go_simp; (try with_reducible rfl); done)
    simp only [Act.put, List.setIfInBounds_toArray, List.set_cons_zero, List.set_cons_succ]
    refine wpAnyH_ready (rs := [1, 4]) (by kernel_rfl) (by simp) ?_
    refine acons 1 rfl (fun K hK => ?_) ?_
    · go_simp
      refine hK.out _ _ trivial (fun _ => ?_)
      clear hK K
      (try simp only [Act.put, List.setIfInBounds_toArray, List.set_cons_zero, List.set_cons_succ])
      refine wpAnyH_ready (rs := [2, 4]) (by kernel_rfl) (by simp) ?_
      refine acons 2 rfl (fun K hK => ?_) ?_
      · go_simp
        refine (L1.out _).mono ?_; rintro e w2 ⟨rfl, hb⟩
        (try dsimp only)
        refine hK.out _ _ trivial (fun _ => ?_)
        clear hK K
        (try simp only [Act.put, List.setIfInBounds_toArray, List.set_cons_zero, List.set_cons_succ])
        have ck2 := (by first | exact CK.below ck hb | exact CK.below (CK.drew ck) hb : CK w b _ w2)
        clear ck hb c0 c1 c2 c3 c4 c5 c6 c7 g0 g1 g2 g3 g4 g5 g6 g7 hz
        have ck := ck2
        clear ck2
        obtain ⟨⟨c0, c1, c2, c3, c4, c5, c6, c7⟩, ⟨g0, g1, g2, g3, g4, g5, g6, g7⟩, hz⟩ := pcells ck.1
        refine rcons 4 rfl (by kernel_rfl) (fun K hK => ?_)
        go_simp
        refine hK.out _ _ trivial (fun _ => ?_)
        clear hK K
        (try simp only [Act.put, List.setIfInBounds_toArray, List.set_cons_zero, List.set_cons_succ])
        refine tky 6 (some 21) (v := ?_) rfl (by kernel_rfl) (by kernel_rfl) (by kernel_rfl) (fun _ _ _ h => h) ?_ hHeld ?_
        rotate_left
        focus (intro w hSw; go_simp; (try with_reducible rfl); done)
        simp only [Act.put, List.setIfInBounds_toArray, List.set_cons_zero, List.set_cons_succ]
        refine rcons 5 rfl (by kernel_rfl) (fun K hK => ?_)
        go_simp
        refine (L2.out _).mono ?_; rintro e w2 ⟨rfl, hb⟩
        (try dsimp only)
        refine hK.out _ _ trivial (fun _ => ?_)
        clear hK K
        (try simp only [Act.put, List.setIfInBounds_toArray, List.set_cons_zero, List.set_cons_succ])
        have ck2 := (by first | exact CK.below ck hb | exact CK.below (CK.drew ck) hb : CK w b _ w2)
        clear ck hb c0 c1 c2 c3 c4 c5 c6 c7 g0 g1 g2 g3 g4 g5 g6 g7 hz
        have ck := ck2
        clear ck2
        obtain ⟨⟨c0, c1, c2, c3, c4, c5, c6, c7⟩, ⟨g0, g1, g2, g3, g4, g5, g6, g7⟩, hz⟩ := pcells ck.1
        refine rcons 7 rfl (by kernel_rfl) (fun K hK => ?_)
        go_simp
        refine hK.out _ _ trivial (fun _ => ?_)
        clear hK K
        (try simp only [Act.put, List.setIfInBounds_toArray, List.set_cons_zero, List.set_cons_succ])
        refine tky 8 (some 22) (v := ?_) rfl (by kernel_rfl) (by kernel_rfl) (by kernel_rfl) (fun _ _ _ h => h) ?_ hHeld ?_
        rotate_left
        focus (intro w hSw; go_simp; (try with_reducible rfl); done)
        simp only [Act.put, List.setIfInBounds_toArray, List.set_cons_zero, List.set_cons_succ]
        refine rcons 9 rfl (by kernel_rfl) (fun K hK => ?_)
        go_simp
        refine hK.out _ _ trivial (fun _ => ?_)
        clear hK K
        (try simp only [Act.put, List.setIfInBounds_toArray, List.set_cons_zero, List.set_cons_succ])
        refine wpAnyH_done (by kernel_rfl) ?_ _
        go_wp2_with fail
        go_meet
        exact (ck.set (i := 0) (.string sc2) rfl).set (i := 2) (.string ho2) rfl
      refine acons 4 rfl (fun K hK => ?_) ?_
      · go_simp
        refine hK.out _ _ trivial (fun _ => ?_)
        clear hK K
        (try simp only [Act.put, List.setIfInBounds_toArray, List.set_cons_zero, List.set_cons_succ])
        refine rcons 2 rfl (by kernel_rfl) (fun K hK => ?_)
        go_simp
        refine (L1.out _).mono ?_; rintro e w2 ⟨rfl, hb⟩
        (try dsimp only)
        refine hK.out _ _ trivial (fun _ => ?_)
        clear hK K
        (try simp only [Act.put, List.setIfInBounds_toArray, List.set_cons_zero, List.set_cons_succ])
        have ck2 := (by first | exact CK.below ck hb | exact CK.below (CK.drew ck) hb : CK w b _ w2)
        clear ck hb c0 c1 c2 c3 c4 c5 c6 c7 g0 g1 g2 g3 g4 g5 g6 g7 hz
        have ck := ck2
        clear ck2
        obtain ⟨⟨c0, c1, c2, c3, c4, c5, c6, c7⟩, ⟨g0, g1, g2, g3, g4, g5, g6, g7⟩, hz⟩ := pcells ck.1
        refine tky 6 (some 21) (v := ?_) rfl (by kernel_rfl) (by kernel_rfl) (by kernel_rfl) (fun _ _ _ h => h) ?_ hHeld ?_
        rotate_left
        focus (intro w hSw; go_simp; (try with_reducible rfl); done)
        simp only [Act.put, List.setIfInBounds_toArray, List.set_cons_zero, List.set_cons_succ]
        refine rcons 5 rfl (by kernel_rfl) (fun K hK => ?_)
        go_simp
        refine (L2.out _).mono ?_; rintro e w2 ⟨rfl, hb⟩
        (try dsimp only)
        refine hK.out _ _ trivial (fun _ => ?_)
        clear hK K
        (try simp only [Act.put, List.setIfInBounds_toArray, List.set_cons_zero, List.set_cons_succ])
        have ck2 := (by first | exact CK.below ck hb | exact CK.below (CK.drew ck) hb : CK w b _ w2)
        clear ck hb c0 c1 c2 c3 c4 c5 c6 c7 g0 g1 g2 g3 g4 g5 g6 g7 hz
        have ck := ck2
        clear ck2
        obtain ⟨⟨c0, c1, c2, c3, c4, c5, c6, c7⟩, ⟨g0, g1, g2, g3, g4, g5, g6, g7⟩, hz⟩ := pcells ck.1
        refine rcons 7 rfl (by kernel_rfl) (fun K hK => ?_)
        go_simp
        refine hK.out _ _ trivial (fun _ => ?_)
        clear hK K
        (try simp only [Act.put, List.setIfInBounds_toArray, List.set_cons_zero, List.set_cons_succ])
        refine tky 8 (some 22) (v := ?_) rfl (by kernel_rfl) (by kernel_rfl) (by kernel_rfl) (fun _ _ _ h => h) ?_ hHeld ?_
        rotate_left
        focus (intro w hSw; go_simp; (try with_reducible rfl); done)
        simp only [Act.put, List.setIfInBounds_toArray, List.set_cons_zero, List.set_cons_succ]
        refine rcons 9 rfl (by kernel_rfl) (fun K hK => ?_)
        go_simp
        refine hK.out _ _ trivial (fun _ => ?_)
        clear hK K
        (try simp only [Act.put, List.setIfInBounds_toArray, List.set_cons_zero, List.set_cons_succ])
        refine wpAnyH_done (by kernel_rfl) ?_ _
        go_wp2_with fail
        go_meet
        exact (ck.set (i := 0) (.string sc2) rfl).set (i := 2) (.string ho2) rfl
      exact AllReadyH.nil
    refine acons 4 rfl (fun K hK => ?_) ?_
    · go_simp
      refine hK.out _ _ trivial (fun _ => ?_)
      clear hK K
      (try simp only [Act.put, List.setIfInBounds_toArray, List.set_cons_zero, List.set_cons_succ])
      refine rcons 1 rfl (by kernel_rfl) (fun K hK => ?_)
      go_simp
      refine hK.out _ _ trivial (fun _ => ?_)
      clear hK K
      (try simp only [Act.put, List.setIfInBounds_toArray, List.set_cons_zero, List.set_cons_succ])
      refine rcons 2 rfl (by kernel_rfl) (fun K hK => ?_)
      go_simp
      refine (L1.out _).mono ?_; rintro e w2 ⟨rfl, hb⟩
      (try dsimp only)
      refine hK.out _ _ trivial (fun _ => ?_)
      clear hK K
      (try simp only [Act.put, List.setIfInBounds_toArray, List.set_cons_zero, List.set_cons_succ])
      have ck2 := (by first | exact CK.below ck hb | exact CK.below (CK.drew ck) hb : CK w b _ w2)
      clear ck hb c0 c1 c2 c3 c4 c5 c6 c7 g0 g1 g2 g3 g4 g5 g6 g7 hz
      have ck := ck2
      clear ck2
      obtain ⟨⟨c0, c1, c2, c3, c4, c5, c6, c7⟩, ⟨g0, g1, g2, g3, g4, g5, g6, g7⟩, hz⟩ := pcells ck.1
      refine tky 6 (some 21) (v := ?_) rfl (by kernel_rfl) (by kernel_rfl) (by kernel_rfl) (fun _ _ _ h => h) ?_ hHeld ?_
      rotate_left
      focus (intro w hSw; go_simp; (try with_reducible rfl); done)
      simp only [Act.put, List.setIfInBounds_toArray, List.set_cons_zero, List.set_cons_succ]
      refine rcons 5 rfl (by kernel_rfl) (fun K hK => ?_)
      go_simp
      refine (L2.out _).mono ?_; rintro e w2 ⟨rfl, hb⟩
      (try dsimp only)
      refine hK.out _ _ trivial (fun _ => ?_)
      clear hK K
      (try simp only [Act.put, List.setIfInBounds_toArray, List.set_cons_zero, List.set_cons_succ])
      have ck2 := (by first | exact CK.below ck hb | exact CK.below (CK.drew ck) hb : CK w b _ w2)
      clear ck hb c0 c1 c2 c3 c4 c5 c6 c7 g0 g1 g2 g3 g4 g5 g6 g7 hz
      have ck := ck2
      clear ck2
      obtain ⟨⟨c0, c1, c2, c3, c4, c5, c6, c7⟩, ⟨g0, g1, g2, g3, g4, g5, g6, g7⟩, hz⟩ := pcells ck.1
      refine rcons 7 rfl (by kernel_rfl) (fun K hK => ?_)
      go_simp
      refine hK.out _ _ trivial (fun _ => ?_)
      clear hK K
      (try simp only [Act.put, List.setIfInBounds_toArray, List.set_cons_zero, List.set_cons_succ])
      refine tky 8 (some 22) (v := ?_) rfl (by kernel_rfl) (by kernel_rfl) (by kernel_rfl) (fun _ _ _ h => h) ?_ hHeld ?_
      rotate_left
      focus (intro w hSw; go_simp; (try with_reducible rfl); done)
      simp only [Act.put, List.setIfInBounds_toArray, List.set_cons_zero, List.set_cons_succ]
      refine rcons 9 rfl (by kernel_rfl) (fun K hK => ?_)
      go_simp
      refine hK.out _ _ trivial (fun _ => ?_)
      clear hK K
      (try simp only [Act.put, List.setIfInBounds_toArray, List.set_cons_zero, List.set_cons_succ])
      refine wpAnyH_done (by kernel_rfl) ?_ _
      go_wp2_with fail
      go_meet
      exact (ck.set (i := 0) (.string sc2) rfl).set (i := 2) (.string ho2) rfl
    exact AllReadyH.nil
  case rest =>
    clear ck c0 c1 c2 c3 c4 c5 c6 c7 g0 g1 g2 g3 g4 g5 g6 g7 hz
    rename World => wc
    have ck := hcut
    clear hcut
    obtain ⟨⟨c0, c1, c2, c3, c4, c5, c6, c7⟩, ⟨g0, g1, g2, g3, g4, g5, g6, g7⟩, hz⟩ := pcells ck.1
    go_upto_region 7 with fail
    go_cut [26] (fun s26 wx => CK w b #[.string sc2, .string us2, .string ho2, .string po, .string pa2, .string qu2, .bool hu, .bool hq] wx)
    case first =>
      refine wp_region_held_drew (S := fun _ => True) (by kernel_rfl) trivial (fun hHeld => ?_)
      refine tky 0 (some 23) (v := ?_) rfl (by kernel_rfl) (by kernel_rfl) (by kernel_rfl) (fun _ _ _ h => h) ?_ hHeld ?_
      rotate_left
      focus (intro w hSw; go_simp; (try with_reducible rfl); done)
      simp only [Act.put, List.setIfInBounds_toArray, List.set_cons_zero, List.set_cons_succ]
      refine tky 2 (some 25) (v := ?_) rfl (by kernel_rfl) (by kernel_rfl) (by kernel_rfl) (fun _ _ _ h => h) ?_ hHeld ?_
      rotate_left
      focus (intro w hSw; go_simp; (try with_reducible rfl); done)
      simp only [Act.put, List.setIfInBounds_toArray, List.set_cons_zero, List.set_cons_succ]
      refine tky 4 (some 27) (v := ?_) rfl (by kernel_rfl) (by kernel_rfl) (by kernel_rfl) (fun _ _ _ h => h) ?_ hHeld ?_
      rotate_left
      focus (intro w hSw; go_simp; (try with_reducible rfl); done)
      simp only [Act.put, List.setIfInBounds_toArray, List.set_cons_zero, List.set_cons_succ]
      refine tky 6 (some 29) (v := ?_) rfl (by kernel_rfl) (by kernel_rfl) (by kernel_rfl) (fun _ _ _ h => h) ?_ hHeld ?_
      rotate_left
      focus (intro w hSw; go_simp; (try with_reducible rfl); done)
      simp only [Act.put, List.setIfInBounds_toArray, List.set_cons_zero, List.set_cons_succ]
      refine tky 8 (some 31) (v := ?_) rfl (by kernel_rfl) (by kernel_rfl) (by kernel_rfl) (fun _ _ _ h => h) ?_ hHeld ?_
      rotate_left
      focus (intro w hSw; go_simp; (try with_reducible rfl); done)
      simp only [Act.put, List.setIfInBounds_toArray, List.set_cons_zero, List.set_cons_succ]
      refine tky 10 (some 33) (v := ?_) rfl (by kernel_rfl) (by kernel_rfl) (by kernel_rfl) (fun _ _ _ h => h) ?_ hHeld ?_
      rotate_left
      focus (intro w hSw; go_simp; (try with_reducible rfl); done)
      simp only [Act.put, List.setIfInBounds_toArray, List.set_cons_zero, List.set_cons_succ]
      refine wpAnyH_ready (rs := [1, 5, 9]) (by kernel_rfl) (by simp) ?_
      refine acons 1 rfl (fun K hK => ?_) ?_
      · go_simp
        refine hK.out _ _ trivial (fun _ => ?_)
        clear hK K
        (try simp only [Act.put, List.setIfInBounds_toArray, List.set_cons_zero, List.set_cons_succ])
        refine wpAnyH_ready (rs := [3, 5, 9]) (by kernel_rfl) (by simp) ?_
        refine acons 3 rfl (fun K hK => ?_) ?_
        · go_simp
          refine (K1.out _).mono ?_; rintro e w2 ⟨rfl, hb⟩
          (try dsimp only)
          refine hK.out _ _ trivial (fun _ => ?_)
          clear hK K
          (try simp only [Act.put, List.setIfInBounds_toArray, List.set_cons_zero, List.set_cons_succ])
          have ck2 := (by first | exact CK.below ck hb | exact CK.below (CK.drew ck) hb : CK w b _ w2)
          clear ck hb c0 c1 c2 c3 c4 c5 c6 c7 g0 g1 g2 g3 g4 g5 g6 g7 hz
          have ck := ck2
          clear ck2
          obtain ⟨⟨c0, c1, c2, c3, c4, c5, c6, c7⟩, ⟨g0, g1, g2, g3, g4, g5, g6, g7⟩, hz⟩ := pcells ck.1
          refine wpAnyH_ready (rs := [5, 9]) (by kernel_rfl) (by simp) ?_
          refine acons 5 rfl (fun K hK => ?_) ?_
          · go_simp
            refine hK.out _ _ trivial (fun _ => ?_)
            clear hK K
            (try simp only [Act.put, List.setIfInBounds_toArray, List.set_cons_zero, List.set_cons_succ])
            refine wpAnyH_ready (rs := [7, 9]) (by kernel_rfl) (by simp) ?_
            refine acons 7 rfl (fun K hK => ?_) ?_
            · go_simp
              refine (K2.out _).mono ?_; rintro e w2 ⟨rfl, hb⟩
              (try dsimp only)
              refine hK.out _ _ trivial (fun _ => ?_)
              clear hK K
              (try simp only [Act.put, List.setIfInBounds_toArray, List.set_cons_zero, List.set_cons_succ])
              have ck2 := (by first | exact CK.below ck hb | exact CK.below (CK.drew ck) hb : CK w b _ w2)
              clear ck hb c0 c1 c2 c3 c4 c5 c6 c7 g0 g1 g2 g3 g4 g5 g6 g7 hz
              have ck := ck2
              clear ck2
              obtain ⟨⟨c0, c1, c2, c3, c4, c5, c6, c7⟩, ⟨g0, g1, g2, g3, g4, g5, g6, g7⟩, hz⟩ := pcells ck.1
              refine rcons 9 rfl (by kernel_rfl) (fun K hK => ?_)
              go_simp
              refine hK.out _ _ trivial (fun _ => ?_)
              clear hK K
              (try simp only [Act.put, List.setIfInBounds_toArray, List.set_cons_zero, List.set_cons_succ])
              refine tky 12 (some 35) (v := ?_) rfl (by kernel_rfl) (by kernel_rfl) (by kernel_rfl) (fun _ _ _ h => h) ?_ hHeld ?_
              rotate_left
              focus (intro w hSw; go_simp; (try with_reducible rfl); done)
              simp only [Act.put, List.setIfInBounds_toArray, List.set_cons_zero, List.set_cons_succ]
              refine rcons 11 rfl (by kernel_rfl) (fun K hK => ?_)
              go_simp
              refine (K3.out _).mono ?_; rintro e w2 ⟨rfl, hb⟩
              (try dsimp only)
              refine hK.out _ _ trivial (fun _ => ?_)
              clear hK K
              (try simp only [Act.put, List.setIfInBounds_toArray, List.set_cons_zero, List.set_cons_succ])
              have ck2 := (by first | exact CK.below ck hb | exact CK.below (CK.drew ck) hb : CK w b _ w2)
              clear ck hb c0 c1 c2 c3 c4 c5 c6 c7 g0 g1 g2 g3 g4 g5 g6 g7 hz
              have ck := ck2
              clear ck2
              obtain ⟨⟨c0, c1, c2, c3, c4, c5, c6, c7⟩, ⟨g0, g1, g2, g3, g4, g5, g6, g7⟩, hz⟩ := pcells ck.1
              refine rcons 13 rfl (by kernel_rfl) (fun K hK => ?_)
              go_simp
              refine hK.out _ _ trivial (fun _ => ?_)
              clear hK K
              (try simp only [Act.put, List.setIfInBounds_toArray, List.set_cons_zero, List.set_cons_succ])
              refine tky 14 (some 36) (v := ?_) rfl (by kernel_rfl) (by kernel_rfl) (by kernel_rfl) (fun _ _ _ h => h) ?_ hHeld ?_
              rotate_left
              focus (intro w hSw; go_simp; (try with_reducible rfl); done)
              simp only [Act.put, List.setIfInBounds_toArray, List.set_cons_zero, List.set_cons_succ]
              refine rcons 15 rfl (by kernel_rfl) (fun K hK => ?_)
              go_simp
              refine hK.out _ _ trivial (fun _ => ?_)
              clear hK K
              (try simp only [Act.put, List.setIfInBounds_toArray, List.set_cons_zero, List.set_cons_succ])
              refine tky 16 (some 37) (v := ?_) rfl (by kernel_rfl) (by kernel_rfl) (by kernel_rfl) (fun _ _ _ h => h) ?_ hHeld ?_
              rotate_left
              focus (intro w hSw; go_simp; (try with_reducible rfl); done)
              simp only [Act.put, List.setIfInBounds_toArray, List.set_cons_zero, List.set_cons_succ]
              refine rcons 17 rfl (by kernel_rfl) (fun K hK => ?_)
              go_simp
              refine hK.out _ _ trivial (fun _ => ?_)
              clear hK K
              (try simp only [Act.put, List.setIfInBounds_toArray, List.set_cons_zero, List.set_cons_succ])
              refine wpAnyH_done (by kernel_rfl) ?_ _
              go_wp2_with fail
              go_meet
              exact ((ck.set (i := 1) (.string us2) rfl).set (i := 4) (.string pa2) rfl).set (i := 5) (.string qu2) rfl
            refine acons 9 rfl (fun K hK => ?_) ?_
            · go_simp
              refine hK.out _ _ trivial (fun _ => ?_)
              clear hK K
              (try simp only [Act.put, List.setIfInBounds_toArray, List.set_cons_zero, List.set_cons_succ])
              refine tky 12 (some 35) (v := ?_) rfl (by kernel_rfl) (by kernel_rfl) (by kernel_rfl) (fun _ _ _ h => h) ?_ hHeld ?_
              rotate_left
              focus (intro w hSw; go_simp; (try with_reducible rfl); done)
              simp only [Act.put, List.setIfInBounds_toArray, List.set_cons_zero, List.set_cons_succ]
              refine rcons 7 rfl (by kernel_rfl) (fun K hK => ?_)
              go_simp
              refine (K2.out _).mono ?_; rintro e w2 ⟨rfl, hb⟩
              (try dsimp only)
              refine hK.out _ _ trivial (fun _ => ?_)
              clear hK K
              (try simp only [Act.put, List.setIfInBounds_toArray, List.set_cons_zero, List.set_cons_succ])
              have ck2 := (by first | exact CK.below ck hb | exact CK.below (CK.drew ck) hb : CK w b _ w2)
              clear ck hb c0 c1 c2 c3 c4 c5 c6 c7 g0 g1 g2 g3 g4 g5 g6 g7 hz
              have ck := ck2
              clear ck2
              obtain ⟨⟨c0, c1, c2, c3, c4, c5, c6, c7⟩, ⟨g0, g1, g2, g3, g4, g5, g6, g7⟩, hz⟩ := pcells ck.1
              refine rcons 11 rfl (by kernel_rfl) (fun K hK => ?_)
              go_simp
              refine (K3.out _).mono ?_; rintro e w2 ⟨rfl, hb⟩
              (try dsimp only)
              refine hK.out _ _ trivial (fun _ => ?_)
              clear hK K
              (try simp only [Act.put, List.setIfInBounds_toArray, List.set_cons_zero, List.set_cons_succ])
              have ck2 := (by first | exact CK.below ck hb | exact CK.below (CK.drew ck) hb : CK w b _ w2)
              clear ck hb c0 c1 c2 c3 c4 c5 c6 c7 g0 g1 g2 g3 g4 g5 g6 g7 hz
              have ck := ck2
              clear ck2
              obtain ⟨⟨c0, c1, c2, c3, c4, c5, c6, c7⟩, ⟨g0, g1, g2, g3, g4, g5, g6, g7⟩, hz⟩ := pcells ck.1
              refine rcons 13 rfl (by kernel_rfl) (fun K hK => ?_)
              go_simp
              refine hK.out _ _ trivial (fun _ => ?_)
              clear hK K
              (try simp only [Act.put, List.setIfInBounds_toArray, List.set_cons_zero, List.set_cons_succ])
              refine tky 14 (some 36) (v := ?_) rfl (by kernel_rfl) (by kernel_rfl) (by kernel_rfl) (fun _ _ _ h => h) ?_ hHeld ?_
              rotate_left
              focus (intro w hSw; go_simp; (try with_reducible rfl); done)
              simp only [Act.put, List.setIfInBounds_toArray, List.set_cons_zero, List.set_cons_succ]
              refine rcons 15 rfl (by kernel_rfl) (fun K hK => ?_)
              go_simp
              refine hK.out _ _ trivial (fun _ => ?_)
              clear hK K
              (try simp only [Act.put, List.setIfInBounds_toArray, List.set_cons_zero, List.set_cons_succ])
              refine tky 16 (some 37) (v := ?_) rfl (by kernel_rfl) (by kernel_rfl) (by kernel_rfl) (fun _ _ _ h => h) ?_ hHeld ?_
              rotate_left
              focus (intro w hSw; go_simp; (try with_reducible rfl); done)
              simp only [Act.put, List.setIfInBounds_toArray, List.set_cons_zero, List.set_cons_succ]
              refine rcons 17 rfl (by kernel_rfl) (fun K hK => ?_)
              go_simp
              refine hK.out _ _ trivial (fun _ => ?_)
              clear hK K
              (try simp only [Act.put, List.setIfInBounds_toArray, List.set_cons_zero, List.set_cons_succ])
              refine wpAnyH_done (by kernel_rfl) ?_ _
              go_wp2_with fail
              go_meet
              exact ((ck.set (i := 1) (.string us2) rfl).set (i := 4) (.string pa2) rfl).set (i := 5) (.string qu2) rfl
            exact AllReadyH.nil
          refine acons 9 rfl (fun K hK => ?_) ?_
          · go_simp
            refine hK.out _ _ trivial (fun _ => ?_)
            clear hK K
            (try simp only [Act.put, List.setIfInBounds_toArray, List.set_cons_zero, List.set_cons_succ])
            refine rcons 5 rfl (by kernel_rfl) (fun K hK => ?_)
            go_simp
            refine hK.out _ _ trivial (fun _ => ?_)
            clear hK K
            (try simp only [Act.put, List.setIfInBounds_toArray, List.set_cons_zero, List.set_cons_succ])
            refine tky 12 (some 35) (v := ?_) rfl (by kernel_rfl) (by kernel_rfl) (by kernel_rfl) (fun _ _ _ h => h) ?_ hHeld ?_
            rotate_left
            focus (intro w hSw; go_simp; (try with_reducible rfl); done)
            simp only [Act.put, List.setIfInBounds_toArray, List.set_cons_zero, List.set_cons_succ]
            refine rcons 7 rfl (by kernel_rfl) (fun K hK => ?_)
            go_simp
            refine (K2.out _).mono ?_; rintro e w2 ⟨rfl, hb⟩
            (try dsimp only)
            refine hK.out _ _ trivial (fun _ => ?_)
            clear hK K
            (try simp only [Act.put, List.setIfInBounds_toArray, List.set_cons_zero, List.set_cons_succ])
            have ck2 := (by first | exact CK.below ck hb | exact CK.below (CK.drew ck) hb : CK w b _ w2)
            clear ck hb c0 c1 c2 c3 c4 c5 c6 c7 g0 g1 g2 g3 g4 g5 g6 g7 hz
            have ck := ck2
            clear ck2
            obtain ⟨⟨c0, c1, c2, c3, c4, c5, c6, c7⟩, ⟨g0, g1, g2, g3, g4, g5, g6, g7⟩, hz⟩ := pcells ck.1
            refine rcons 11 rfl (by kernel_rfl) (fun K hK => ?_)
            go_simp
            refine (K3.out _).mono ?_; rintro e w2 ⟨rfl, hb⟩
            (try dsimp only)
            refine hK.out _ _ trivial (fun _ => ?_)
            clear hK K
            (try simp only [Act.put, List.setIfInBounds_toArray, List.set_cons_zero, List.set_cons_succ])
            have ck2 := (by first | exact CK.below ck hb | exact CK.below (CK.drew ck) hb : CK w b _ w2)
            clear ck hb c0 c1 c2 c3 c4 c5 c6 c7 g0 g1 g2 g3 g4 g5 g6 g7 hz
            have ck := ck2
            clear ck2
            obtain ⟨⟨c0, c1, c2, c3, c4, c5, c6, c7⟩, ⟨g0, g1, g2, g3, g4, g5, g6, g7⟩, hz⟩ := pcells ck.1
            refine rcons 13 rfl (by kernel_rfl) (fun K hK => ?_)
            go_simp
            refine hK.out _ _ trivial (fun _ => ?_)
            clear hK K
            (try simp only [Act.put, List.setIfInBounds_toArray, List.set_cons_zero, List.set_cons_succ])
            refine tky 14 (some 36) (v := ?_) rfl (by kernel_rfl) (by kernel_rfl) (by kernel_rfl) (fun _ _ _ h => h) ?_ hHeld ?_
            rotate_left
            focus (intro w hSw; go_simp; (try with_reducible rfl); done)
            simp only [Act.put, List.setIfInBounds_toArray, List.set_cons_zero, List.set_cons_succ]
            refine rcons 15 rfl (by kernel_rfl) (fun K hK => ?_)
            go_simp
            refine hK.out _ _ trivial (fun _ => ?_)
            clear hK K
            (try simp only [Act.put, List.setIfInBounds_toArray, List.set_cons_zero, List.set_cons_succ])
            refine tky 16 (some 37) (v := ?_) rfl (by kernel_rfl) (by kernel_rfl) (by kernel_rfl) (fun _ _ _ h => h) ?_ hHeld ?_
            rotate_left
            focus (intro w hSw; go_simp; (try with_reducible rfl); done)
            simp only [Act.put, List.setIfInBounds_toArray, List.set_cons_zero, List.set_cons_succ]
            refine rcons 17 rfl (by kernel_rfl) (fun K hK => ?_)
            go_simp
            refine hK.out _ _ trivial (fun _ => ?_)
            clear hK K
            (try simp only [Act.put, List.setIfInBounds_toArray, List.set_cons_zero, List.set_cons_succ])
            refine wpAnyH_done (by kernel_rfl) ?_ _
            go_wp2_with fail
            go_meet
            exact ((ck.set (i := 1) (.string us2) rfl).set (i := 4) (.string pa2) rfl).set (i := 5) (.string qu2) rfl
          exact AllReadyH.nil
        refine acons 5 rfl (fun K hK => ?_) ?_
        · go_simp
          refine hK.out _ _ trivial (fun _ => ?_)
          clear hK K
          (try simp only [Act.put, List.setIfInBounds_toArray, List.set_cons_zero, List.set_cons_succ])
          refine wpAnyH_ready (rs := [3, 9]) (by kernel_rfl) (by simp) ?_
          refine acons 3 rfl (fun K hK => ?_) ?_
          · go_simp
            refine (K1.out _).mono ?_; rintro e w2 ⟨rfl, hb⟩
            (try dsimp only)
            refine hK.out _ _ trivial (fun _ => ?_)
            clear hK K
            (try simp only [Act.put, List.setIfInBounds_toArray, List.set_cons_zero, List.set_cons_succ])
            have ck2 := (by first | exact CK.below ck hb | exact CK.below (CK.drew ck) hb : CK w b _ w2)
            clear ck hb c0 c1 c2 c3 c4 c5 c6 c7 g0 g1 g2 g3 g4 g5 g6 g7 hz
            have ck := ck2
            clear ck2
            obtain ⟨⟨c0, c1, c2, c3, c4, c5, c6, c7⟩, ⟨g0, g1, g2, g3, g4, g5, g6, g7⟩, hz⟩ := pcells ck.1
            refine wpAnyH_ready (rs := [7, 9]) (by kernel_rfl) (by simp) ?_
            refine acons 7 rfl (fun K hK => ?_) ?_
            · go_simp
              refine (K2.out _).mono ?_; rintro e w2 ⟨rfl, hb⟩
              (try dsimp only)
              refine hK.out _ _ trivial (fun _ => ?_)
              clear hK K
              (try simp only [Act.put, List.setIfInBounds_toArray, List.set_cons_zero, List.set_cons_succ])
              have ck2 := (by first | exact CK.below ck hb | exact CK.below (CK.drew ck) hb : CK w b _ w2)
              clear ck hb c0 c1 c2 c3 c4 c5 c6 c7 g0 g1 g2 g3 g4 g5 g6 g7 hz
              have ck := ck2
              clear ck2
              obtain ⟨⟨c0, c1, c2, c3, c4, c5, c6, c7⟩, ⟨g0, g1, g2, g3, g4, g5, g6, g7⟩, hz⟩ := pcells ck.1
              refine rcons 9 rfl (by kernel_rfl) (fun K hK => ?_)
              go_simp
              refine hK.out _ _ trivial (fun _ => ?_)
              clear hK K
              (try simp only [Act.put, List.setIfInBounds_toArray, List.set_cons_zero, List.set_cons_succ])
              refine tky 12 (some 35) (v := ?_) rfl (by kernel_rfl) (by kernel_rfl) (by kernel_rfl) (fun _ _ _ h => h) ?_ hHeld ?_
              rotate_left
              focus (intro w hSw; go_simp; (try with_reducible rfl); done)
              simp only [Act.put, List.setIfInBounds_toArray, List.set_cons_zero, List.set_cons_succ]
              refine rcons 11 rfl (by kernel_rfl) (fun K hK => ?_)
              go_simp
              refine (K3.out _).mono ?_; rintro e w2 ⟨rfl, hb⟩
              (try dsimp only)
              refine hK.out _ _ trivial (fun _ => ?_)
              clear hK K
              (try simp only [Act.put, List.setIfInBounds_toArray, List.set_cons_zero, List.set_cons_succ])
              have ck2 := (by first | exact CK.below ck hb | exact CK.below (CK.drew ck) hb : CK w b _ w2)
              clear ck hb c0 c1 c2 c3 c4 c5 c6 c7 g0 g1 g2 g3 g4 g5 g6 g7 hz
              have ck := ck2
              clear ck2
              obtain ⟨⟨c0, c1, c2, c3, c4, c5, c6, c7⟩, ⟨g0, g1, g2, g3, g4, g5, g6, g7⟩, hz⟩ := pcells ck.1
              refine rcons 13 rfl (by kernel_rfl) (fun K hK => ?_)
              go_simp
              refine hK.out _ _ trivial (fun _ => ?_)
              clear hK K
              (try simp only [Act.put, List.setIfInBounds_toArray, List.set_cons_zero, List.set_cons_succ])
              refine tky 14 (some 36) (v := ?_) rfl (by kernel_rfl) (by kernel_rfl) (by kernel_rfl) (fun _ _ _ h => h) ?_ hHeld ?_
              rotate_left
              focus (intro w hSw; go_simp; (try with_reducible rfl); done)
              simp only [Act.put, List.setIfInBounds_toArray, List.set_cons_zero, List.set_cons_succ]
              refine rcons 15 rfl (by kernel_rfl) (fun K hK => ?_)
              go_simp
              refine hK.out _ _ trivial (fun _ => ?_)
              clear hK K
              (try simp only [Act.put, List.setIfInBounds_toArray, List.set_cons_zero, List.set_cons_succ])
              refine tky 16 (some 37) (v := ?_) rfl (by kernel_rfl) (by kernel_rfl) (by kernel_rfl) (fun _ _ _ h => h) ?_ hHeld ?_
              rotate_left
              focus (intro w hSw; go_simp; (try with_reducible rfl); done)
              simp only [Act.put, List.setIfInBounds_toArray, List.set_cons_zero, List.set_cons_succ]
              refine rcons 17 rfl (by kernel_rfl) (fun K hK => ?_)
              go_simp
              refine hK.out _ _ trivial (fun _ => ?_)
              clear hK K
              (try simp only [Act.put, List.setIfInBounds_toArray, List.set_cons_zero, List.set_cons_succ])
              refine wpAnyH_done (by kernel_rfl) ?_ _
              go_wp2_with fail
              go_meet
              exact ((ck.set (i := 1) (.string us2) rfl).set (i := 4) (.string pa2) rfl).set (i := 5) (.string qu2) rfl
            refine acons 9 rfl (fun K hK => ?_) ?_
            · go_simp
              refine hK.out _ _ trivial (fun _ => ?_)
              clear hK K
              (try simp only [Act.put, List.setIfInBounds_toArray, List.set_cons_zero, List.set_cons_succ])
              refine tky 12 (some 35) (v := ?_) rfl (by kernel_rfl) (by kernel_rfl) (by kernel_rfl) (fun _ _ _ h => h) ?_ hHeld ?_
              rotate_left
              focus (intro w hSw; go_simp; (try with_reducible rfl); done)
              simp only [Act.put, List.setIfInBounds_toArray, List.set_cons_zero, List.set_cons_succ]
              refine rcons 7 rfl (by kernel_rfl) (fun K hK => ?_)
              go_simp
              refine (K2.out _).mono ?_; rintro e w2 ⟨rfl, hb⟩
              (try dsimp only)
              refine hK.out _ _ trivial (fun _ => ?_)
              clear hK K
              (try simp only [Act.put, List.setIfInBounds_toArray, List.set_cons_zero, List.set_cons_succ])
              have ck2 := (by first | exact CK.below ck hb | exact CK.below (CK.drew ck) hb : CK w b _ w2)
              clear ck hb c0 c1 c2 c3 c4 c5 c6 c7 g0 g1 g2 g3 g4 g5 g6 g7 hz
              have ck := ck2
              clear ck2
              obtain ⟨⟨c0, c1, c2, c3, c4, c5, c6, c7⟩, ⟨g0, g1, g2, g3, g4, g5, g6, g7⟩, hz⟩ := pcells ck.1
              refine rcons 11 rfl (by kernel_rfl) (fun K hK => ?_)
              go_simp
              refine (K3.out _).mono ?_; rintro e w2 ⟨rfl, hb⟩
              (try dsimp only)
              refine hK.out _ _ trivial (fun _ => ?_)
              clear hK K
              (try simp only [Act.put, List.setIfInBounds_toArray, List.set_cons_zero, List.set_cons_succ])
              have ck2 := (by first | exact CK.below ck hb | exact CK.below (CK.drew ck) hb : CK w b _ w2)
              clear ck hb c0 c1 c2 c3 c4 c5 c6 c7 g0 g1 g2 g3 g4 g5 g6 g7 hz
              have ck := ck2
              clear ck2
              obtain ⟨⟨c0, c1, c2, c3, c4, c5, c6, c7⟩, ⟨g0, g1, g2, g3, g4, g5, g6, g7⟩, hz⟩ := pcells ck.1
              refine rcons 13 rfl (by kernel_rfl) (fun K hK => ?_)
              go_simp
              refine hK.out _ _ trivial (fun _ => ?_)
              clear hK K
              (try simp only [Act.put, List.setIfInBounds_toArray, List.set_cons_zero, List.set_cons_succ])
              refine tky 14 (some 36) (v := ?_) rfl (by kernel_rfl) (by kernel_rfl) (by kernel_rfl) (fun _ _ _ h => h) ?_ hHeld ?_
              rotate_left
              focus (intro w hSw; go_simp; (try with_reducible rfl); done)
              simp only [Act.put, List.setIfInBounds_toArray, List.set_cons_zero, List.set_cons_succ]
              refine rcons 15 rfl (by kernel_rfl) (fun K hK => ?_)
              go_simp
              refine hK.out _ _ trivial (fun _ => ?_)
              clear hK K
              (try simp only [Act.put, List.setIfInBounds_toArray, List.set_cons_zero, List.set_cons_succ])
              refine tky 16 (some 37) (v := ?_) rfl (by kernel_rfl) (by kernel_rfl) (by kernel_rfl) (fun _ _ _ h => h) ?_ hHeld ?_
              rotate_left
              focus (intro w hSw; go_simp; (try with_reducible rfl); done)
              simp only [Act.put, List.setIfInBounds_toArray, List.set_cons_zero, List.set_cons_succ]
              refine rcons 17 rfl (by kernel_rfl) (fun K hK => ?_)
              go_simp
              refine hK.out _ _ trivial (fun _ => ?_)
              clear hK K
              (try simp only [Act.put, List.setIfInBounds_toArray, List.set_cons_zero, List.set_cons_succ])
              refine wpAnyH_done (by kernel_rfl) ?_ _
              go_wp2_with fail
              go_meet
              exact ((ck.set (i := 1) (.string us2) rfl).set (i := 4) (.string pa2) rfl).set (i := 5) (.string qu2) rfl
            exact AllReadyH.nil
          refine acons 9 rfl (fun K hK => ?_) ?_
          · go_simp
            refine hK.out _ _ trivial (fun _ => ?_)
            clear hK K
            (try simp only [Act.put, List.setIfInBounds_toArray, List.set_cons_zero, List.set_cons_succ])
            refine rcons 3 rfl (by kernel_rfl) (fun K hK => ?_)
            go_simp
            refine (K1.out _).mono ?_; rintro e w2 ⟨rfl, hb⟩
            (try dsimp only)
            refine hK.out _ _ trivial (fun _ => ?_)
            clear hK K
            (try simp only [Act.put, List.setIfInBounds_toArray, List.set_cons_zero, List.set_cons_succ])
            have ck2 := (by first | exact CK.below ck hb | exact CK.below (CK.drew ck) hb : CK w b _ w2)
            clear ck hb c0 c1 c2 c3 c4 c5 c6 c7 g0 g1 g2 g3 g4 g5 g6 g7 hz
            have ck := ck2
            clear ck2
            obtain ⟨⟨c0, c1, c2, c3, c4, c5, c6, c7⟩, ⟨g0, g1, g2, g3, g4, g5, g6, g7⟩, hz⟩ := pcells ck.1
            refine tky 12 (some 35) (v := ?_) rfl (by kernel_rfl) (by kernel_rfl) (by kernel_rfl) (fun _ _ _ h => h) ?_ hHeld ?_
            rotate_left
            focus (intro w hSw; go_simp; (try with_reducible rfl); done)
            simp only [Act.put, List.setIfInBounds_toArray, List.set_cons_zero, List.set_cons_succ]
            refine rcons 7 rfl (by kernel_rfl) (fun K hK => ?_)
            go_simp
            refine (K2.out _).mono ?_; rintro e w2 ⟨rfl, hb⟩
            (try dsimp only)
            refine hK.out _ _ trivial (fun _ => ?_)
            clear hK K
            (try simp only [Act.put, List.setIfInBounds_toArray, List.set_cons_zero, List.set_cons_succ])
            have ck2 := (by first | exact CK.below ck hb | exact CK.below (CK.drew ck) hb : CK w b _ w2)
            clear ck hb c0 c1 c2 c3 c4 c5 c6 c7 g0 g1 g2 g3 g4 g5 g6 g7 hz
            have ck := ck2
            clear ck2
            obtain ⟨⟨c0, c1, c2, c3, c4, c5, c6, c7⟩, ⟨g0, g1, g2, g3, g4, g5, g6, g7⟩, hz⟩ := pcells ck.1
            refine rcons 11 rfl (by kernel_rfl) (fun K hK => ?_)
            go_simp
            refine (K3.out _).mono ?_; rintro e w2 ⟨rfl, hb⟩
            (try dsimp only)
            refine hK.out _ _ trivial (fun _ => ?_)
            clear hK K
            (try simp only [Act.put, List.setIfInBounds_toArray, List.set_cons_zero, List.set_cons_succ])
            have ck2 := (by first | exact CK.below ck hb | exact CK.below (CK.drew ck) hb : CK w b _ w2)
            clear ck hb c0 c1 c2 c3 c4 c5 c6 c7 g0 g1 g2 g3 g4 g5 g6 g7 hz
            have ck := ck2
            clear ck2
            obtain ⟨⟨c0, c1, c2, c3, c4, c5, c6, c7⟩, ⟨g0, g1, g2, g3, g4, g5, g6, g7⟩, hz⟩ := pcells ck.1
            refine rcons 13 rfl (by kernel_rfl) (fun K hK => ?_)
            go_simp
            refine hK.out _ _ trivial (fun _ => ?_)
            clear hK K
            (try simp only [Act.put, List.setIfInBounds_toArray, List.set_cons_zero, List.set_cons_succ])
            refine tky 14 (some 36) (v := ?_) rfl (by kernel_rfl) (by kernel_rfl) (by kernel_rfl) (fun _ _ _ h => h) ?_ hHeld ?_
            rotate_left
            focus (intro w hSw; go_simp; (try with_reducible rfl); done)
            simp only [Act.put, List.setIfInBounds_toArray, List.set_cons_zero, List.set_cons_succ]
            refine rcons 15 rfl (by kernel_rfl) (fun K hK => ?_)
            go_simp
            refine hK.out _ _ trivial (fun _ => ?_)
            clear hK K
            (try simp only [Act.put, List.setIfInBounds_toArray, List.set_cons_zero, List.set_cons_succ])
            refine tky 16 (some 37) (v := ?_) rfl (by kernel_rfl) (by kernel_rfl) (by kernel_rfl) (fun _ _ _ h => h) ?_ hHeld ?_
            rotate_left
            focus (intro w hSw; go_simp; (try with_reducible rfl); done)
            simp only [Act.put, List.setIfInBounds_toArray, List.set_cons_zero, List.set_cons_succ]
            refine rcons 17 rfl (by kernel_rfl) (fun K hK => ?_)
            go_simp
            refine hK.out _ _ trivial (fun _ => ?_)
            clear hK K
            (try simp only [Act.put, List.setIfInBounds_toArray, List.set_cons_zero, List.set_cons_succ])
            refine wpAnyH_done (by kernel_rfl) ?_ _
            go_wp2_with fail
            go_meet
            exact ((ck.set (i := 1) (.string us2) rfl).set (i := 4) (.string pa2) rfl).set (i := 5) (.string qu2) rfl
          exact AllReadyH.nil
        refine acons 9 rfl (fun K hK => ?_) ?_
        · go_simp
          refine hK.out _ _ trivial (fun _ => ?_)
          clear hK K
          (try simp only [Act.put, List.setIfInBounds_toArray, List.set_cons_zero, List.set_cons_succ])
          refine wpAnyH_ready (rs := [3, 5]) (by kernel_rfl) (by simp) ?_
          refine acons 3 rfl (fun K hK => ?_) ?_
          · go_simp
            refine (K1.out _).mono ?_; rintro e w2 ⟨rfl, hb⟩
            (try dsimp only)
            refine hK.out _ _ trivial (fun _ => ?_)
            clear hK K
            (try simp only [Act.put, List.setIfInBounds_toArray, List.set_cons_zero, List.set_cons_succ])
            have ck2 := (by first | exact CK.below ck hb | exact CK.below (CK.drew ck) hb : CK w b _ w2)
            clear ck hb c0 c1 c2 c3 c4 c5 c6 c7 g0 g1 g2 g3 g4 g5 g6 g7 hz
            have ck := ck2
            clear ck2
            obtain ⟨⟨c0, c1, c2, c3, c4, c5, c6, c7⟩, ⟨g0, g1, g2, g3, g4, g5, g6, g7⟩, hz⟩ := pcells ck.1
            refine rcons 5 rfl (by kernel_rfl) (fun K hK => ?_)
            go_simp
            refine hK.out _ _ trivial (fun _ => ?_)
            clear hK K
            (try simp only [Act.put, List.setIfInBounds_toArray, List.set_cons_zero, List.set_cons_succ])
            refine tky 12 (some 35) (v := ?_) rfl (by kernel_rfl) (by kernel_rfl) (by kernel_rfl) (fun _ _ _ h => h) ?_ hHeld ?_
            rotate_left
            focus (intro w hSw; go_simp; (try with_reducible rfl); done)
            simp only [Act.put, List.setIfInBounds_toArray, List.set_cons_zero, List.set_cons_succ]
            refine rcons 7 rfl (by kernel_rfl) (fun K hK => ?_)
            go_simp
            refine (K2.out _).mono ?_; rintro e w2 ⟨rfl, hb⟩
            (try dsimp only)
            refine hK.out _ _ trivial (fun _ => ?_)
            clear hK K
            (try simp only [Act.put, List.setIfInBounds_toArray, List.set_cons_zero, List.set_cons_succ])
            have ck2 := (by first | exact CK.below ck hb | exact CK.below (CK.drew ck) hb : CK w b _ w2)
            clear ck hb c0 c1 c2 c3 c4 c5 c6 c7 g0 g1 g2 g3 g4 g5 g6 g7 hz
            have ck := ck2
            clear ck2
            obtain ⟨⟨c0, c1, c2, c3, c4, c5, c6, c7⟩, ⟨g0, g1, g2, g3, g4, g5, g6, g7⟩, hz⟩ := pcells ck.1
            refine rcons 11 rfl (by kernel_rfl) (fun K hK => ?_)
            go_simp
            refine (K3.out _).mono ?_; rintro e w2 ⟨rfl, hb⟩
            (try dsimp only)
            refine hK.out _ _ trivial (fun _ => ?_)
            clear hK K
            (try simp only [Act.put, List.setIfInBounds_toArray, List.set_cons_zero, List.set_cons_succ])
            have ck2 := (by first | exact CK.below ck hb | exact CK.below (CK.drew ck) hb : CK w b _ w2)
            clear ck hb c0 c1 c2 c3 c4 c5 c6 c7 g0 g1 g2 g3 g4 g5 g6 g7 hz
            have ck := ck2
            clear ck2
            obtain ⟨⟨c0, c1, c2, c3, c4, c5, c6, c7⟩, ⟨g0, g1, g2, g3, g4, g5, g6, g7⟩, hz⟩ := pcells ck.1
            refine rcons 13 rfl (by kernel_rfl) (fun K hK => ?_)
            go_simp
            refine hK.out _ _ trivial (fun _ => ?_)
            clear hK K
            (try simp only [Act.put, List.setIfInBounds_toArray, List.set_cons_zero, List.set_cons_succ])
            refine tky 14 (some 36) (v := ?_) rfl (by kernel_rfl) (by kernel_rfl) (by kernel_rfl) (fun _ _ _ h => h) ?_ hHeld ?_
            rotate_left
            focus (intro w hSw; go_simp; (try with_reducible rfl); done)
            simp only [Act.put, List.setIfInBounds_toArray, List.set_cons_zero, List.set_cons_succ]
            refine rcons 15 rfl (by kernel_rfl) (fun K hK => ?_)
            go_simp
            refine hK.out _ _ trivial (fun _ => ?_)
            clear hK K
            (try simp only [Act.put, List.setIfInBounds_toArray, List.set_cons_zero, List.set_cons_succ])
            refine tky 16 (some 37) (v := ?_) rfl (by kernel_rfl) (by kernel_rfl) (by kernel_rfl) (fun _ _ _ h => h) ?_ hHeld ?_
            rotate_left
            focus (intro w hSw; go_simp; (try with_reducible rfl); done)
            simp only [Act.put, List.setIfInBounds_toArray, List.set_cons_zero, List.set_cons_succ]
            refine rcons 17 rfl (by kernel_rfl) (fun K hK => ?_)
            go_simp
            refine hK.out _ _ trivial (fun _ => ?_)
            clear hK K
            (try simp only [Act.put, List.setIfInBounds_toArray, List.set_cons_zero, List.set_cons_succ])
            refine wpAnyH_done (by kernel_rfl) ?_ _
            go_wp2_with fail
            go_meet
            exact ((ck.set (i := 1) (.string us2) rfl).set (i := 4) (.string pa2) rfl).set (i := 5) (.string qu2) rfl
          refine acons 5 rfl (fun K hK => ?_) ?_
          · go_simp
            refine hK.out _ _ trivial (fun _ => ?_)
            clear hK K
            (try simp only [Act.put, List.setIfInBounds_toArray, List.set_cons_zero, List.set_cons_succ])
            refine rcons 3 rfl (by kernel_rfl) (fun K hK => ?_)
            go_simp
            refine (K1.out _).mono ?_; rintro e w2 ⟨rfl, hb⟩
            (try dsimp only)
            refine hK.out _ _ trivial (fun _ => ?_)
            clear hK K
            (try simp only [Act.put, List.setIfInBounds_toArray, List.set_cons_zero, List.set_cons_succ])
            have ck2 := (by first | exact CK.below ck hb | exact CK.below (CK.drew ck) hb : CK w b _ w2)
            clear ck hb c0 c1 c2 c3 c4 c5 c6 c7 g0 g1 g2 g3 g4 g5 g6 g7 hz
            have ck := ck2
            clear ck2
            obtain ⟨⟨c0, c1, c2, c3, c4, c5, c6, c7⟩, ⟨g0, g1, g2, g3, g4, g5, g6, g7⟩, hz⟩ := pcells ck.1
            refine tky 12 (some 35) (v := ?_) rfl (by kernel_rfl) (by kernel_rfl) (by kernel_rfl) (fun _ _ _ h => h) ?_ hHeld ?_
            rotate_left
            focus (intro w hSw; go_simp; (try with_reducible rfl); done)
            simp only [Act.put, List.setIfInBounds_toArray, List.set_cons_zero, List.set_cons_succ]
            refine rcons 7 rfl (by kernel_rfl) (fun K hK => ?_)
            go_simp
            refine (K2.out _).mono ?_; rintro e w2 ⟨rfl, hb⟩
            (try dsimp only)
            refine hK.out _ _ trivial (fun _ => ?_)
            clear hK K
            (try simp only [Act.put, List.setIfInBounds_toArray, List.set_cons_zero, List.set_cons_succ])
            have ck2 := (by first | exact CK.below ck hb | exact CK.below (CK.drew ck) hb : CK w b _ w2)
            clear ck hb c0 c1 c2 c3 c4 c5 c6 c7 g0 g1 g2 g3 g4 g5 g6 g7 hz
            have ck := ck2
            clear ck2
            obtain ⟨⟨c0, c1, c2, c3, c4, c5, c6, c7⟩, ⟨g0, g1, g2, g3, g4, g5, g6, g7⟩, hz⟩ := pcells ck.1
            refine rcons 11 rfl (by kernel_rfl) (fun K hK => ?_)
            go_simp
            refine (K3.out _).mono ?_; rintro e w2 ⟨rfl, hb⟩
            (try dsimp only)
            refine hK.out _ _ trivial (fun _ => ?_)
            clear hK K
            (try simp only [Act.put, List.setIfInBounds_toArray, List.set_cons_zero, List.set_cons_succ])
            have ck2 := (by first | exact CK.below ck hb | exact CK.below (CK.drew ck) hb : CK w b _ w2)
            clear ck hb c0 c1 c2 c3 c4 c5 c6 c7 g0 g1 g2 g3 g4 g5 g6 g7 hz
            have ck := ck2
            clear ck2
            obtain ⟨⟨c0, c1, c2, c3, c4, c5, c6, c7⟩, ⟨g0, g1, g2, g3, g4, g5, g6, g7⟩, hz⟩ := pcells ck.1
            refine rcons 13 rfl (by kernel_rfl) (fun K hK => ?_)
            go_simp
            refine hK.out _ _ trivial (fun _ => ?_)
            clear hK K
            (try simp only [Act.put, List.setIfInBounds_toArray, List.set_cons_zero, List.set_cons_succ])
            refine tky 14 (some 36) (v := ?_) rfl (by kernel_rfl) (by kernel_rfl) (by kernel_rfl) (fun _ _ _ h => h) ?_ hHeld ?_
            rotate_left
            focus (intro w hSw; go_simp; (try with_reducible rfl); done)
            simp only [Act.put, List.setIfInBounds_toArray, List.set_cons_zero, List.set_cons_succ]
            refine rcons 15 rfl (by kernel_rfl) (fun K hK => ?_)
            go_simp
            refine hK.out _ _ trivial (fun _ => ?_)
            clear hK K
            (try simp only [Act.put, List.setIfInBounds_toArray, List.set_cons_zero, List.set_cons_succ])
            refine tky 16 (some 37) (v := ?_) rfl (by kernel_rfl) (by kernel_rfl) (by kernel_rfl) (fun _ _ _ h => h) ?_ hHeld ?_
            rotate_left
            focus (intro w hSw; go_simp; (try with_reducible rfl); done)
            simp only [Act.put, List.setIfInBounds_toArray, List.set_cons_zero, List.set_cons_succ]
            refine rcons 17 rfl (by kernel_rfl) (fun K hK => ?_)
            go_simp
            refine hK.out _ _ trivial (fun _ => ?_)
            clear hK K
            (try simp only [Act.put, List.setIfInBounds_toArray, List.set_cons_zero, List.set_cons_succ])
            refine wpAnyH_done (by kernel_rfl) ?_ _
            go_wp2_with fail
            go_meet
            exact ((ck.set (i := 1) (.string us2) rfl).set (i := 4) (.string pa2) rfl).set (i := 5) (.string qu2) rfl
          exact AllReadyH.nil
        exact AllReadyH.nil
      refine acons 5 rfl (fun K hK => ?_) ?_
      · go_simp
        refine hK.out _ _ trivial (fun _ => ?_)
        clear hK K
        (try simp only [Act.put, List.setIfInBounds_toArray, List.set_cons_zero, List.set_cons_succ])
        refine wpAnyH_ready (rs := [1, 9]) (by kernel_rfl) (by simp) ?_
        refine acons 1 rfl (fun K hK => ?_) ?_
        · go_simp
          refine hK.out _ _ trivial (fun _ => ?_)
          clear hK K
          (try simp only [Act.put, List.setIfInBounds_toArray, List.set_cons_zero, List.set_cons_succ])
          refine wpAnyH_ready (rs := [3, 9]) (by kernel_rfl) (by simp) ?_
          refine acons 3 rfl (fun K hK => ?_) ?_
          · go_simp
            refine (K1.out _).mono ?_; rintro e w2 ⟨rfl, hb⟩
            (try dsimp only)
            refine hK.out _ _ trivial (fun _ => ?_)
            clear hK K
            (try simp only [Act.put, List.setIfInBounds_toArray, List.set_cons_zero, List.set_cons_succ])
            have ck2 := (by first | exact CK.below ck hb | exact CK.below (CK.drew ck) hb : CK w b _ w2)
            clear ck hb c0 c1 c2 c3 c4 c5 c6 c7 g0 g1 g2 g3 g4 g5 g6 g7 hz
            have ck := ck2
            clear ck2
            obtain ⟨⟨c0, c1, c2, c3, c4, c5, c6, c7⟩, ⟨g0, g1, g2, g3, g4, g5, g6, g7⟩, hz⟩ := pcells ck.1
            refine wpAnyH_ready (rs := [7, 9]) (by kernel_rfl) (by simp) ?_
            refine acons 7 rfl (fun K hK => ?_) ?_
            · go_simp
              refine (K2.out _).mono ?_; rintro e w2 ⟨rfl, hb⟩
              (try dsimp only)
              refine hK.out _ _ trivial (fun _ => ?_)
              clear hK K
              (try simp only [Act.put, List.setIfInBounds_toArray, List.set_cons_zero, List.set_cons_succ])
              have ck2 := (by first | exact CK.below ck hb | exact CK.below (CK.drew ck) hb : CK w b _ w2)
              clear ck hb c0 c1 c2 c3 c4 c5 c6 c7 g0 g1 g2 g3 g4 g5 g6 g7 hz
              have ck := ck2
              clear ck2
              obtain ⟨⟨c0, c1, c2, c3, c4, c5, c6, c7⟩, ⟨g0, g1, g2, g3, g4, g5, g6, g7⟩, hz⟩ := pcells ck.1
              refine rcons 9 rfl (by kernel_rfl) (fun K hK => ?_)
              go_simp
              refine hK.out _ _ trivial (fun _ => ?_)
              clear hK K
              (try simp only [Act.put, List.setIfInBounds_toArray, List.set_cons_zero, List.set_cons_succ])
              refine tky 12 (some 35) (v := ?_) rfl (by kernel_rfl) (by kernel_rfl) (by kernel_rfl) (fun _ _ _ h => h) ?_ hHeld ?_
              rotate_left
              focus (intro w hSw; go_simp; (try with_reducible rfl); done)
              simp only [Act.put, List.setIfInBounds_toArray, List.set_cons_zero, List.set_cons_succ]
              refine rcons 11 rfl (by kernel_rfl) (fun K hK => ?_)
              go_simp
              refine (K3.out _).mono ?_; rintro e w2 ⟨rfl, hb⟩
              (try dsimp only)
              refine hK.out _ _ trivial (fun _ => ?_)
              clear hK K
              (try simp only [Act.put, List.setIfInBounds_toArray, List.set_cons_zero, List.set_cons_succ])
              have ck2 := (by first | exact CK.below ck hb | exact CK.below (CK.drew ck) hb : CK w b _ w2)
              clear ck hb c0 c1 c2 c3 c4 c5 c6 c7 g0 g1 g2 g3 g4 g5 g6 g7 hz
              have ck := ck2
              clear ck2
              obtain ⟨⟨c0, c1, c2, c3, c4, c5, c6, c7⟩, ⟨g0, g1, g2, g3, g4, g5, g6, g7⟩, hz⟩ := pcells ck.1
              refine rcons 13 rfl (by kernel_rfl) (fun K hK => ?_)
              go_simp
              refine hK.out _ _ trivial (fun _ => ?_)
              clear hK K
              (try simp only [Act.put, List.setIfInBounds_toArray, List.set_cons_zero, List.set_cons_succ])
              refine tky 14 (some 36) (v := ?_) rfl (by kernel_rfl) (by kernel_rfl) (by kernel_rfl) (fun _ _ _ h => h) ?_ hHeld ?_
              rotate_left
              focus (intro w hSw; go_simp; (try with_reducible rfl); done)
              simp only [Act.put, List.setIfInBounds_toArray, List.set_cons_zero, List.set_cons_succ]
              refine rcons 15 rfl (by kernel_rfl) (fun K hK => ?_)
              go_simp
              refine hK.out _ _ trivial (fun _ => ?_)
              clear hK K
              (try simp only [Act.put, List.setIfInBounds_toArray, List.set_cons_zero, List.set_cons_succ])
              refine tky 16 (some 37) (v := ?_) rfl (by kernel_rfl) (by kernel_rfl) (by kernel_rfl) (fun _ _ _ h => h) ?_ hHeld ?_
              rotate_left
              focus (intro w hSw; go_simp; (try with_reducible rfl); done)
              simp only [Act.put, List.setIfInBounds_toArray, List.set_cons_zero, List.set_cons_succ]
              refine rcons 17 rfl (by kernel_rfl) (fun K hK => ?_)
              go_simp
              refine hK.out _ _ trivial (fun _ => ?_)
              clear hK K
              (try simp only [Act.put, List.setIfInBounds_toArray, List.set_cons_zero, List.set_cons_succ])
              refine wpAnyH_done (by kernel_rfl) ?_ _
              go_wp2_with fail
              go_meet
              exact ((ck.set (i := 1) (.string us2) rfl).set (i := 4) (.string pa2) rfl).set (i := 5) (.string qu2) rfl
            refine acons 9 rfl (fun K hK => ?_) ?_
            · go_simp
              refine hK.out _ _ trivial (fun _ => ?_)
              clear hK K
              (try simp only [Act.put, List.setIfInBounds_toArray, List.set_cons_zero, List.set_cons_succ])
              refine tky 12 (some 35) (v := ?_) rfl (by kernel_rfl) (by kernel_rfl) (by kernel_rfl) (fun _ _ _ h => h) ?_ hHeld ?_
              rotate_left
              focus (intro w hSw; go_simp; (try with_reducible rfl); done)
              simp only [Act.put, List.setIfInBounds_toArray, List.set_cons_zero, List.set_cons_succ]
              refine rcons 7 rfl (by kernel_rfl) (fun K hK => ?_)
              go_simp
              refine (K2.out _).mono ?_; rintro e w2 ⟨rfl, hb⟩
              (try dsimp only)
              refine hK.out _ _ trivial (fun _ => ?_)
              clear hK K
              (try simp only [Act.put, List.setIfInBounds_toArray, List.set_cons_zero, List.set_cons_succ])
              have ck2 := (by first | exact CK.below ck hb | exact CK.below (CK.drew ck) hb : CK w b _ w2)
              clear ck hb c0 c1 c2 c3 c4 c5 c6 c7 g0 g1 g2 g3 g4 g5 g6 g7 hz
              have ck := ck2
              clear ck2
              obtain ⟨⟨c0, c1, c2, c3, c4, c5, c6, c7⟩, ⟨g0, g1, g2, g3, g4, g5, g6, g7⟩, hz⟩ := pcells ck.1
              refine rcons 11 rfl (by kernel_rfl) (fun K hK => ?_)
              go_simp
              refine (K3.out _).mono ?_; rintro e w2 ⟨rfl, hb⟩
              (try dsimp only)
              refine hK.out _ _ trivial (fun _ => ?_)
              clear hK K
              (try simp only [Act.put, List.setIfInBounds_toArray, List.set_cons_zero, List.set_cons_succ])
              have ck2 := (by first | exact CK.below ck hb | exact CK.below (CK.drew ck) hb : CK w b _ w2)
              clear ck hb c0 c1 c2 c3 c4 c5 c6 c7 g0 g1 g2 g3 g4 g5 g6 g7 hz
              have ck := ck2
              clear ck2
              obtain ⟨⟨c0, c1, c2, c3, c4, c5, c6, c7⟩, ⟨g0, g1, g2, g3, g4, g5, g6, g7⟩, hz⟩ := pcells ck.1
              refine rcons 13 rfl (by kernel_rfl) (fun K hK => ?_)
              go_simp
              refine hK.out _ _ trivial (fun _ => ?_)
              clear hK K
              (try simp only [Act.put, List.setIfInBounds_toArray, List.set_cons_zero, List.set_cons_succ])
              refine tky 14 (some 36) (v := ?_) rfl (by kernel_rfl) (by kernel_rfl) (by kernel_rfl) (fun _ _ _ h => h) ?_ hHeld ?_
              rotate_left
              focus (intro w hSw; go_simp; (try with_reducible rfl); done)
              simp only [Act.put, List.setIfInBounds_toArray, List.set_cons_zero, List.set_cons_succ]
              refine rcons 15 rfl (by kernel_rfl) (fun K hK => ?_)
              go_simp
              refine hK.out _ _ trivial (fun _ => ?_)
              clear hK K
              (try simp only [Act.put, List.setIfInBounds_toArray, List.set_cons_zero, List.set_cons_succ])
              refine tky 16 (some 37) (v := ?_) rfl (by kernel_rfl) (by kernel_rfl) (by kernel_rfl) (fun _ _ _ h => h) ?_ hHeld ?_
              rotate_left
              focus (intro w hSw; go_simp; (try with_reducible rfl); done)
              simp only [Act.put, List.setIfInBounds_toArray, List.set_cons_zero, List.set_cons_succ]
              refine rcons 17 rfl (by kernel_rfl) (fun K hK => ?_)
              go_simp
              refine hK.out _ _ trivial (fun _ => ?_)
              clear hK K
              (try simp only [Act.put, List.setIfInBounds_toArray, List.set_cons_zero, List.set_cons_succ])
              refine wpAnyH_done (by kernel_rfl) ?_ _
              go_wp2_with fail
              go_meet
              exact ((ck.set (i := 1) (.string us2) rfl).set (i := 4) (.string pa2) rfl).set (i := 5) (.string qu2) rfl
            exact AllReadyH.nil
          refine acons 9 rfl (fun K hK => ?_) ?_
          · go_simp
            refine hK.out _ _ trivial (fun _ => ?_)
            clear hK K
            (try simp only [Act.put, List.setIfInBounds_toArray, List.set_cons_zero, List.set_cons_succ])
            refine rcons 3 rfl (by kernel_rfl) (fun K hK => ?_)
            go_simp
            refine (K1.out _).mono ?_; rintro e w2 ⟨rfl, hb⟩
            (try dsimp only)
            refine hK.out _ _ trivial (fun _ => ?_)
            clear hK K
            (try simp only [Act.put, List.setIfInBounds_toArray, List.set_cons_zero, List.set_cons_succ])
            have ck2 := (by first | exact CK.below ck hb | exact CK.below (CK.drew ck) hb : CK w b _ w2)
            clear ck hb c0 c1 c2 c3 c4 c5 c6 c7 g0 g1 g2 g3 g4 g5 g6 g7 hz
            have ck := ck2
            clear ck2
            obtain ⟨⟨c0, c1, c2, c3, c4, c5, c6, c7⟩, ⟨g0, g1, g2, g3, g4, g5, g6, g7⟩, hz⟩ := pcells ck.1
            refine tky 12 (some 35) (v := ?_) rfl (by kernel_rfl) (by kernel_rfl) (by kernel_rfl) (fun _ _ _ h => h) ?_ hHeld ?_
            rotate_left
            focus (intro w hSw; go_simp; (try with_reducible rfl); done)
            simp only [Act.put, List.setIfInBounds_toArray, List.set_cons_zero, List.set_cons_succ]
            refine rcons 7 rfl (by kernel_rfl) (fun K hK => ?_)
            go_simp
            refine (K2.out _).mono ?_; rintro e w2 ⟨rfl, hb⟩
            (try dsimp only)
            refine hK.out _ _ trivial (fun _ => ?_)
            clear hK K
            (try simp only [Act.put, List.setIfInBounds_toArray, List.set_cons_zero, List.set_cons_succ])
            have ck2 := (by first | exact CK.below ck hb | exact CK.below (CK.drew ck) hb : CK w b _ w2)
            clear ck hb c0 c1 c2 c3 c4 c5 c6 c7 g0 g1 g2 g3 g4 g5 g6 g7 hz
            have ck := ck2
            clear ck2
            obtain ⟨⟨c0, c1, c2, c3, c4, c5, c6, c7⟩, ⟨g0, g1, g2, g3, g4, g5, g6, g7⟩, hz⟩ := pcells ck.1
            refine rcons 11 rfl (by kernel_rfl) (fun K hK => ?_)
            go_simp
            refine (K3.out _).mono ?_; rintro e w2 ⟨rfl, hb⟩
            (try dsimp only)
            refine hK.out _ _ trivial (fun _ => ?_)
            clear hK K
            (try simp only [Act.put, List.setIfInBounds_toArray, List.set_cons_zero, List.set_cons_succ])
            have ck2 := (by first | exact CK.below ck hb | exact CK.below (CK.drew ck) hb : CK w b _ w2)
            clear ck hb c0 c1 c2 c3 c4 c5 c6 c7 g0 g1 g2 g3 g4 g5 g6 g7 hz
            have ck := ck2
            clear ck2
            obtain ⟨⟨c0, c1, c2, c3, c4, c5, c6, c7⟩, ⟨g0, g1, g2, g3, g4, g5, g6, g7⟩, hz⟩ := pcells ck.1
            refine rcons 13 rfl (by kernel_rfl) (fun K hK => ?_)
            go_simp
            refine hK.out _ _ trivial (fun _ => ?_)
            clear hK K
            (try simp only [Act.put, List.setIfInBounds_toArray, List.set_cons_zero, List.set_cons_succ])
            refine tky 14 (some 36) (v := ?_) rfl (by kernel_rfl) (by kernel_rfl) (by kernel_rfl) (fun _ _ _ h => h) ?_ hHeld ?_
            rotate_left
            focus (intro w hSw; go_simp; (try with_reducible rfl); done)
            simp only [Act.put, List.setIfInBounds_toArray, List.set_cons_zero, List.set_cons_succ]
            refine rcons 15 rfl (by kernel_rfl) (fun K hK => ?_)
            go_simp
            refine hK.out _ _ trivial (fun _ => ?_)
            clear hK K
            (try simp only [Act.put, List.setIfInBounds_toArray, List.set_cons_zero, List.set_cons_succ])
            refine tky 16 (some 37) (v := ?_) rfl (by kernel_rfl) (by kernel_rfl) (by kernel_rfl) (fun _ _ _ h => h) ?_ hHeld ?_
            rotate_left
            focus (intro w hSw; go_simp; (try with_reducible rfl); done)
            simp only [Act.put, List.setIfInBounds_toArray, List.set_cons_zero, List.set_cons_succ]
            refine rcons 17 rfl (by kernel_rfl) (fun K hK => ?_)
            go_simp
            refine hK.out _ _ trivial (fun _ => ?_)
            clear hK K
            (try simp only [Act.put, List.setIfInBounds_toArray, List.set_cons_zero, List.set_cons_succ])
            refine wpAnyH_done (by kernel_rfl) ?_ _
            go_wp2_with fail
            go_meet
            exact ((ck.set (i := 1) (.string us2) rfl).set (i := 4) (.string pa2) rfl).set (i := 5) (.string qu2) rfl
          exact AllReadyH.nil
        refine acons 9 rfl (fun K hK => ?_) ?_
        · go_simp
          refine hK.out _ _ trivial (fun _ => ?_)
          clear hK K
          (try simp only [Act.put, List.setIfInBounds_toArray, List.set_cons_zero, List.set_cons_succ])
          refine rcons 1 rfl (by kernel_rfl) (fun K hK => ?_)
          go_simp
          refine hK.out _ _ trivial (fun _ => ?_)
          clear hK K
          (try simp only [Act.put, List.setIfInBounds_toArray, List.set_cons_zero, List.set_cons_succ])
          refine rcons 3 rfl (by kernel_rfl) (fun K hK => ?_)
          go_simp
          refine (K1.out _).mono ?_; rintro e w2 ⟨rfl, hb⟩
          (try dsimp only)
          refine hK.out _ _ trivial (fun _ => ?_)
          clear hK K
          (try simp only [Act.put, List.setIfInBounds_toArray, List.set_cons_zero, List.set_cons_succ])
          have ck2 := (by first | exact CK.below ck hb | exact CK.below (CK.drew ck) hb : CK w b _ w2)
          clear ck hb c0 c1 c2 c3 c4 c5 c6 c7 g0 g1 g2 g3 g4 g5 g6 g7 hz
          have ck := ck2
          clear ck2
          obtain ⟨⟨c0, c1, c2, c3, c4, c5, c6, c7⟩, ⟨g0, g1, g2, g3, g4, g5, g6, g7⟩, hz⟩ := pcells ck.1
          refine tky 12 (some 35) (v := ?_) rfl (by kernel_rfl) (by kernel_rfl) (by kernel_rfl) (fun _ _ _ h => h) ?_ hHeld ?_
          rotate_left
          focus (intro w hSw; go_simp; (try with_reducible rfl); done)
          simp only [Act.put, List.setIfInBounds_toArray, List.set_cons_zero, List.set_cons_succ]
          refine rcons 7 rfl (by kernel_rfl) (fun K hK => ?_)
          go_simp
          refine (K2.out _).mono ?_; rintro e w2 ⟨rfl, hb⟩
          (try dsimp only)
          refine hK.out _ _ trivial (fun _ => ?_)
          clear hK K
          (try simp only [Act.put, List.setIfInBounds_toArray, List.set_cons_zero, List.set_cons_succ])
          have ck2 := (by first | exact CK.below ck hb | exact CK.below (CK.drew ck) hb : CK w b _ w2)
          clear ck hb c0 c1 c2 c3 c4 c5 c6 c7 g0 g1 g2 g3 g4 g5 g6 g7 hz
          have ck := ck2
          clear ck2
          obtain ⟨⟨c0, c1, c2, c3, c4, c5, c6, c7⟩, ⟨g0, g1, g2, g3, g4, g5, g6, g7⟩, hz⟩ := pcells ck.1
          refine rcons 11 rfl (by kernel_rfl) (fun K hK => ?_)
          go_simp
          refine (K3.out _).mono ?_; rintro e w2 ⟨rfl, hb⟩
          (try dsimp only)
          refine hK.out _ _ trivial (fun _ => ?_)
          clear hK K
          (try simp only [Act.put, List.setIfInBounds_toArray, List.set_cons_zero, List.set_cons_succ])
          have ck2 := (by first | exact CK.below ck hb | exact CK.below (CK.drew ck) hb : CK w b _ w2)
          clear ck hb c0 c1 c2 c3 c4 c5 c6 c7 g0 g1 g2 g3 g4 g5 g6 g7 hz
          have ck := ck2
          clear ck2
          obtain ⟨⟨c0, c1, c2, c3, c4, c5, c6, c7⟩, ⟨g0, g1, g2, g3, g4, g5, g6, g7⟩, hz⟩ := pcells ck.1
          refine rcons 13 rfl (by kernel_rfl) (fun K hK => ?_)
          go_simp
          refine hK.out _ _ trivial (fun _ => ?_)
          clear hK K
          (try simp only [Act.put, List.setIfInBounds_toArray, List.set_cons_zero, List.set_cons_succ])
          refine tky 14 (some 36) (v := ?_) rfl (by kernel_rfl) (by kernel_rfl) (by kernel_rfl) (fun _ _ _ h => h) ?_ hHeld ?_
          rotate_left
          focus (intro w hSw; go_simp; (try with_reducible rfl); done)
          simp only [Act.put, List.setIfInBounds_toArray, List.set_cons_zero, List.set_cons_succ]
          refine rcons 15 rfl (by kernel_rfl) (fun K hK => ?_)
          go_simp
          refine hK.out _ _ trivial (fun _ => ?_)
          clear hK K
          (try simp only [Act.put, List.setIfInBounds_toArray, List.set_cons_zero, List.set_cons_succ])
          refine tky 16 (some 37) (v := ?_) rfl (by kernel_rfl) (by kernel_rfl) (by kernel_rfl) (fun _ _ _ h => h) ?_ hHeld ?_
          rotate_left
          focus (intro w hSw; go_simp; (try with_reducible rfl); done)
          simp only [Act.put, List.setIfInBounds_toArray, List.set_cons_zero, List.set_cons_succ]
          refine rcons 17 rfl (by kernel_rfl) (fun K hK => ?_)
          go_simp
          refine hK.out _ _ trivial (fun _ => ?_)
          clear hK K
          (try simp only [Act.put, List.setIfInBounds_toArray, List.set_cons_zero, List.set_cons_succ])
          refine wpAnyH_done (by kernel_rfl) ?_ _
          go_wp2_with fail
          go_meet
          exact ((ck.set (i := 1) (.string us2) rfl).set (i := 4) (.string pa2) rfl).set (i := 5) (.string qu2) rfl
        exact AllReadyH.nil
      refine acons 9 rfl (fun K hK => ?_) ?_
      · go_simp
        refine hK.out _ _ trivial (fun _ => ?_)
        clear hK K
        (try simp only [Act.put, List.setIfInBounds_toArray, List.set_cons_zero, List.set_cons_succ])
        refine wpAnyH_ready (rs := [1, 5]) (by kernel_rfl) (by simp) ?_
        refine acons 1 rfl (fun K hK => ?_) ?_
        · go_simp
          refine hK.out _ _ trivial (fun _ => ?_)
          clear hK K
          (try simp only [Act.put, List.setIfInBounds_toArray, List.set_cons_zero, List.set_cons_succ])
          refine wpAnyH_ready (rs := [3, 5]) (by kernel_rfl) (by simp) ?_
          refine acons 3 rfl (fun K hK => ?_) ?_
          · go_simp
            refine (K1.out _).mono ?_; rintro e w2 ⟨rfl, hb⟩
            (try dsimp only)
            refine hK.out _ _ trivial (fun _ => ?_)
            clear hK K
            (try simp only [Act.put, List.setIfInBounds_toArray, List.set_cons_zero, List.set_cons_succ])
            have ck2 := (by first | exact CK.below ck hb | exact CK.below (CK.drew ck) hb : CK w b _ w2)
            clear ck hb c0 c1 c2 c3 c4 c5 c6 c7 g0 g1 g2 g3 g4 g5 g6 g7 hz
            have ck := ck2
            clear ck2
            obtain ⟨⟨c0, c1, c2, c3, c4, c5, c6, c7⟩, ⟨g0, g1, g2, g3, g4, g5, g6, g7⟩, hz⟩ := pcells ck.1
            refine rcons 5 rfl (by kernel_rfl) (fun K hK => ?_)
            go_simp
            refine hK.out _ _ trivial (fun _ => ?_)
            clear hK K
            (try simp only [Act.put, List.setIfInBounds_toArray, List.set_cons_zero, List.set_cons_succ])
            refine tky 12 (some 35) (v := ?_) rfl (by kernel_rfl) (by kernel_rfl) (by kernel_rfl) (fun _ _ _ h => h) ?_ hHeld ?_
            rotate_left
            focus (intro w hSw; go_simp; (try with_reducible rfl); done)
            simp only [Act.put, List.setIfInBounds_toArray, List.set_cons_zero, List.set_cons_succ]
            refine rcons 7 rfl (by kernel_rfl) (fun K hK => ?_)
            go_simp
            refine (K2.out _).mono ?_; rintro e w2 ⟨rfl, hb⟩
            (try dsimp only)
            refine hK.out _ _ trivial (fun _ => ?_)
            clear hK K
            (try simp only [Act.put, List.setIfInBounds_toArray, List.set_cons_zero, List.set_cons_succ])
            have ck2 := (by first | exact CK.below ck hb | exact CK.below (CK.drew ck) hb : CK w b _ w2)
            clear ck hb c0 c1 c2 c3 c4 c5 c6 c7 g0 g1 g2 g3 g4 g5 g6 g7 hz
            have ck := ck2
            clear ck2
            obtain ⟨⟨c0, c1, c2, c3, c4, c5, c6, c7⟩, ⟨g0, g1, g2, g3, g4, g5, g6, g7⟩, hz⟩ := pcells ck.1
            refine rcons 11 rfl (by kernel_rfl) (fun K hK => ?_)
            go_simp
            refine (K3.out _).mono ?_; rintro e w2 ⟨rfl, hb⟩
            (try dsimp only)
            refine hK.out _ _ trivial (fun _ => ?_)
            clear hK K
            (try simp only [Act.put, List.setIfInBounds_toArray, List.set_cons_zero, List.set_cons_succ])
            have ck2 := (by first | exact CK.below ck hb | exact CK.below (CK.drew ck) hb : CK w b _ w2)
            clear ck hb c0 c1 c2 c3 c4 c5 c6 c7 g0 g1 g2 g3 g4 g5 g6 g7 hz
            have ck := ck2
            clear ck2
            obtain ⟨⟨c0, c1, c2, c3, c4, c5, c6, c7⟩, ⟨g0, g1, g2, g3, g4, g5, g6, g7⟩, hz⟩ := pcells ck.1
            refine rcons 13 rfl (by kernel_rfl) (fun K hK => ?_)
            go_simp
            refine hK.out _ _ trivial (fun _ => ?_)
            clear hK K
            (try simp only [Act.put, List.setIfInBounds_toArray, List.set_cons_zero, List.set_cons_succ])
            refine tky 14 (some 36) (v := ?_) rfl (by kernel_rfl) (by kernel_rfl) (by kernel_rfl) (fun _ _ _ h => h) ?_ hHeld ?_
            rotate_left
            focus (intro w hSw; go_simp; (try with_reducible rfl); done)
            simp only [Act.put, List.setIfInBounds_toArray, List.set_cons_zero, List.set_cons_succ]
            refine rcons 15 rfl (by kernel_rfl) (fun K hK => ?_)
            go_simp
            refine hK.out _ _ trivial (fun _ => ?_)
            clear hK K
            (try simp only [Act.put, List.setIfInBounds_toArray, List.set_cons_zero, List.set_cons_succ])
            refine tky 16 (some 37) (v := ?_) rfl (by kernel_rfl) (by kernel_rfl) (by kernel_rfl) (fun _ _ _ h => h) ?_ hHeld ?_
            rotate_left
            focus (intro w hSw; go_simp; (try with_reducible rfl); done)
            simp only [Act.put, List.setIfInBounds_toArray, List.set_cons_zero, List.set_cons_succ]
            refine rcons 17 rfl (by kernel_rfl) (fun K hK => ?_)
            go_simp
            refine hK.out _ _ trivial (fun _ => ?_)
            clear hK K
            (try simp only [Act.put, List.setIfInBounds_toArray, List.set_cons_zero, List.set_cons_succ])
            refine wpAnyH_done (by kernel_rfl) ?_ _
            go_wp2_with fail
            go_meet
            exact ((ck.set (i := 1) (.string us2) rfl).set (i := 4) (.string pa2) rfl).set (i := 5) (.string qu2) rfl
          refine acons 5 rfl (fun K hK => ?_) ?_
          · go_simp
            refine hK.out _ _ trivial (fun _ => ?_)
            clear hK K
            (try simp only [Act.put, List.setIfInBounds_toArray, List.set_cons_zero, List.set_cons_succ])
            refine rcons 3 rfl (by kernel_rfl) (fun K hK => ?_)
            go_simp
            refine (K1.out _).mono ?_; rintro e w2 ⟨rfl, hb⟩
            (try dsimp only)
            refine hK.out _ _ trivial (fun _ => ?_)
            clear hK K
            (try simp only [Act.put, List.setIfInBounds_toArray, List.set_cons_zero, List.set_cons_succ])
            have ck2 := (by first | exact CK.below ck hb | exact CK.below (CK.drew ck) hb : CK w b _ w2)
            clear ck hb c0 c1 c2 c3 c4 c5 c6 c7 g0 g1 g2 g3 g4 g5 g6 g7 hz
            have ck := ck2
            clear ck2
            obtain ⟨⟨c0, c1, c2, c3, c4, c5, c6, c7⟩, ⟨g0, g1, g2, g3, g4, g5, g6, g7⟩, hz⟩ := pcells ck.1
            refine tky 12 (some 35) (v := ?_) rfl (by kernel_rfl) (by kernel_rfl) (by kernel_rfl) (fun _ _ _ h => h) ?_ hHeld ?_
            rotate_left
            focus (intro w hSw; go_simp; (try with_reducible rfl); done)
            simp only [Act.put, List.setIfInBounds_toArray, List.set_cons_zero, List.set_cons_succ]
            refine rcons 7 rfl (by kernel_rfl) (fun K hK => ?_)
            go_simp
            refine (K2.out _).mono ?_; rintro e w2 ⟨rfl, hb⟩
            (try dsimp only)
            refine hK.out _ _ trivial (fun _ => ?_)
            clear hK K
            (try simp only [Act.put, List.setIfInBounds_toArray, List.set_cons_zero, List.set_cons_succ])
            have ck2 := (by first | exact CK.below ck hb | exact CK.below (CK.drew ck) hb : CK w b _ w2)
            clear ck hb c0 c1 c2 c3 c4 c5 c6 c7 g0 g1 g2 g3 g4 g5 g6 g7 hz
            have ck := ck2
            clear ck2
            obtain ⟨⟨c0, c1, c2, c3, c4, c5, c6, c7⟩, ⟨g0, g1, g2, g3, g4, g5, g6, g7⟩, hz⟩ := pcells ck.1
            refine rcons 11 rfl (by kernel_rfl) (fun K hK => ?_)
            go_simp
            refine (K3.out _).mono ?_; rintro e w2 ⟨rfl, hb⟩
            (try dsimp only)
            refine hK.out _ _ trivial (fun _ => ?_)
            clear hK K
            (try simp only [Act.put, List.setIfInBounds_toArray, List.set_cons_zero, List.set_cons_succ])
            have ck2 := (by first | exact CK.below ck hb | exact CK.below (CK.drew ck) hb : CK w b _ w2)
            clear ck hb c0 c1 c2 c3 c4 c5 c6 c7 g0 g1 g2 g3 g4 g5 g6 g7 hz
            have ck := ck2
            clear ck2
            obtain ⟨⟨c0, c1, c2, c3, c4, c5, c6, c7⟩, ⟨g0, g1, g2, g3, g4, g5, g6, g7⟩, hz⟩ := pcells ck.1
            refine rcons 13 rfl (by kernel_rfl) (fun K hK => ?_)
            go_simp
            refine hK.out _ _ trivial (fun _ => ?_)
            clear hK K
            (try simp only [Act.put, List.setIfInBounds_toArray, List.set_cons_zero, List.set_cons_succ])
            refine tky 14 (some 36) (v := ?_) rfl (by kernel_rfl) (by kernel_rfl) (by kernel_rfl) (fun _ _ _ h => h) ?_ hHeld ?_
            rotate_left
            focus (intro w hSw; go_simp; (try with_reducible rfl); done)
            simp only [Act.put, List.setIfInBounds_toArray, List.set_cons_zero, List.set_cons_succ]
            refine rcons 15 rfl (by kernel_rfl) (fun K hK => ?_)
            go_simp
            refine hK.out _ _ trivial (fun _ => ?_)
            clear hK K
            (try simp only [Act.put, List.setIfInBounds_toArray, List.set_cons_zero, List.set_cons_succ])
            refine tky 16 (some 37) (v := ?_) rfl (by kernel_rfl) (by kernel_rfl) (by kernel_rfl) (fun _ _ _ h => h) ?_ hHeld ?_
            rotate_left
            focus (intro w hSw; go_simp; (try with_reducible rfl); done)
            simp only [Act.put, List.setIfInBounds_toArray, List.set_cons_zero, List.set_cons_succ]
            refine rcons 17 rfl (by kernel_rfl) (fun K hK => ?_)
            go_simp
            refine hK.out _ _ trivial (fun _ => ?_)
            clear hK K
            (try simp only [Act.put, List.setIfInBounds_toArray, List.set_cons_zero, List.set_cons_succ])
            refine wpAnyH_done (by kernel_rfl) ?_ _
            go_wp2_with fail
            go_meet
            exact ((ck.set (i := 1) (.string us2) rfl).set (i := 4) (.string pa2) rfl).set (i := 5) (.string qu2) rfl
          exact AllReadyH.nil
        refine acons 5 rfl (fun K hK => ?_) ?_
        · go_simp
          refine hK.out _ _ trivial (fun _ => ?_)
          clear hK K
          (try simp only [Act.put, List.setIfInBounds_toArray, List.set_cons_zero, List.set_cons_succ])
          refine rcons 1 rfl (by kernel_rfl) (fun K hK => ?_)
          go_simp
          refine hK.out _ _ trivial (fun _ => ?_)
          clear hK K
          (try simp only [Act.put, List.setIfInBounds_toArray, List.set_cons_zero, List.set_cons_succ])
          refine rcons 3 rfl (by kernel_rfl) (fun K hK => ?_)
          go_simp
          refine (K1.out _).mono ?_; rintro e w2 ⟨rfl, hb⟩
          (try dsimp only)
          refine hK.out _ _ trivial (fun _ => ?_)
          clear hK K
          (try simp only [Act.put, List.setIfInBounds_toArray, List.set_cons_zero, List.set_cons_succ])
          have ck2 := (by first | exact CK.below ck hb | exact CK.below (CK.drew ck) hb : CK w b _ w2)
          clear ck hb c0 c1 c2 c3 c4 c5 c6 c7 g0 g1 g2 g3 g4 g5 g6 g7 hz
          have ck := ck2
          clear ck2
          obtain ⟨⟨c0, c1, c2, c3, c4, c5, c6, c7⟩, ⟨g0, g1, g2, g3, g4, g5, g6, g7⟩, hz⟩ := pcells ck.1
          refine tky 12 (some 35) (v := ?_) rfl (by kernel_rfl) (by kernel_rfl) (by kernel_rfl) (fun _ _ _ h => h) ?_ hHeld ?_
          rotate_left
          focus (intro w hSw; go_simp; (try with_reducible rfl); done)
          simp only [Act.put, List.setIfInBounds_toArray, List.set_cons_zero, List.set_cons_succ]
          refine rcons 7 rfl (by kernel_rfl) (fun K hK => ?_)
          go_simp
          refine (K2.out _).mono ?_; rintro e w2 ⟨rfl, hb⟩
          (try dsimp only)
          refine hK.out _ _ trivial (fun _ => ?_)
          clear hK K
          (try simp only [Act.put, List.setIfInBounds_toArray, List.set_cons_zero, List.set_cons_succ])
          have ck2 := (by first | exact CK.below ck hb | exact CK.below (CK.drew ck) hb : CK w b _ w2)
          clear ck hb c0 c1 c2 c3 c4 c5 c6 c7 g0 g1 g2 g3 g4 g5 g6 g7 hz
          have ck := ck2
          clear ck2
          obtain ⟨⟨c0, c1, c2, c3, c4, c5, c6, c7⟩, ⟨g0, g1, g2, g3, g4, g5, g6, g7⟩, hz⟩ := pcells ck.1
          refine rcons 11 rfl (by kernel_rfl) (fun K hK => ?_)
          go_simp
          refine (K3.out _).mono ?_; rintro e w2 ⟨rfl, hb⟩
          (try dsimp only)
          refine hK.out _ _ trivial (fun _ => ?_)
          clear hK K
          (try simp only [Act.put, List.setIfInBounds_toArray, List.set_cons_zero, List.set_cons_succ])
          have ck2 := (by first | exact CK.below ck hb | exact CK.below (CK.drew ck) hb : CK w b _ w2)
          clear ck hb c0 c1 c2 c3 c4 c5 c6 c7 g0 g1 g2 g3 g4 g5 g6 g7 hz
          have ck := ck2
          clear ck2
          obtain ⟨⟨c0, c1, c2, c3, c4, c5, c6, c7⟩, ⟨g0, g1, g2, g3, g4, g5, g6, g7⟩, hz⟩ := pcells ck.1
          refine rcons 13 rfl (by kernel_rfl) (fun K hK => ?_)
          go_simp
          refine hK.out _ _ trivial (fun _ => ?_)
          clear hK K
          (try simp only [Act.put, List.setIfInBounds_toArray, List.set_cons_zero, List.set_cons_succ])
          refine tky 14 (some 36) (v := ?_) rfl (by kernel_rfl) (by kernel_rfl) (by kernel_rfl) (fun _ _ _ h => h) ?_ hHeld ?_
          rotate_left
          focus (intro w hSw; go_simp; (try with_reducible rfl); done)
          simp only [Act.put, List.setIfInBounds_toArray, List.set_cons_zero, List.set_cons_succ]
          refine rcons 15 rfl (by kernel_rfl) (fun K hK => ?_)
          go_simp
          refine hK.out _ _ trivial (fun _ => ?_)
          clear hK K
          (try simp only [Act.put, List.setIfInBounds_toArray, List.set_cons_zero, List.set_cons_succ])
          refine tky 16 (some 37) (v := ?_) rfl (by kernel_rfl) (by kernel_rfl) (by kernel_rfl) (fun _ _ _ h => h) ?_ hHeld ?_
          rotate_left
          focus (intro w hSw; go_simp; (try with_reducible rfl); done)
          simp only [Act.put, List.setIfInBounds_toArray, List.set_cons_zero, List.set_cons_succ]
          refine rcons 17 rfl (by kernel_rfl) (fun K hK => ?_)
          go_simp
          refine hK.out _ _ trivial (fun _ => ?_)
          clear hK K
          (try simp only [Act.put, List.setIfInBounds_toArray, List.set_cons_zero, List.set_cons_succ])
          refine wpAnyH_done (by kernel_rfl) ?_ _
          go_wp2_with fail
          go_meet
          exact ((ck.set (i := 1) (.string us2) rfl).set (i := 4) (.string pa2) rfl).set (i := 5) (.string qu2) rfl
        exact AllReadyH.nil
      exact AllReadyH.nil
    case rest =>
      clear ck c0 c1 c2 c3 c4 c5 c6 c7 g0 g1 g2 g3 g4 g5 g6 g7 hz
      rename World => wd
      have ck := hcut
      clear hcut
      obtain ⟨⟨c0, c1, c2, c3, c4, c5, c6, c7⟩, ⟨g0, g1, g2, g3, g4, g5, g6, g7⟩, hz⟩ := pcells ck.1
      go_wp2_with fail
      refine (HT.out _).mono ?_; rintro e w9 ⟨rfl, hb⟩
      have hfin := (ck.below hb).2.2.2
      go_wp2_with fail
      go_ret2
      exact ⟨rfl, hfin⟩
end Go.Proofs.YtcocjmbhbddgiaaGreatDoor
