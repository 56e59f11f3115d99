/- The law SdlTells: walked whole. -/
import Derived.Test.YtgacpmdebjndkaaGreatDoorDr
import Derived.Test.YtgacpmdebjndkaaGreatDoorDj
import Derived.Test.YtgacpmdebjndkaaGreatDoorDk
set_option linter.unusedSimpArgs false
set_option linter.unusedVariables false
namespace Go.Proofs.YtgacpmdebjndkaaGreatDoor
open Go.RowKit
/-! ### What is not great is small -/
theorem args_small {A : List ArgD} (hA : ArgB A) (hg : greatAB A = false) : ArgsSm A := (args_sm hA hg).1
theorem dirs_small {A : List DirD} (hA : DirsB A) (hg : greatDB A = false) : DirsSm A := by
  obtain ⟨h1, h2⟩ := greatDB_parts hg
  exact ⟨by omega, fun x hx => ⟨by have := (h2 x hx).2; omega, args_small (hA.2 x hx).2 (h2 x hx).1⟩⟩
theorem cels_small {V : List Cel} (hV : CelB V) (hg : greatV V 60 = false) : SmallV V := by
  obtain ⟨p1, p2⟩ := greatV_parts hg
  refine ⟨by omega, fun c hc => ?_⟩
  obtain ⟨q1, q2⟩ := p2 c hc
  obtain ⟨_, _, q3, q4⟩ := hV.2 c hc
  exact ⟨by omega, by omega, q3, q4⟩
theorem ml {n : Nat} (h : n ≤ maxLen) : n ≤ 9223372036854775807 := by unfold maxLen at h; omega
theorem inps_small {L : List Inp} (hb : InpsB L) (hg : NGIs L) : InpsSm L := by
  refine ⟨by have := hg.1; omega, fun x hx => ?_⟩
  obtain ⟨a1, a2, a3, a4, a5⟩ := hb.2 x hx
  obtain ⟨c1, c2, c3⟩ := hg.2 x hx
  exact ⟨ml a1, ml a2, by omega, cels_small a4 c1, dirs_small a5 c2⟩
theorem dfns_small {L : List Dfn} (hb : DfnsB L) (hg : L.length ≤ 20 ∧ ∀ x ∈ L, NGD x) : DfnsSm L := by
  refine ⟨by have := hg.1; omega, fun x hx => ?_⟩
  obtain ⟨a1, a2, a3, a4, a5⟩ := hb.2 x hx
  obtain ⟨c1, c2, c3, c4, c5, c6, c7⟩ := hg.2 x hx
  refine ⟨by omega, dirs_small a2 c1, ⟨by omega, fun s hs => by have := c7 s hs; omega⟩, inps_small a4 c2, ⟨by omega, fun f hf => ?_⟩⟩
  obtain ⟨b1, b2, b3, b4, b5⟩ := a5.2 f hf
  obtain ⟨e1, e2, e3⟩ := c6 f hf
  exact ⟨ml b1, ml b3, by omega, inps_small b2 e2, dirs_small b5 e1⟩
set_option maxRecDepth 100000 in
set_option maxHeartbeats 4000000 in
theorem st_go (u v : Value) (P1 P2 : Prop) (q : Int) (r : Bool) (w : World)
    (G1 : Hid (∀ W, Below w.heap.size w W → Calls Tryz.prog 4 #[u] W (GreatR P1 W)))
    (G2 : Hid (∀ W, Below w.heap.size w W → Calls Tryz.prog 4 #[v] W (GreatR P2 W)))
    (C1 : Hid (P1 → P2 → ∀ W, Below w.heap.size w W → Calls Tryz.prog 5 #[u] W fun e w' => e = .returned (.int .i64 q) ∧ Below W.heap.size W w'))
    (C2 : Hid (P1 → P2 → ∀ W, Below w.heap.size w W → Calls Tryz.prog 6 #[u] W fun e w' => e = .returned (.int .i64 q) ∧ Below W.heap.size W w'))
    (C3 : Hid (P1 → P2 → ∀ W, Below w.heap.size w W → Calls Tryz.prog 7 #[u, v] W fun e w' => e = .returned (.bool r) ∧ Below W.heap.size W w'))
    (C4 : Hid (P1 → P2 → ∀ W, Below w.heap.size w W → Calls Tryz.prog 8 #[u, v] W fun e w' => e = .returned (.bool r) ∧ Below W.heap.size W w'))
    (C5 : Hid (P1 → P2 → ∀ W, Below w.heap.size w W → Calls Tryz.prog 7 #[u, u] W fun e w' => e = .returned (.bool true) ∧ Below W.heap.size W w')) :
    Calls Tryz.prog 3 #[u, v] w fun e w' => e = .returned (.bool true) ∧ Below w.heap.size w w' := by
  have HK : ∀ {W W' : World}, Hid (Below w.heap.size w W) → Below W.heap.size W W' → Hid (Below w.heap.size w W') := fun h h' => Lib.hid (h.out.trans (h'.mono h.out.size))
  have HB0 : Hid (Below w.heap.size w w) := Lib.hid (Below.refl _ _)
  go_enter Tryz.func3, Tryz.ntmps3
  go_wp2_with fail
  refine (G1.out _ HB0.out).mono ?_; rintro e w1 ⟨g1, rfl, hg1, hb⟩
  have HB1 := HK HB0 hb
  clear hb
  have HG1 := Lib.hid hg1
  clear hg1
  cases g1 with
  | true =>
    go_wp2_with fail
    go_ret
    exact ⟨rfl, HB1.out⟩
  | false =>
  go_wp2_with fail
  refine (G2.out _ HB1.out).mono ?_; rintro e w2 ⟨g2, rfl, hg2, hb⟩
  have HB2 := HK HB1 hb
  clear hb
  have HG2 := Lib.hid hg2
  clear hg2
  cases g2 with
  | true =>
    go_wp2_with fail
    go_ret
    exact ⟨rfl, HB2.out⟩
  | false =>
  have D1 := Lib.hid (C1.out (HG1.out (by first | exact rfl | trivial)) (HG2.out (by first | exact rfl | trivial)))
  have D2 := Lib.hid (C2.out (HG1.out (by first | exact rfl | trivial)) (HG2.out (by first | exact rfl | trivial)))
  have D3 := Lib.hid (C3.out (HG1.out (by first | exact rfl | trivial)) (HG2.out (by first | exact rfl | trivial)))
  have D4 := Lib.hid (C4.out (HG1.out (by first | exact rfl | trivial)) (HG2.out (by first | exact rfl | trivial)))
  have D5 := Lib.hid (C5.out (HG1.out (by first | exact rfl | trivial)) (HG2.out (by first | exact rfl | trivial)))
  clear C1 C2 C3 C4 C5
  go_wp2_with fail
  refine (D1.out _ HB2.out).mono ?_; rintro e w3 ⟨rfl, hb⟩
  have HB3 := HK HB2 hb
  clear hb
  go_wp2_with fail
  refine (D2.out _ HB3.out).mono ?_; rintro e w4 ⟨rfl, hb⟩
  have HB4 := HK HB3 hb
  clear hb
  go_wp2_with fail
  refine (D3.out _ HB4.out).mono ?_; rintro e w5 ⟨rfl, hb⟩
  have HB5 := HK HB4 hb
  clear hb
  go_wp2_with fail
  refine (D4.out _ HB5.out).mono ?_; rintro e w6 ⟨rfl, hb⟩
  have HB6 := HK HB5 hb
  clear hb
  go_wp2_with fail
  refine (D5.out _ HB6.out).mono ?_; rintro e w7 ⟨rfl, hb⟩
  have HB7 := HK HB6 hb
  clear hb
  go_wp2_with fail
  go_ret
  exact ⟨rfl, HB7.out⟩
theorem slg_form {α : Type} {k : Nat} {E : Addr → α → World → Prop} {v : Value} {L : List α} {w : World} (h : SlG k E v L w) : ∃ a n c, v = .slice a n c := by
  rcases h with ⟨a, c, e, _⟩ | ⟨b, off, c, e, _⟩
  · exact ⟨_, _, _, e⟩
  · exact ⟨_, _, _, e⟩
theorem sdltells_walk (L : List Dfn) (u : Value) (w : World) (su : DfnSl u L w) (lu : DfnsB L) (M : List Dfn) (v : Value) (sv : DfnSl v M w) (lv : DfnsB M) (hU : EnvU w) :
    Calls Tryz.prog 3 #[u, v] w fun e w' => e = .returned (.bool true) ∧ Below w.heap.size w w' := by
  obtain ⟨a, n, c, hu⟩ := slg_form su
  refine st_go u v (L.length ≤ 20 ∧ ∀ x ∈ L, NGD x) (M.length ≤ 20 ∧ ∀ x ∈ M, NGD x) (if defsB L then 0 else 8) (eqB L M) w ?_ ?_ ?_ ?_ ?_ ?_ ?_
  · exact Lib.hid fun W hW => g20_any L u W (DfnSl.below su hW) lu
  · exact Lib.hid fun W hW => g20_any M v W (DfnSl.below sv hW) lv
  · refine Lib.hid fun p1 p2 W hW => ?_
    subst hu
    exact schk_any L a n c W (DfnSl.below su hW) (dfns_small lu p1) (hU.below hW)
  · exact Lib.hid fun p1 p2 W hW => rchk20_any L u W (DfnSl.below su hW) (dfns_small lu p1)
  · exact Lib.hid fun p1 p2 W hW => sdefs_any L M u v W (DfnSl.below su hW) (DfnSl.below sv hW) (dfns_small lu p1) (dfns_small lv p2)
  · exact Lib.hid fun p1 p2 W hW => rsm_any L M u v (dfns_small lu p1).1 (dfns_small lv p2).1 W (DfnSl.below su hW) (DfnSl.below sv hW) (dfns_small lu p1).2 (dfns_small lv p2).2
  · refine Lib.hid fun p1 p2 W hW => ?_
    have := sdefs_any L L u u W (DfnSl.below su hW) (DfnSl.below su hW) (dfns_small lu p1) (dfns_small lu p1)
    rw [eqB_self] at this
    exact this
end Go.Proofs.YtgacpmdebjndkaaGreatDoor
