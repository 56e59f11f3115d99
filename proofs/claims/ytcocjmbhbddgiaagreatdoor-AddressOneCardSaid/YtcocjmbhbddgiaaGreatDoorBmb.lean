/- The walk through the reference's Parse (provostref15), no user. -/
import Derived.Test.YtcocjmbhbddgiaaGreatDoorBm
import Derived.Deep.QuietTactic
import Derived.BigQuiet
set_option linter.unusedSimpArgs false
set_option linter.unusedVariables false
namespace Go.Proofs.YtcocjmbhbddgiaaGreatDoor
open Go.RowKit
set_option maxRecDepth 100000 in
set_option maxHeartbeats 8000000 in
theorem rparse_f (s sc s2 hd rt us hd2 ho po pa qu : ByteArray) (hu hq ok : Bool) (n1 n2 n3 n4 n5 : Nat)
    (H1 : Hid (Finds s ⟨#[58]⟩ n1)) (H2 : Hid (Finds s2 ⟨#[47, 63]⟩ n2)) (H3 : Hid (Finds hd ⟨#[64]⟩ n3)) (H4 : Hid (Finds hd2 ⟨#[58]⟩ n4)) (H5 : Hid (Finds rt ⟨#[63]⟩ n5))
    (H6 : Hid (∀ w, Calls Tryz.prog 17 #[.agg #[.string sc, .string us, .string ho, .string po, .string pa, .string qu, .bool hu, .bool hq]] w fun e w' => e = .returned (.bool ok) ∧ Below w.heap.size w w'))
    (hs : s.size ≤ 2048) (hn1 : n1 + 3 ≤ s.size) (h3 : ((s.extract n1 (n1 + 3)).toList == ([58, 47, 47] : List UInt8)) = true)
    (e1 : s.extract 0 n1 = sc) (e2 : s.extract (n1 + 3) s.size = s2) (l2 : s2.size ≤ 2048) (hn2 : n2 ≤ s2.size) (e3 : s2.extract 0 n2 = hd) (e4 : s2.extract n2 s2.size = rt) (l3 : hd.size ≤ 2048) (l4 : rt.size ≤ 2048)
    (hA : hu = false ∧ ¬ n3 < hd.size ∧ us = ⟨#[]⟩ ∧ hd2 = hd) (l5 : hd2.size ≤ 2048)
    (e5 : hd2.extract 0 n4 = ho) (hn4 : n4 ≤ hd2.size) (hB : (n4 < hd2.size ∧ hd2.extract (n4 + 1) hd2.size = po) ∨ (¬ n4 < hd2.size ∧ po = ⟨#[]⟩))
    (e6 : rt.extract 0 n5 = pa) (hn5 : n5 ≤ rt.size) (hC : (hq = true ∧ n5 < rt.size ∧ rt.extract (n5 + 1) rt.size = qu) ∨ (hq = false ∧ ¬ n5 < rt.size ∧ qu = ⟨#[]⟩)) (w : World) :
    Calls Tryz.prog 6 #[.string s] w fun e w' => e = .returned (if ok then .tuple #[.agg #[.string sc, .string us, .string ho, .string po, .string pa, .string qu, .bool hu, .bool hq], .int .i64 0] else .tuple #[zeroA, .int .i64 150]) ∧ Below w.heap.size w w' := by
  unfold zeroA
  have i1 : (0 : Int) ≤ n2 := by omega
  have i2 : (n2 : Int) ≤ s2.size := by omega
  obtain ⟨rfl, a1, rfl, rfl⟩ := hA
  rcases hB with ⟨b1, b2⟩ | ⟨b1, rfl⟩
  · rcases hC with ⟨rfl, q1, q2⟩ | ⟨rfl, q1, rfl⟩
    · go_enter Tryz.func6, Tryz.ntmps6
      go_wp2_with fail
      refine (H1.out _).mono ?_; rintro e w1 ⟨rfl, rfl⟩
      go_wp2_with fail
      refine (H2.out _).mono ?_; rintro e w1 ⟨rfl, rfl⟩
      go_wp2_with fail
      go_quiet (fail)
      obtain ⟨V, hV⟩ : ∃ V, ((w.alloc (.cells #[.string ⟨#[]⟩, .string ⟨#[]⟩, .string ⟨#[]⟩, .string ⟨#[]⟩, .string ⟨#[]⟩, .string ⟨#[]⟩, .bool false, .bool false] 23)).alloc (.cells #[.string sc, .string ⟨#[]⟩, .string ⟨#[]⟩, .string ⟨#[]⟩, .string ⟨#[]⟩, .string ⟨#[]⟩, .bool false, .bool false] 23)).drewN nq = V := ⟨_, rfl⟩
      have hR : V.heap[w.heap.size]? = some (.cells #[.string ⟨#[]⟩, .string ⟨#[]⟩, .string ⟨#[]⟩, .string ⟨#[]⟩, .string ⟨#[]⟩, .string ⟨#[]⟩, .bool false, .bool false] 23 (0, 0)) := by rw [← hV]; exact heap_old (heap_new w _ _ rfl)
      have hA : V.heap[w.heap.size + 1]? = some (.cells #[.string sc, .string ⟨#[]⟩, .string ⟨#[]⟩, .string ⟨#[]⟩, .string ⟨#[]⟩, .string ⟨#[]⟩, .bool false, .bool false] 23 (0, 0)) := by rw [← hV]; exact heap_new _ _ _ (by simp)
      have hVb : Below w.heap.size w V := by
        rw [← hV]
        exact Below.trans (show Below w.heap.size w ((w.alloc (.cells #[.string ⟨#[]⟩, .string ⟨#[]⟩, .string ⟨#[]⟩, .string ⟨#[]⟩, .string ⟨#[]⟩, .string ⟨#[]⟩, .bool false, .bool false] 23)).alloc (.cells #[.string sc, .string ⟨#[]⟩, .string ⟨#[]⟩, .string ⟨#[]⟩, .string ⟨#[]⟩, .string ⟨#[]⟩, .bool false, .bool false] 23)) by go_grown) ⟨rfl, rfl, rfl, Nat.le_refl _, fun _ _ => rfl⟩
      rw [hV]
      clear hV
      obtain ⟨⟨c0, c1, c2, c3, c4, c5, c6, c7⟩, ⟨g0, g1, g2, g3, g4, g5, g6, g7⟩, hz⟩ := pcells hA
      have HA := Lib.hid hA
      have HR := Lib.hid hR
      clear hA hR
      go_wp2_with fail
      refine (H3.out _).mono ?_; rintro e w1 ⟨rfl, rfl⟩
      go_wp2_with fail
      refine (H4.out _).mono ?_; rintro e w1 ⟨rfl, rfl⟩
      go_wp2_with fail
      refine (H5.out _).mono ?_; rintro e w1 ⟨rfl, rfl⟩
      go_wp2_with fail
      refine (H6.out _).mono ?_; rintro e w7 ⟨rfl, hb⟩
      have hA := HA.out
      have hR := HR.out
      have hA7 : w7.heap[w.heap.size + 1]? = some (.cells #[.string sc, .string ⟨#[]⟩, .string ho, .string po, .string pa, .string qu, .bool false, .bool true] 23 (0, 0)) := (hb.block _ (heap_lt (pset (i := 5) (pset (i := 7) (pset (i := 4) (pset (i := 3) (pset (i := 2) hA (.string ho) rfl) (.string po) rfl) (.string pa) rfl) (.bool true) rfl) (.string qu) rfl))).trans (pset (i := 5) (pset (i := 7) (pset (i := 4) (pset (i := 3) (pset (i := 2) hA (.string ho) rfl) (.string po) rfl) (.string pa) rfl) (.bool true) rfl) (.string qu) rfl)
      have hR7 : w7.heap[w.heap.size]? = some (.cells #[.string ⟨#[]⟩, .string ⟨#[]⟩, .string ⟨#[]⟩, .string ⟨#[]⟩, .string ⟨#[]⟩, .string ⟨#[]⟩, .bool false, .bool false] 23 (0, 0)) := (hb.block _ (heap_lt (pother (b' := w.heap.size + 1) (i := 5) (pother (b' := w.heap.size + 1) (i := 7) (pother (b' := w.heap.size + 1) (i := 4) (pother (b' := w.heap.size + 1) (i := 3) (pother (b' := w.heap.size + 1) (i := 2) hR (.string ho) (by omega)) (.string po) (by omega)) (.string pa) (by omega)) (.bool true) (by omega)) (.string qu) (by omega)))).trans (pother (b' := w.heap.size + 1) (i := 5) (pother (b' := w.heap.size + 1) (i := 7) (pother (b' := w.heap.size + 1) (i := 4) (pother (b' := w.heap.size + 1) (i := 3) (pother (b' := w.heap.size + 1) (i := 2) hR (.string ho) (by omega)) (.string po) (by omega)) (.string pa) (by omega)) (.bool true) (by omega)) (.string qu) (by omega))
      have hbw : Below w.heap.size w w7 := (show Below w.heap.size w _ by go_grown).trans (hb.mono (by simp; omega))
      clear hb hA hR HA HR hz c0 c1 c2 c3 c4 c5 c6 c7 g0 g1 g2 g3 g4 g5 g6 g7
      obtain ⟨⟨c0, c1, c2, c3, c4, c5, c6, c7⟩, ⟨g0, g1, g2, g3, g4, g5, g6, g7⟩, hz⟩ := pcells hA7
      obtain ⟨⟨r0, r1, r2, r3, r4, r5, r6, r7⟩, ⟨s0, s1, s2, s3, s4, s5, s6, s7⟩, hz2⟩ := pcells hR7
      clear hA7 hR7 H1 H2 H3 H4 H5 H6 hVb
      cases ok
      · go_wp2_with fail
        refine bodyPost_ret (v := .tuple #[.agg #[.string ⟨#[]⟩, .string ⟨#[]⟩, .string ⟨#[]⟩, .string ⟨#[]⟩, .string ⟨#[]⟩, .string ⟨#[]⟩, .bool false, .bool false], .int .i64 150]) (by simp [results, Tryz.results6, go_sem, *]) rfl ⟨rfl, ?_⟩
        go_grown
      · go_wp2_with fail
        refine bodyPost_ret (v := .tuple #[.agg #[.string sc, .string ⟨#[]⟩, .string ho, .string po, .string pa, .string qu, .bool false, .bool true], .int .i64 0]) (by simp [results, Tryz.results6, go_sem, *]) rfl ⟨rfl, ?_⟩
        go_grown
    · go_enter Tryz.func6, Tryz.ntmps6
      go_wp2_with fail
      refine (H1.out _).mono ?_; rintro e w1 ⟨rfl, rfl⟩
      go_wp2_with fail
      refine (H2.out _).mono ?_; rintro e w1 ⟨rfl, rfl⟩
      go_wp2_with fail
      go_quiet (fail)
      obtain ⟨V, hV⟩ : ∃ V, ((w.alloc (.cells #[.string ⟨#[]⟩, .string ⟨#[]⟩, .string ⟨#[]⟩, .string ⟨#[]⟩, .string ⟨#[]⟩, .string ⟨#[]⟩, .bool false, .bool false] 23)).alloc (.cells #[.string sc, .string ⟨#[]⟩, .string ⟨#[]⟩, .string ⟨#[]⟩, .string ⟨#[]⟩, .string ⟨#[]⟩, .bool false, .bool false] 23)).drewN nq = V := ⟨_, rfl⟩
      have hR : V.heap[w.heap.size]? = some (.cells #[.string ⟨#[]⟩, .string ⟨#[]⟩, .string ⟨#[]⟩, .string ⟨#[]⟩, .string ⟨#[]⟩, .string ⟨#[]⟩, .bool false, .bool false] 23 (0, 0)) := by rw [← hV]; exact heap_old (heap_new w _ _ rfl)
      have hA : V.heap[w.heap.size + 1]? = some (.cells #[.string sc, .string ⟨#[]⟩, .string ⟨#[]⟩, .string ⟨#[]⟩, .string ⟨#[]⟩, .string ⟨#[]⟩, .bool false, .bool false] 23 (0, 0)) := by rw [← hV]; exact heap_new _ _ _ (by simp)
      have hVb : Below w.heap.size w V := by
        rw [← hV]
        exact Below.trans (show Below w.heap.size w ((w.alloc (.cells #[.string ⟨#[]⟩, .string ⟨#[]⟩, .string ⟨#[]⟩, .string ⟨#[]⟩, .string ⟨#[]⟩, .string ⟨#[]⟩, .bool false, .bool false] 23)).alloc (.cells #[.string sc, .string ⟨#[]⟩, .string ⟨#[]⟩, .string ⟨#[]⟩, .string ⟨#[]⟩, .string ⟨#[]⟩, .bool false, .bool false] 23)) by go_grown) ⟨rfl, rfl, rfl, Nat.le_refl _, fun _ _ => rfl⟩
      rw [hV]
      clear hV
      obtain ⟨⟨c0, c1, c2, c3, c4, c5, c6, c7⟩, ⟨g0, g1, g2, g3, g4, g5, g6, g7⟩, hz⟩ := pcells hA
      have HA := Lib.hid hA
      have HR := Lib.hid hR
      clear hA hR
      go_wp2_with fail
      refine (H3.out _).mono ?_; rintro e w1 ⟨rfl, rfl⟩
      go_wp2_with fail
      refine (H4.out _).mono ?_; rintro e w1 ⟨rfl, rfl⟩
      go_wp2_with fail
      refine (H5.out _).mono ?_; rintro e w1 ⟨rfl, rfl⟩
      go_wp2_with fail
      refine (H6.out _).mono ?_; rintro e w7 ⟨rfl, hb⟩
      have hA := HA.out
      have hR := HR.out
      have hA7 : w7.heap[w.heap.size + 1]? = some (.cells #[.string sc, .string ⟨#[]⟩, .string ho, .string po, .string pa, .string ⟨#[]⟩, .bool false, .bool false] 23 (0, 0)) := (hb.block _ (heap_lt (pset (i := 4) (pset (i := 3) (pset (i := 2) hA (.string ho) rfl) (.string po) rfl) (.string pa) rfl))).trans (pset (i := 4) (pset (i := 3) (pset (i := 2) hA (.string ho) rfl) (.string po) rfl) (.string pa) rfl)
      have hR7 : w7.heap[w.heap.size]? = some (.cells #[.string ⟨#[]⟩, .string ⟨#[]⟩, .string ⟨#[]⟩, .string ⟨#[]⟩, .string ⟨#[]⟩, .string ⟨#[]⟩, .bool false, .bool false] 23 (0, 0)) := (hb.block _ (heap_lt (pother (b' := w.heap.size + 1) (i := 4) (pother (b' := w.heap.size + 1) (i := 3) (pother (b' := w.heap.size + 1) (i := 2) hR (.string ho) (by omega)) (.string po) (by omega)) (.string pa) (by omega)))).trans (pother (b' := w.heap.size + 1) (i := 4) (pother (b' := w.heap.size + 1) (i := 3) (pother (b' := w.heap.size + 1) (i := 2) hR (.string ho) (by omega)) (.string po) (by omega)) (.string pa) (by omega))
      have hbw : Below w.heap.size w w7 := (show Below w.heap.size w _ by go_grown).trans (hb.mono (by simp; omega))
      clear hb hA hR HA HR hz c0 c1 c2 c3 c4 c5 c6 c7 g0 g1 g2 g3 g4 g5 g6 g7
      obtain ⟨⟨c0, c1, c2, c3, c4, c5, c6, c7⟩, ⟨g0, g1, g2, g3, g4, g5, g6, g7⟩, hz⟩ := pcells hA7
      obtain ⟨⟨r0, r1, r2, r3, r4, r5, r6, r7⟩, ⟨s0, s1, s2, s3, s4, s5, s6, s7⟩, hz2⟩ := pcells hR7
      clear hA7 hR7 H1 H2 H3 H4 H5 H6 hVb
      cases ok
      · go_wp2_with fail
        refine bodyPost_ret (v := .tuple #[.agg #[.string ⟨#[]⟩, .string ⟨#[]⟩, .string ⟨#[]⟩, .string ⟨#[]⟩, .string ⟨#[]⟩, .string ⟨#[]⟩, .bool false, .bool false], .int .i64 150]) (by simp [results, Tryz.results6, go_sem, *]) rfl ⟨rfl, ?_⟩
        go_grown
      · go_wp2_with fail
        refine bodyPost_ret (v := .tuple #[.agg #[.string sc, .string ⟨#[]⟩, .string ho, .string po, .string pa, .string ⟨#[]⟩, .bool false, .bool false], .int .i64 0]) (by simp [results, Tryz.results6, go_sem, *]) rfl ⟨rfl, ?_⟩
        go_grown
  · rcases hC with ⟨rfl, q1, q2⟩ | ⟨rfl, q1, rfl⟩
    · go_enter Tryz.func6, Tryz.ntmps6
      go_wp2_with fail
      refine (H1.out _).mono ?_; rintro e w1 ⟨rfl, rfl⟩
      go_wp2_with fail
      refine (H2.out _).mono ?_; rintro e w1 ⟨rfl, rfl⟩
      go_wp2_with fail
      go_quiet (fail)
      obtain ⟨V, hV⟩ : ∃ V, ((w.alloc (.cells #[.string ⟨#[]⟩, .string ⟨#[]⟩, .string ⟨#[]⟩, .string ⟨#[]⟩, .string ⟨#[]⟩, .string ⟨#[]⟩, .bool false, .bool false] 23)).alloc (.cells #[.string sc, .string ⟨#[]⟩, .string ⟨#[]⟩, .string ⟨#[]⟩, .string ⟨#[]⟩, .string ⟨#[]⟩, .bool false, .bool false] 23)).drewN nq = V := ⟨_, rfl⟩
      have hR : V.heap[w.heap.size]? = some (.cells #[.string ⟨#[]⟩, .string ⟨#[]⟩, .string ⟨#[]⟩, .string ⟨#[]⟩, .string ⟨#[]⟩, .string ⟨#[]⟩, .bool false, .bool false] 23 (0, 0)) := by rw [← hV]; exact heap_old (heap_new w _ _ rfl)
      have hA : V.heap[w.heap.size + 1]? = some (.cells #[.string sc, .string ⟨#[]⟩, .string ⟨#[]⟩, .string ⟨#[]⟩, .string ⟨#[]⟩, .string ⟨#[]⟩, .bool false, .bool false] 23 (0, 0)) := by rw [← hV]; exact heap_new _ _ _ (by simp)
      have hVb : Below w.heap.size w V := by
        rw [← hV]
        exact Below.trans (show Below w.heap.size w ((w.alloc (.cells #[.string ⟨#[]⟩, .string ⟨#[]⟩, .string ⟨#[]⟩, .string ⟨#[]⟩, .string ⟨#[]⟩, .string ⟨#[]⟩, .bool false, .bool false] 23)).alloc (.cells #[.string sc, .string ⟨#[]⟩, .string ⟨#[]⟩, .string ⟨#[]⟩, .string ⟨#[]⟩, .string ⟨#[]⟩, .bool false, .bool false] 23)) by go_grown) ⟨rfl, rfl, rfl, Nat.le_refl _, fun _ _ => rfl⟩
      rw [hV]
      clear hV
      obtain ⟨⟨c0, c1, c2, c3, c4, c5, c6, c7⟩, ⟨g0, g1, g2, g3, g4, g5, g6, g7⟩, hz⟩ := pcells hA
      have HA := Lib.hid hA
      have HR := Lib.hid hR
      clear hA hR
      go_wp2_with fail
      refine (H3.out _).mono ?_; rintro e w1 ⟨rfl, rfl⟩
      go_wp2_with fail
      refine (H4.out _).mono ?_; rintro e w1 ⟨rfl, rfl⟩
      go_wp2_with fail
      refine (H5.out _).mono ?_; rintro e w1 ⟨rfl, rfl⟩
      go_wp2_with fail
      refine (H6.out _).mono ?_; rintro e w7 ⟨rfl, hb⟩
      have hA := HA.out
      have hR := HR.out
      have hA7 : w7.heap[w.heap.size + 1]? = some (.cells #[.string sc, .string ⟨#[]⟩, .string ho, .string ⟨#[]⟩, .string pa, .string qu, .bool false, .bool true] 23 (0, 0)) := (hb.block _ (heap_lt (pset (i := 5) (pset (i := 7) (pset (i := 4) (pset (i := 2) hA (.string ho) rfl) (.string pa) rfl) (.bool true) rfl) (.string qu) rfl))).trans (pset (i := 5) (pset (i := 7) (pset (i := 4) (pset (i := 2) hA (.string ho) rfl) (.string pa) rfl) (.bool true) rfl) (.string qu) rfl)
      have hR7 : w7.heap[w.heap.size]? = some (.cells #[.string ⟨#[]⟩, .string ⟨#[]⟩, .string ⟨#[]⟩, .string ⟨#[]⟩, .string ⟨#[]⟩, .string ⟨#[]⟩, .bool false, .bool false] 23 (0, 0)) := (hb.block _ (heap_lt (pother (b' := w.heap.size + 1) (i := 5) (pother (b' := w.heap.size + 1) (i := 7) (pother (b' := w.heap.size + 1) (i := 4) (pother (b' := w.heap.size + 1) (i := 2) hR (.string ho) (by omega)) (.string pa) (by omega)) (.bool true) (by omega)) (.string qu) (by omega)))).trans (pother (b' := w.heap.size + 1) (i := 5) (pother (b' := w.heap.size + 1) (i := 7) (pother (b' := w.heap.size + 1) (i := 4) (pother (b' := w.heap.size + 1) (i := 2) hR (.string ho) (by omega)) (.string pa) (by omega)) (.bool true) (by omega)) (.string qu) (by omega))
      have hbw : Below w.heap.size w w7 := (show Below w.heap.size w _ by go_grown).trans (hb.mono (by simp; omega))
      clear hb hA hR HA HR hz c0 c1 c2 c3 c4 c5 c6 c7 g0 g1 g2 g3 g4 g5 g6 g7
      obtain ⟨⟨c0, c1, c2, c3, c4, c5, c6, c7⟩, ⟨g0, g1, g2, g3, g4, g5, g6, g7⟩, hz⟩ := pcells hA7
      obtain ⟨⟨r0, r1, r2, r3, r4, r5, r6, r7⟩, ⟨s0, s1, s2, s3, s4, s5, s6, s7⟩, hz2⟩ := pcells hR7
      clear hA7 hR7 H1 H2 H3 H4 H5 H6 hVb
      cases ok
      · go_wp2_with fail
        refine bodyPost_ret (v := .tuple #[.agg #[.string ⟨#[]⟩, .string ⟨#[]⟩, .string ⟨#[]⟩, .string ⟨#[]⟩, .string ⟨#[]⟩, .string ⟨#[]⟩, .bool false, .bool false], .int .i64 150]) (by simp [results, Tryz.results6, go_sem, *]) rfl ⟨rfl, ?_⟩
        go_grown
      · go_wp2_with fail
        refine bodyPost_ret (v := .tuple #[.agg #[.string sc, .string ⟨#[]⟩, .string ho, .string ⟨#[]⟩, .string pa, .string qu, .bool false, .bool true], .int .i64 0]) (by simp [results, Tryz.results6, go_sem, *]) rfl ⟨rfl, ?_⟩
        go_grown
    · go_enter Tryz.func6, Tryz.ntmps6
      go_wp2_with fail
      refine (H1.out _).mono ?_; rintro e w1 ⟨rfl, rfl⟩
      go_wp2_with fail
      refine (H2.out _).mono ?_; rintro e w1 ⟨rfl, rfl⟩
      go_wp2_with fail
      go_quiet (fail)
      obtain ⟨V, hV⟩ : ∃ V, ((w.alloc (.cells #[.string ⟨#[]⟩, .string ⟨#[]⟩, .string ⟨#[]⟩, .string ⟨#[]⟩, .string ⟨#[]⟩, .string ⟨#[]⟩, .bool false, .bool false] 23)).alloc (.cells #[.string sc, .string ⟨#[]⟩, .string ⟨#[]⟩, .string ⟨#[]⟩, .string ⟨#[]⟩, .string ⟨#[]⟩, .bool false, .bool false] 23)).drewN nq = V := ⟨_, rfl⟩
      have hR : V.heap[w.heap.size]? = some (.cells #[.string ⟨#[]⟩, .string ⟨#[]⟩, .string ⟨#[]⟩, .string ⟨#[]⟩, .string ⟨#[]⟩, .string ⟨#[]⟩, .bool false, .bool false] 23 (0, 0)) := by rw [← hV]; exact heap_old (heap_new w _ _ rfl)
      have hA : V.heap[w.heap.size + 1]? = some (.cells #[.string sc, .string ⟨#[]⟩, .string ⟨#[]⟩, .string ⟨#[]⟩, .string ⟨#[]⟩, .string ⟨#[]⟩, .bool false, .bool false] 23 (0, 0)) := by rw [← hV]; exact heap_new _ _ _ (by simp)
      have hVb : Below w.heap.size w V := by
        rw [← hV]
        exact Below.trans (show Below w.heap.size w ((w.alloc (.cells #[.string ⟨#[]⟩, .string ⟨#[]⟩, .string ⟨#[]⟩, .string ⟨#[]⟩, .string ⟨#[]⟩, .string ⟨#[]⟩, .bool false, .bool false] 23)).alloc (.cells #[.string sc, .string ⟨#[]⟩, .string ⟨#[]⟩, .string ⟨#[]⟩, .string ⟨#[]⟩, .string ⟨#[]⟩, .bool false, .bool false] 23)) by go_grown) ⟨rfl, rfl, rfl, Nat.le_refl _, fun _ _ => rfl⟩
      rw [hV]
      clear hV
      obtain ⟨⟨c0, c1, c2, c3, c4, c5, c6, c7⟩, ⟨g0, g1, g2, g3, g4, g5, g6, g7⟩, hz⟩ := pcells hA
      have HA := Lib.hid hA
      have HR := Lib.hid hR
      clear hA hR
      go_wp2_with fail
      refine (H3.out _).mono ?_; rintro e w1 ⟨rfl, rfl⟩
      go_wp2_with fail
      refine (H4.out _).mono ?_; rintro e w1 ⟨rfl, rfl⟩
      go_wp2_with fail
      refine (H5.out _).mono ?_; rintro e w1 ⟨rfl, rfl⟩
      go_wp2_with fail
      refine (H6.out _).mono ?_; rintro e w7 ⟨rfl, hb⟩
      have hA := HA.out
      have hR := HR.out
      have hA7 : w7.heap[w.heap.size + 1]? = some (.cells #[.string sc, .string ⟨#[]⟩, .string ho, .string ⟨#[]⟩, .string pa, .string ⟨#[]⟩, .bool false, .bool false] 23 (0, 0)) := (hb.block _ (heap_lt (pset (i := 4) (pset (i := 2) hA (.string ho) rfl) (.string pa) rfl))).trans (pset (i := 4) (pset (i := 2) hA (.string ho) rfl) (.string pa) rfl)
      have hR7 : w7.heap[w.heap.size]? = some (.cells #[.string ⟨#[]⟩, .string ⟨#[]⟩, .string ⟨#[]⟩, .string ⟨#[]⟩, .string ⟨#[]⟩, .string ⟨#[]⟩, .bool false, .bool false] 23 (0, 0)) := (hb.block _ (heap_lt (pother (b' := w.heap.size + 1) (i := 4) (pother (b' := w.heap.size + 1) (i := 2) hR (.string ho) (by omega)) (.string pa) (by omega)))).trans (pother (b' := w.heap.size + 1) (i := 4) (pother (b' := w.heap.size + 1) (i := 2) hR (.string ho) (by omega)) (.string pa) (by omega))
      have hbw : Below w.heap.size w w7 := (show Below w.heap.size w _ by go_grown).trans (hb.mono (by simp; omega))
      clear hb hA hR HA HR hz c0 c1 c2 c3 c4 c5 c6 c7 g0 g1 g2 g3 g4 g5 g6 g7
      obtain ⟨⟨c0, c1, c2, c3, c4, c5, c6, c7⟩, ⟨g0, g1, g2, g3, g4, g5, g6, g7⟩, hz⟩ := pcells hA7
      obtain ⟨⟨r0, r1, r2, r3, r4, r5, r6, r7⟩, ⟨s0, s1, s2, s3, s4, s5, s6, s7⟩, hz2⟩ := pcells hR7
      clear hA7 hR7 H1 H2 H3 H4 H5 H6 hVb
      cases ok
      · go_wp2_with fail
        refine bodyPost_ret (v := .tuple #[.agg #[.string ⟨#[]⟩, .string ⟨#[]⟩, .string ⟨#[]⟩, .string ⟨#[]⟩, .string ⟨#[]⟩, .string ⟨#[]⟩, .bool false, .bool false], .int .i64 150]) (by simp [results, Tryz.results6, go_sem, *]) rfl ⟨rfl, ?_⟩
        go_grown
      · go_wp2_with fail
        refine bodyPost_ret (v := .tuple #[.agg #[.string sc, .string ⟨#[]⟩, .string ho, .string ⟨#[]⟩, .string pa, .string ⟨#[]⟩, .bool false, .bool false], .int .i64 0]) (by simp [results, Tryz.results6, go_sem, *]) rfl ⟨rfl, ?_⟩
        go_grown
end Go.Proofs.YtcocjmbhbddgiaaGreatDoor
