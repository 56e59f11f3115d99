/- The walk through made (address), over byteOf's contract: under way. -/
import Derived.Test.YtcocjmbhbddgiaaGreatDoorAg
import Derived.Deep.RegionWith
import Derived.Deep.RegionHeld3
set_option linter.unusedSimpArgs false
set_option linter.unusedVariables false
namespace Go.Proofs.YtcocjmbhbddgiaaGreatDoor
open Go.RowKit
theorem keep8 {w W w1 : World} {b : Nat} {y0 y1 y2 y3 : Value} (h : W.cell? ⟨b, 0, none⟩ = some y0 ∧ W.cell? ⟨b, 1, none⟩ = some y1 ∧ W.cell? ⟨b, 2, none⟩ = some y2 ∧ W.cell? ⟨b, 3, none⟩ = some y3 ∧ b < W.heap.size ∧ Below w.heap.size w W) (hb : Below W.heap.size W w1) :
    w1.cell? ⟨b, 0, none⟩ = some y0 ∧ w1.cell? ⟨b, 1, none⟩ = some y1 ∧ w1.cell? ⟨b, 2, none⟩ = some y2 ∧ w1.cell? ⟨b, 3, none⟩ = some y3 ∧ b < w1.heap.size ∧ Below w.heap.size w w1 := by
  obtain ⟨h0, h1, h2, h3, hl, hw⟩ := h
  obtain ⟨cc, ff⟩ := bcell hb
  exact ⟨(cc _ _ hl).trans h0, (cc _ _ hl).trans h1, (cc _ _ hl).trans h2, (cc _ _ hl).trans h3, Nat.lt_of_lt_of_le hl hb.size, hw.trans (hb.mono hw.size)⟩
theorem ext_drop (s : ByteArray) (j : Nat) : (s.extract j s.size).data.toList = s.data.toList.drop j := by
  rw [ByteArray.data_extract, Array.toList_extract, List.extract_eq_take_drop]
  exact List.take_of_length_le (by rw [List.length_drop, Array.length_toList]; exact Nat.le_refl _)
set_option maxRecDepth 100000 in
set_option maxHeartbeats 2000000 in
theorem made_any (HB : Hid (∀ (s : ByteArray) (w : World), s.size ≤ 1000000 → Calls Tryz.prog 40 #[.string s] w fun e w' => (∃ n : Int, e = .returned (.tuple #[.int .u8 n, .bool (esc s.data.toList)])) ∧ Below w.heap.size w w'))
    (s : ByteArray) (hs : s.size ≤ 1000000) (x0 x1 x2 x3 : Nat) (h0 : x0 < 18446744073709551616) (h1 : x1 < 18446744073709551616) (h2 : x2 < 18446744073709551616) (h3 : x3 < 18446744073709551616) (p : UInt8 → Bool) (hp : Hid (∀ c : UInt8, hasW x0 x1 x2 x3 c.toNat = p c)) (w : World) :
    Calls Tryz.prog 34 #[.string s, .agg #[.int .u64 x0, .int .u64 x1, .int .u64 x2, .int .u64 x3]] w fun e w' => e = .returned (.bool (madeB p s.data.toList)) ∧ Below w.heap.size w w' := by
  obtain ⟨r, hr⟩ : ∃ r, madeB p s.data.toList = r := ⟨_, rfl⟩
  have HR : Hid (madeB p (s.data.toList.drop 0) = r) := Lib.hid (by rw [List.drop_zero]; exact hr)
  rw [hr]
  clear hr
  go_enter Tryz.func34, Tryz.ntmps34
  go_wp2_with fail
  go_loopg [5] s.size (fun k i wr => ∃ j : Nat, i = .int .i64 j ∧ j ≤ s.size ∧ k + j = s.size ∧ Hid (madeB p (s.data.toList.drop j) = r) ∧ wr.cell? ⟨w.heap.size, 0, none⟩ = some (.int .u64 x0) ∧ wr.cell? ⟨w.heap.size, 1, none⟩ = some (.int .u64 x1) ∧ wr.cell? ⟨w.heap.size, 2, none⟩ = some (.int .u64 x2) ∧ wr.cell? ⟨w.heap.size, 3, none⟩ = some (.int .u64 x3) ∧ w.heap.size < wr.heap.size ∧ Below w.heap.size w wr)
  case atStart =>
    refine ⟨0, rfl, by omega, by omega, HR, by simp [go_sem], by simp [go_sem], by simp [go_sem], by simp [go_sem], by simp, ?_⟩
    go_grown
  case round =>
    obtain ⟨j, rfl, hj, hk, HK, c0, c1, c2, c3, hlt, hbw⟩ := hrel
    by_cases hlj : j < s.size
    · obtain ⟨g, rfl⟩ : ∃ g, gk = g + 1 := ⟨gk - 1, by omega⟩
      have HE := Lib.hid (fun w => HB.out (s.extract j s.size) w (by rw [ByteArray.size_extract]; omega))
      rw [ext_drop] at HE
      have hst := drop_step s p j hlj
      rw [HK.out] at hst
      cases he : esc (s.data.toList.drop j) with
      | true =>
        have h3 : j + 2 < s.size := by
          by_cases q : j + 2 < s.size
          · exact q
          · rw [esc_far s j q] at he; cases he
        rw [he] at HE hst
        have HK2 : Hid (madeB p (s.data.toList.drop (j + 3)) = r) := Lib.hid hst.symm
        clear he hst HK
        obtain ⟨g2, rfl⟩ : ∃ g2, g = g2 + 2 := ⟨g - 2, by omega⟩
        go_wp2_with fail
        refine (HE.out _).mono ?_; rintro e w1 ⟨⟨m, rfl⟩, hb1⟩
        obtain ⟨cc, ff⟩ := bcell hb1
        have d0 : w1.cell? ⟨w.heap.size, 0, none⟩ = some (.int .u64 x0) := (cc _ _ hlt).trans c0
        have d1 : w1.cell? ⟨w.heap.size, 1, none⟩ = some (.int .u64 x1) := (cc _ _ hlt).trans c1
        have d2 : w1.cell? ⟨w.heap.size, 2, none⟩ = some (.int .u64 x2) := (cc _ _ hlt).trans c2
        have d3 : w1.cell? ⟨w.heap.size, 3, none⟩ = some (.int .u64 x3) := (cc _ _ hlt).trans c3
        have hlt1 : w.heap.size < w1.heap.size := Nat.lt_of_lt_of_le hlt hb1.size
        have hbw1 : Below w.heap.size w w1 := hbw.trans (hb1.mono (by omega))
        clear cc ff hb1 c0 c1 c2 c3
        go_wp2_with fail
        go_roundg g2
        case measure => omega
        case rel => exact ⟨j + 3, by go_num, by omega, by omega, HK2, d0, d1, d2, d3, hlt1, hbw1⟩
      | false =>
        rw [he] at HE hst
        have HH := Lib.hid (fun w => has_any x0 x1 x2 x3 h0 h1 h2 h3 s[j].toNat (UInt8.toNat_lt _) w)
        rw [hp.out s[j]] at HH
        clear he HK
        cases hpb : p s[j] with
        | true =>
          rw [hpb] at HH hst
          have HK2 : Hid (madeB p (s.data.toList.drop (j + 1)) = r) := Lib.hid hst.symm
          clear hst hpb
          go_wp2_with fail
          refine (HE.out _).mono ?_; rintro e w1 ⟨⟨m, rfl⟩, hb1⟩
          obtain ⟨cc, ff⟩ := bcell hb1
          have d0 : w1.cell? ⟨w.heap.size, 0, none⟩ = some (.int .u64 x0) := (cc _ _ hlt).trans c0
          have d1 : w1.cell? ⟨w.heap.size, 1, none⟩ = some (.int .u64 x1) := (cc _ _ hlt).trans c1
          have d2 : w1.cell? ⟨w.heap.size, 2, none⟩ = some (.int .u64 x2) := (cc _ _ hlt).trans c2
          have d3 : w1.cell? ⟨w.heap.size, 3, none⟩ = some (.int .u64 x3) := (cc _ _ hlt).trans c3
          have hlt1 : w.heap.size < w1.heap.size := Nat.lt_of_lt_of_le hlt hb1.size
          have hbw1 : Below w.heap.size w w1 := hbw.trans (hb1.mono (by omega))
          clear cc ff hb1 c0 c1 c2 c3
          go_wp2_with fail
          go_region_held3 (fun W => W.cell? ⟨w.heap.size, 0, none⟩ = some (.int .u64 x0) ∧ W.cell? ⟨w.heap.size, 1, none⟩ = some (.int .u64 x1) ∧ W.cell? ⟨w.heap.size, 2, none⟩ = some (.int .u64 x2) ∧ W.cell? ⟨w.heap.size, 3, none⟩ = some (.int .u64 x3) ∧ w.heap.size < W.heap.size ∧ Below w.heap.size w W)
            (first | assumption | exact keep8 (by assumption) (by assumption) | (refine ⟨by simp [go_sem, *], by simp [go_sem, *], by simp [go_sem, *], by simp [go_sem, *], by simpa using hlt1, ?_⟩; go_grown; done))
            (first | (refine (HH.out _).mono ?_; rintro e w2 ⟨rfl, hb⟩))
          rename_i hS
          obtain ⟨k0, k1, k2, k3, hlt2, hbw2⟩ := hS
          go_wp2_with fail
          go_roundg g
          case measure => omega
          case rel => exact ⟨j + 1, by go_num, by omega, by omega, HK2, k0, k1, k2, k3, hlt2, hbw2⟩
        | false =>
          rw [hpb] at HH hst
          have HK2 : Hid (false = r) := Lib.hid hst.symm
          clear hst hpb
          go_wp2_with fail
          refine (HE.out _).mono ?_; rintro e w1 ⟨⟨m, rfl⟩, hb1⟩
          obtain ⟨cc, ff⟩ := bcell hb1
          have d0 : w1.cell? ⟨w.heap.size, 0, none⟩ = some (.int .u64 x0) := (cc _ _ hlt).trans c0
          have d1 : w1.cell? ⟨w.heap.size, 1, none⟩ = some (.int .u64 x1) := (cc _ _ hlt).trans c1
          have d2 : w1.cell? ⟨w.heap.size, 2, none⟩ = some (.int .u64 x2) := (cc _ _ hlt).trans c2
          have d3 : w1.cell? ⟨w.heap.size, 3, none⟩ = some (.int .u64 x3) := (cc _ _ hlt).trans c3
          have hlt1 : w.heap.size < w1.heap.size := Nat.lt_of_lt_of_le hlt hb1.size
          have hbw1 : Below w.heap.size w w1 := hbw.trans (hb1.mono (by omega))
          clear cc ff hb1 c0 c1 c2 c3
          go_wp2_with fail
          go_region_held3 (fun W => W.cell? ⟨w.heap.size, 0, none⟩ = some (.int .u64 x0) ∧ W.cell? ⟨w.heap.size, 1, none⟩ = some (.int .u64 x1) ∧ W.cell? ⟨w.heap.size, 2, none⟩ = some (.int .u64 x2) ∧ W.cell? ⟨w.heap.size, 3, none⟩ = some (.int .u64 x3) ∧ w.heap.size < W.heap.size ∧ Below w.heap.size w W)
            (first | assumption | exact keep8 (by assumption) (by assumption) | (refine ⟨by simp [go_sem, *], by simp [go_sem, *], by simp [go_sem, *], by simp [go_sem, *], by simpa using hlt1, ?_⟩; go_grown; done))
            (first | (refine (HH.out _).mono ?_; rintro e w2 ⟨rfl, hb⟩))
          rename_i hS
          obtain ⟨k0, k1, k2, k3, hlt2, hbw2⟩ := hS
          go_wp2_with fail
          go_ret
          exact ⟨ret1 HK2.out, hbw2⟩
    · have HF : Hid (true = r) := Lib.hid (by
        have := HK.out
        rw [List.drop_of_length_le (by rw [Array.length_toList]; exact Nat.le_of_not_lt hlj)] at this
        exact this)
      go_wp2_with fail
      go_ret
      exact ⟨ret1 HF.out, hbw⟩
end Go.Proofs.YtcocjmbhbddgiaaGreatDoor
