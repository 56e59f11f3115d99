/- The walk through the sets' making (address.of): under way. -/
import Derived.Test.YtcocjmbhbddgiaaGreatDoorAe
import Derived.Deep.LoopGhost
import Derived.Laws.IdiomStrings
set_option linter.unusedSimpArgs false
set_option linter.unusedVariables false
namespace Go.Proofs.YtcocjmbhbddgiaaGreatDoor
open Go.RowKit
/-- A word with a byte's bit set. -/
def orAt (j : Nat) (x : Nat) (c : UInt8) : Nat := if c.toNat / 64 = j then x ||| 2 ^ (c.toNat % 64) else x
def Four (b : Nat) (x0 x1 x2 x3 : Nat) (w : World) : Prop :=
  w.cell? ⟨b, 0, none⟩ = some (.int .u64 x0) ∧ w.cell? ⟨b, 1, none⟩ = some (.int .u64 x1) ∧ w.cell? ⟨b, 2, none⟩ = some (.int .u64 x2) ∧ w.cell? ⟨b, 3, none⟩ = some (.int .u64 x3)
  ∧ w.frozen? ⟨b, 0, none⟩ = false ∧ w.frozen? ⟨b, 1, none⟩ = false ∧ w.frozen? ⟨b, 2, none⟩ = false ∧ w.frozen? ⟨b, 3, none⟩ = false
  ∧ x0 < 18446744073709551616 ∧ x1 < 18446744073709551616 ∧ x2 < 18446744073709551616 ∧ x3 < 18446744073709551616 ∧ b < w.heap.size
def Fold (x0 x1 x2 x3 : Nat) (l : List UInt8) (r0 r1 r2 r3 : Nat) : Prop :=
  l.foldl (orAt 0) x0 = r0 ∧ l.foldl (orAt 1) x1 = r1 ∧ l.foldl (orAt 2) x2 = r2 ∧ l.foldl (orAt 3) x3 = r3
def flat (L : List ByteArray) : List UInt8 := L.flatMap (fun s => s.data.toList)
theorem or_lt (y k : Nat) (hy : y < 18446744073709551616) (hk : k < 64) : y ||| 2 ^ k < 18446744073709551616 :=
  Nat.or_lt_two_pow (n := 64) hy (Nat.pow_lt_pow_right (by decide) hk)
theorem or_law (y k : Nat) (hy : y < 18446744073709551616) (hk : k < 64) : bits BinOp.or IntKind.u64 (y : Int) (IntKind.u64.wrap (2 ^ k)) = ((y ||| 2 ^ k : Nat) : Int) := by
  have hp : 2 ^ k < 18446744073709551616 := Nat.pow_lt_pow_right (m := k) (n := 64) (by decide) hk
  have e : IntKind.u64.wrap (2 ^ k) = ((2 ^ k : Nat) : Int) := by
    rw [IntKind.wrap_u64, show ((2 : Int) ^ k) = ((2 ^ k : Nat) : Int) by simp]
    revert hp
    generalize (2 : Nat) ^ k = z
    intro hp
    omega
  rw [e, bits_or_u64_nat _ _ hy hp]
theorem Four.keep {b : Nat} {x0 x1 x2 x3 : Nat} {w w' : World} (h : Four b x0 x1 x2 x3 w) (hb : Below w.heap.size w w') : Four b x0 x1 x2 x3 w' := by
  obtain ⟨a0, a1, a2, a3, f0, f1, f2, f3, l0, l1, l2, l3, lh⟩ := h
  obtain ⟨cc, ff⟩ := bcell hb
  exact ⟨(cc _ _ lh).trans a0, (cc _ _ lh).trans a1, (cc _ _ lh).trans a2, (cc _ _ lh).trans a3, (ff _ _ lh).trans f0, (ff _ _ lh).trans f1, (ff _ _ lh).trans f2, (ff _ _ lh).trans f3, l0, l1, l2, l3, Nat.lt_of_lt_of_le lh hb.size⟩
set_option maxRecDepth 100000 in
theorem of_any (L : List ByteArray) (b n : Nat) (hL : L.length = n) (hn : n ≤ 8) (hsz : ∀ s ∈ L, s.size ≤ 100) (w : World)
    (hc : ∀ (i : Nat) (h : i < L.length), w.cell? ⟨b, i, none⟩ = some (.string L[i])) (hb : b < w.heap.size) (r0 r1 r2 r3 : Nat) (HR : Hid (Fold 0 0 0 0 (flat L) r0 r1 r2 r3)) :
    Calls Tryz.prog 31 #[.slice (some ⟨b, 0, none⟩) n n] w fun e w' => e = .returned (.agg #[.int .u64 r0, .int .u64 r1, .int .u64 r2, .int .u64 r3]) ∧ Below w.heap.size w w' := by
  have kc := Lib.hid (fun (w : World) (s : ByteArray) => run_bytes_of_string (P := Tryz.prog) w 9 48 5 s Tryz.underlying9 Tryz.underlying48 Tryz.underlying5)
  go_enter Tryz.func31, Tryz.ntmps31
  go_wp2_with fail
  go_loopg [9] n (fun k u wr => ∃ (i x0 x1 x2 x3 : Nat), u = .int .i64 i ∧ k + i = n ∧ Four w.heap.size x0 x1 x2 x3 wr ∧ Hid (Fold x0 x1 x2 x3 (flat (L.drop i)) r0 r1 r2 r3) ∧ Below w.heap.size w wr)
  case atStart =>
    refine ⟨0, 0, 0, 0, 0, rfl, by omega, ⟨by simp [go_sem], by simp [go_sem], by simp [go_sem], by simp [go_sem], by simp [go_sem], by simp [go_sem], by simp [go_sem], by simp [go_sem], by decide, by decide, by decide, by decide, by simp⟩, HR, ?_⟩
    go_grown
  case round =>
    rename World => wo
    obtain ⟨i, x0, x1, x2, x3, rfl, hk, h4, HF, hbw⟩ := hrel
    by_cases hlt : i < n
    · have hs := hc i (by omega)
      obtain ⟨s, hsL⟩ : ∃ s, L[i]'(by omega) = s := ⟨_, rfl⟩
      rw [hsL] at hs
      have hsi : wo.cell? ⟨b, i, none⟩ = some (.string s) := (hbw.cell (p := ⟨b, i, none⟩) hb).trans hs
      have kc2 := kc.out wo s
      clear hs kc
      have hss : s.size ≤ 100 := by rw [← hsL]; exact hsz _ (List.getElem_mem _)
      have HF2 : Hid (Fold x0 x1 x2 x3 (s.data.toList.drop 0 ++ flat (L.drop (i + 1))) r0 r1 r2 r3) := Lib.hid (by
        have := HF.out
        rw [List.drop_eq_getElem_cons (by omega), hsL] at this
        exact this)
      have HC := Lib.hid hc
      clear hsL HF hc hsz
      obtain ⟨g, rfl⟩ : ∃ g, gk = g + 1 := ⟨gk - 1, by omega⟩
      go_wp2_with fail
      clear kc2
      go_loopg [16] s.size (fun k u wi => ∃ (j y0 y1 y2 y3 : Nat), u = .int .i64 j ∧ k + j = s.size ∧ Four w.heap.size y0 y1 y2 y3 wi ∧ Hid (∀ (j : Nat) (h : j < s.size), wi.cell? ⟨wo.heap.size, j, none⟩ = some (.int .u8 s[j].toNat)) ∧ Hid (Fold y0 y1 y2 y3 (s.data.toList.drop j ++ flat (L.drop (i + 1))) r0 r1 r2 r3) ∧ Below w.heap.size w wi ∧ wo.heap.size < wi.heap.size)
      case atStart =>
        refine ⟨0, x0, x1, x2, x3, rfl, by omega, h4.keep ?_ , Lib.hid ?_, HF2, ?_, by simp⟩
        · go_grown
        · intro j hj
          change (wo.alloc _).cell? _ = _
          rw [World.cell?_alloc_mark]
          exact bytesRow_at s _ j hj
        · have hzz : w.heap.size ≤ wo.heap.size := hbw.size
          go_grown
      case round =>
        obtain ⟨j, y0, y1, y2, y3, rfl, hk2, ⟨a0, a1, a2, a3, f0, f1, f2, f3, l0, l1, l2, l3, lh⟩, HB, HG, hbw2, hsz2⟩ := hrel
        by_cases hlj : j < s.size
        · have hj := HB.out j hlj
          obtain ⟨g2, rfl⟩ : ∃ g2, gk = g2 + 1 := ⟨gk - 1, by omega⟩
          have hne : ¬ w.heap.size = wo.heap.size := by have := h4.2.2.2.2.2.2.2.2.2.2.2.2; omega
          have hc256 : s[j].toNat < 256 := UInt8.toNat_lt _
          have hd : s.data.toList.drop j = s[j] :: s.data.toList.drop (j + 1) := by
            rw [List.drop_eq_getElem_cons (by rw [Array.length_toList]; exact hlj)]; rfl
          have HG2 := HG.out
          rw [hd] at HG2
          unfold Fold at HG2
          simp only [List.cons_append, List.foldl_cons] at HG2
          have HG3 := Lib.hid HG2
          clear HG2 hd HG
          generalize s[j] = c at *
          have hq : c.toNat / 64 = 0 ∨ c.toNat / 64 = 1 ∨ c.toNat / 64 = 2 ∨ c.toNat / 64 = 3 := by omega
          rcases hq with hq | hq | hq | hq
          · have HG4 := HG3.out
            rw [show orAt 0 y0 c = y0 ||| 2 ^ (c.toNat % 64) from if_pos hq, show orAt 1 y1 c = y1 from if_neg (by omega), show orAt 2 y2 c = y2 from if_neg (by omega), show orAt 3 y3 c = y3 from if_neg (by omega)] at HG4
            have HG5 := Lib.hid HG4
            clear HG4 HG3
            go_wp2_with fail
            go_roundg g2
            case measure => omega
            case rel =>
              rw [or_law _ _ l0 (by omega)]
              refine ⟨j + 1, y0 ||| 2 ^ (c.toNat % 64), y1, y2, y3, by go_num, by omega, ⟨by simp [go_sem, *], by simp [go_sem, *], by simp [go_sem, *], by simp [go_sem, *], by simp [go_sem, *], by simp [go_sem, *], by simp [go_sem, *], by simp [go_sem, *], or_lt _ _ l0 (by omega), l1, l2, l3, by simpa using lh⟩, Lib.hid ?_, HG5, ?_, by simpa using hsz2⟩
              · intro j' hj'
                have := HB.out j' hj'
                simp [go_sem, *]
              · go_grown
          · have HG4 := HG3.out
            rw [show orAt 0 y0 c = y0 from if_neg (by omega), show orAt 1 y1 c = y1 ||| 2 ^ (c.toNat % 64) from if_pos hq, show orAt 2 y2 c = y2 from if_neg (by omega), show orAt 3 y3 c = y3 from if_neg (by omega)] at HG4
            have HG5 := Lib.hid HG4
            clear HG4 HG3
            go_wp2_with fail
            go_roundg g2
            case measure => omega
            case rel =>
              rw [or_law _ _ l1 (by omega)]
              refine ⟨j + 1, y0, y1 ||| 2 ^ (c.toNat % 64), y2, y3, by go_num, by omega, ⟨by simp [go_sem, *], by simp [go_sem, *], by simp [go_sem, *], by simp [go_sem, *], by simp [go_sem, *], by simp [go_sem, *], by simp [go_sem, *], by simp [go_sem, *], l0, or_lt _ _ l1 (by omega), l2, l3, by simpa using lh⟩, Lib.hid ?_, HG5, ?_, by simpa using hsz2⟩
              · intro j' hj'
                have := HB.out j' hj'
                simp [go_sem, *]
              · go_grown
          · have HG4 := HG3.out
            rw [show orAt 0 y0 c = y0 from if_neg (by omega), show orAt 1 y1 c = y1 from if_neg (by omega), show orAt 2 y2 c = y2 ||| 2 ^ (c.toNat % 64) from if_pos hq, show orAt 3 y3 c = y3 from if_neg (by omega)] at HG4
            have HG5 := Lib.hid HG4
            clear HG4 HG3
            go_wp2_with fail
            go_roundg g2
            case measure => omega
            case rel =>
              rw [or_law _ _ l2 (by omega)]
              refine ⟨j + 1, y0, y1, y2 ||| 2 ^ (c.toNat % 64), y3, by go_num, by omega, ⟨by simp [go_sem, *], by simp [go_sem, *], by simp [go_sem, *], by simp [go_sem, *], by simp [go_sem, *], by simp [go_sem, *], by simp [go_sem, *], by simp [go_sem, *], l0, l1, or_lt _ _ l2 (by omega), l3, by simpa using lh⟩, Lib.hid ?_, HG5, ?_, by simpa using hsz2⟩
              · intro j' hj'
                have := HB.out j' hj'
                simp [go_sem, *]
              · go_grown
          · have HG4 := HG3.out
            rw [show orAt 0 y0 c = y0 from if_neg (by omega), show orAt 1 y1 c = y1 from if_neg (by omega), show orAt 2 y2 c = y2 from if_neg (by omega), show orAt 3 y3 c = y3 ||| 2 ^ (c.toNat % 64) from if_pos hq] at HG4
            have HG5 := Lib.hid HG4
            clear HG4 HG3
            go_wp2_with fail
            go_roundg g2
            case measure => omega
            case rel =>
              rw [or_law _ _ l3 (by omega)]
              refine ⟨j + 1, y0, y1, y2, y3 ||| 2 ^ (c.toNat % 64), by go_num, by omega, ⟨by simp [go_sem, *], by simp [go_sem, *], by simp [go_sem, *], by simp [go_sem, *], by simp [go_sem, *], by simp [go_sem, *], by simp [go_sem, *], by simp [go_sem, *], l0, l1, l2, or_lt _ _ l3 (by omega), by simpa using lh⟩, Lib.hid ?_, HG5, ?_, by simpa using hsz2⟩
              · intro j' hj'
                have := HB.out j' hj'
                simp [go_sem, *]
              · go_grown
        · have HG2 := HG.out
          rw [List.drop_of_length_le (by rw [Array.length_toList]; exact Nat.le_of_not_lt hlj), List.nil_append] at HG2
          have HG3 := Lib.hid HG2
          clear HG2 HG
          go_wp2_with fail
          go_roundg g
          case measure => omega
          case rel => exact ⟨i + 1, y0, y1, y2, y3, by go_num, by omega, ⟨a0, a1, a2, a3, f0, f1, f2, f3, l0, l1, l2, l3, lh⟩, HG3, hbw2⟩
    · have hi : i = n := by omega
      subst hi
      obtain ⟨e0, e1, e2, e3⟩ : x0 = r0 ∧ x1 = r1 ∧ x2 = r2 ∧ x3 = r3 := by
        have := HF.out
        rw [List.drop_of_length_le (by omega)] at this
        exact this
      subst e0 e1 e2 e3
      obtain ⟨a0, a1, a2, a3, f0, f1, f2, f3, l0, l1, l2, l3, lh⟩ := h4
      clear hc HF HR kc
      go_wp2_with fail
      refine bodyPost_ret (v := .agg #[.int .u64 x0, .int .u64 x1, .int .u64 x2, .int .u64 x3]) (by simp [results, Tryz.results31, go_sem, *]) rfl ⟨rfl, ?_⟩
      go_grown
end Go.Proofs.YtcocjmbhbddgiaaGreatDoor
