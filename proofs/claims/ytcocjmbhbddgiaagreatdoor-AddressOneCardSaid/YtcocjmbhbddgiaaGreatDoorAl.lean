/- The walk through tell's closure (address.tell$1). -/
import Derived.Test.YtcocjmbhbddgiaaGreatDoorAk
import Derived.Deep.LoopGhost
set_option linter.unusedSimpArgs false
set_option linter.unusedVariables false
namespace Go.Proofs.YtcocjmbhbddgiaaGreatDoor
open Go.RowKit
theorem flat_take (L : List ByteArray) (i : Nat) (h : i < L.length) : flat (L.take (i + 1)) = flat (L.take i) ++ L[i].data.toList := by
  unfold flat
  rw [List.take_add_one, List.flatMap_append, List.getElem?_eq_getElem h]
  simp
theorem flat_len (L : List ByteArray) (j : Nat) : (flat (L.take j)).length ≤ (flat L).length := by
  have e : flat L = flat (L.take j) ++ flat (L.drop j) := by
    unfold flat
    rw [← List.flatMap_append, List.take_append_drop]
  rw [e, List.length_append]
  omega
set_option maxRecDepth 100000 in
theorem put_true (L : List ByteArray) (sb n : Nat) (fz : Nat × Nat) (hL : L.length = n) (hn : n ≤ 8) (B bd : Nat) (bs : List UInt8) (hbs : bs.length + (flat L).length ≤ 100000000) (w : World)
    (h : Lib.IsBuilder 66 5 B bd (Lib.byteCells bs) w) (hBw : B ≤ w.heap.size) (hne : some sb ≠ some bd)
    (hs : w.heap[sb]? = some (.cells (L.map Value.string).toArray 9 fz)) :
    Calls Tryz.prog 48 #[.bool true, .slice (some ⟨sb, 0, none⟩) n n, .pointer (some ⟨bd, 0, none⟩)] w fun e w' => e = .returned (.tuple #[]) ∧ Lib.IsBuilder 66 5 B bd (Lib.byteCells (bs ++ flat L)) w' ∧ Below B w w' ∧ Lib.OthersKept 5 (some bd) w w' := by
  have HI := Lib.hid h
  have HS := Lib.hid hs
  clear h hs
  go_enter Tryz.func48, Tryz.ntmps48
  go_wp2_with fail
  go_loopg [9] n (fun k u wr => ∃ i : Nat, u = .int .i64 i ∧ k + i = n ∧ Hid (Lib.IsBuilder 66 5 B bd (Lib.byteCells (bs ++ flat (L.take i))) wr) ∧ B ≤ wr.heap.size ∧ Hid (Below B w wr) ∧ Hid (Lib.OthersKept 5 (some bd) w wr))
  case atStart => exact ⟨0, rfl, by omega, Lib.hid (by simpa [flat] using HI.out), hBw, Lib.hid (Below.refl B w), Lib.hid (Lib.OthersKept.refl _ _ _)⟩
  case round =>
    rename World => wo
    obtain ⟨i, rfl, hk, HB, hBo, HW, HO⟩ := hrel
    by_cases hlt : i < n
    · obtain ⟨g, rfl⟩ : ∃ g, gk = g + 1 := ⟨gk - 1, by omega⟩
      have hso := HO.out sb _ HS.out hne (fun c fz e => by injection e with _ e; exact absurd e (by decide))
      obtain ⟨s, hsL⟩ : ∃ s, L[i]'(by omega) = s := ⟨_, rfl⟩
      have hci : wo.cell? ⟨sb, i, none⟩ = some (.string s) := by
        rw [Lib.cell_of_heap hso]
        simp [hsL, List.getElem?_eq_getElem (show i < L.length by omega)]
      clear hso
      have hft := flat_take L i (by omega)
      rw [hsL] at hft
      have hfl := flat_len L (i + 1)
      have hsl : s.data.toList.length = s.size := by rw [Array.length_toList]; rfl
      have hl2 : (Lib.byteCells (bs ++ flat (L.take i))).length + s.size ≤ 140737488355328 := by
        rw [hft, List.length_append, hsl] at hfl
        rw [Lib.byteCells_length, List.length_append]
        omega
      have HF := Lib.hid hft
      clear hft hsL hfl hsl
      go_wp2_with fail
      refine (write_any B bd _ s wo HB.out hl2 hBo).mono ?_
      rintro e w1 ⟨rfl, h1, hb1, ho1⟩
      have HB1 : Hid (Lib.IsBuilder 66 5 B bd (Lib.byteCells (bs ++ flat (L.take (i + 1)))) w1) := Lib.hid (by
        rw [HF.out, ← List.append_assoc]
        have e : Lib.byteCells (bs ++ flat (L.take i) ++ s.data.toList) = Lib.byteCells (bs ++ flat (L.take i)) ++ Lib.strCells s := by
          unfold Lib.byteCells Lib.strCells
          rw [List.map_append]
        rw [e]
        exact Or.inr h1)
      have HW1 := Lib.hid (HW.out.trans hb1)
      have HO1 := Lib.hid (HO.out.trans ho1)
      have hB1 : B ≤ w1.heap.size := Nat.le_trans hBo hb1.size
      clear h1 hb1 ho1
      go_wp2_with fail
      go_roundg g
      case measure => omega
      case rel => exact ⟨i + 1, by go_num, by omega, HB1, hB1, HW1, HO1⟩
    · have hi : i = n := by omega
      subst hi
      have HB1 := HB.out
      rw [List.take_of_length_le (by omega)] at HB1
      have HB2 := Lib.hid HB1
      clear HB1
      go_wp2_with fail
      go_end0
      exact ⟨rfl, HB2.out, HW.out, HO.out⟩
set_option maxRecDepth 100000 in
theorem put_false (L : List ByteArray) (sb n : Nat) (fz : Nat × Nat) (hL : L.length = n) (hn : n ≤ 8) (bd : Nat) (w : World)
    (hs : w.heap[sb]? = some (.cells (L.map Value.string).toArray 9 fz)) :
    Calls Tryz.prog 48 #[.bool false, .slice (some ⟨sb, 0, none⟩) n n, .pointer (some ⟨bd, 0, none⟩)] w fun e w' => e = .returned (.tuple #[]) ∧ w' = w := by
  have HS := Lib.hid hs
  clear hs
  go_enter Tryz.func48, Tryz.ntmps48
  go_wp2_with fail
  go_loopg [9] n (fun k u wr => ∃ i : Nat, u = .int .i64 i ∧ k + i = n ∧ Hid (wr = w))
  case atStart => exact ⟨0, rfl, by omega, Lib.hid rfl⟩
  case round =>
    rename World => wo
    obtain ⟨i, rfl, hk, HW⟩ := hrel
    by_cases hlt : i < n
    · obtain ⟨g, rfl⟩ : ∃ g, gk = g + 1 := ⟨gk - 1, by omega⟩
      obtain ⟨s, hsL⟩ : ∃ s, L[i]'(by omega) = s := ⟨_, rfl⟩
      have hci : wo.cell? ⟨sb, i, none⟩ = some (.string s) := by
        rw [HW.out, Lib.cell_of_heap HS.out]
        simp [hsL, List.getElem?_eq_getElem (show i < L.length by omega)]
      clear hsL
      go_wp2_with fail
      go_roundg g
      case measure => omega
      case rel => exact ⟨i + 1, by go_num, by omega, HW⟩
    · go_wp2_with fail
      go_end0
      exact ⟨rfl, HW.out⟩
theorem bldAt_alloc {T e : TypeId} {B b : Nat} {p : Value} {bs : List Value} {w : World} (h : Lib.BuilderAt T e B b p bs w) (o : Obj) : Lib.BuilderAt T e B b p bs (w.alloc o) := by
  obtain ⟨hB, v, hb, hown, hne⟩ := h
  have hlt : b < w.heap.size := by
    rcases Nat.lt_or_ge b w.heap.size with h' | h'
    · exact h'
    · simp [Array.getElem?_eq_none h'] at hb
  exact ⟨hB, v, (Below.heap_alloc w o b hlt).trans hb, hown.alloc o, hne⟩
theorem bld_alloc {T e : TypeId} {B b : Nat} {bs : List Value} {w : World} (h : Lib.IsBuilder T e B b bs w) (o : Obj) : Lib.IsBuilder T e B b bs (w.alloc o) := by
  rcases h with h | h
  · exact Or.inl (bldAt_alloc h o)
  · exact Or.inr (bldAt_alloc h o)
end Go.Proofs.YtcocjmbhbddgiaaGreatDoor
