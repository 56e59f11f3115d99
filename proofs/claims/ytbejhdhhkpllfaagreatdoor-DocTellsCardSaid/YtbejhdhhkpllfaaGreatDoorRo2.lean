/- Walks and plain laws of this proof, joined from smaller texts (2). -/
import Derived.Deep.LoopGhost
import Derived.Maps.RangeWalk
import Derived.Test.YtbejhdhhkpllfaaGreatDoorRo1
set_option linter.unusedSimpArgs false
set_option linter.unusedVariables false
namespace Go.Proofs.YtbejhdhhkpllfaaGreatDoor
open Go.RowKit
set_option maxRecDepth 100000 in
theorem rtext03_any (s : ByteArray) (hs : s.size ≤ 100000) (w : World) :
    Calls Tryz.prog 95 #[.string s] w fun e w' => e = .returned (.bool (textB s.data.toList)) ∧ Below w.heap.size w w' := by
  have H := Lib.hid (rpoints_any s hs w)
  have hr : textB s.data.toList = (decide (s.size ≤ 16384) && Lib.validD s.data.toList) := by unfold textB; rw [len_z]
  rw [hr]
  clear hr
  generalize Lib.validD s.data.toList = vd at *
  cases vd with
  | true =>
    go_enter Tryz.func95, Tryz.ntmps95
    go_wp2_with fail
    refine H.out.mono ?_; rintro e w1 ⟨v, rfl, _, hb⟩
    go_wp2_with fail
    go_ret
    exact ⟨ret_b (by rw [Bool.eq_iff_iff]; simp; omega), hb⟩
  | false =>
    go_enter Tryz.func95, Tryz.ntmps95
    go_wp2_with fail
    refine H.out.mono ?_; rintro e w1 ⟨v, rfl, _, hb⟩
    go_wp2_with fail
    go_ret
    exact ⟨ret_b (by simp), hb⟩
/-- A slice that reads as texts. -/
def StrSl (v : Value) (l : List ByteArray) (W : World) : Prop := (∃ a cap, v = .slice a 0 cap ∧ l = []) ∨ ∃ b off cap, v = .slice (some ⟨b, off, none⟩) l.length cap ∧ ∀ (j : Nat) x, l[j]? = some x → W.cell? ⟨b, off + j, none⟩ = some (.string x)
theorem OwnS.sl {B : Nat} {v : Value} {l : List ByteArray} {w : World} (h : OwnS B v l w) : StrSl v l w := by
  rcases h.cells with ⟨h1, h2⟩ | ⟨g, cap, h1, h2, h3, h4⟩
  · exact Or.inl ⟨_, _, h1, h2⟩
  · exact Or.inr ⟨g, 0, cap, h1, h4⟩
def amongS (l : List ByteArray) (s : ByteArray) : Bool := l.any fun x => x.toList == s.toList
theorem amongS_B (l : List ByteArray) (s : ByteArray) : amongS l s = amongB (l.map (·.data.toList)) s.data.toList := by
  unfold amongS amongB
  rw [List.any_map]
  congr 1
  funext x
  rw [ByteArray.toList_eq, ByteArray.toList_eq]; rfl
set_option maxRecDepth 100000 in
theorem ramong03_any (l : List ByteArray) (v : Value) (s : ByteArray) (w : World) (hl : l.length ≤ 1000000) (hv : StrSl v l w) :
    Calls Tryz.prog 96 #[v, .string s] w fun e w' => e = .returned (.bool (amongS l s)) ∧ w = w' := by
  rcases hv with ⟨a, cap, rfl, rfl⟩ | ⟨b, off, cap, rfl, hc⟩
  · go_enter Tryz.func96, Tryz.ntmps96
    go_wp2_with fail
    refine wp_loop_rounds 1 ?_; rw [rounds_succ]
    go_wp2_with fail
    go_ret
    exact ⟨rfl, rfl⟩
  · obtain ⟨r, hr⟩ : ∃ r, amongS l s = r := ⟨_, rfl⟩
    have HR : Hid (amongS (l.drop 0) s = r) := Lib.hid hr
    have HC := Lib.hid hc
    rw [hr]
    clear hr hc
    go_enter Tryz.func96, Tryz.ntmps96
    go_wp2_with fail
    go_loop [5] (fun i => ∃ k : Nat, k ≤ l.length ∧ i = .int .i64 k ∧ Hid (amongS (l.drop k) s = r)) (fun i => l.length - (intOf i).toNat)
    case atStart => exact ⟨0, Nat.zero_le _, rfl, HR⟩
    case round =>
      obtain ⟨k, hk, rfl, HS⟩ := hrel
      by_cases hlt : k < l.length
      · have c0 := HC.out k l[k] (List.getElem?_eq_getElem hlt)
        have hstep := HS.out
        rw [List.drop_eq_getElem_cons hlt] at hstep
        unfold amongS at hstep
        rw [List.any_cons] at hstep
        generalize l[k] = x at *
        cases hx : (x.toList == s.toList) with
        | true =>
          rw [hx, Bool.true_or] at hstep
          have HF := Lib.hid hstep
          clear hstep HS
          go_wp2_with fail
          go_ret
          exact ⟨ret_b HF.out, rfl⟩
        | false =>
          rw [hx, Bool.false_or] at hstep
          have HF : Hid (amongS (l.drop (k + 1)) s = r) := Lib.hid hstep
          clear hstep HS
          go_wp2_with fail
          go_round
          case rel => exact ⟨k + 1, by omega, by go_num, HF⟩
          case measure => simp [intOf]; omega
      · have HF : Hid (false = r) := Lib.hid (by rw [← HS.out, List.drop_of_length_le (by omega)]; rfl)
        clear HS
        go_wp2_with fail
        go_ret
        exact ⟨ret_b HF.out, rfl⟩
set_option maxRecDepth 100000 in
theorem rone_0 (nx x : ByteArray) (n m : Int) (w : World) :
    Calls Tryz.prog 94 #[.agg #[.int .u8 0, .string nx, .string x, .int .i64 n, .int .i64 m]] w fun e w' => e = .returned (.bool (x.data.toList.isEmpty && n == 0 && m == 0)) ∧ Below w.heap.size w w' := by
  have hxe : x.data.toList.isEmpty = x.toList.isEmpty := by rw [ByteArray.toList_eq]
  rw [hxe]
  clear hxe
  rcases empty_z x with ⟨z0, z1, z2, z3⟩ | ⟨z0, z1, z2, z3⟩
  · rw [z2]
    clear z0 z3
    go_enter Tryz.func94, Tryz.ntmps94
    go_wp2_with fail
    go_ret
    exact ⟨rfl, (Below.refl _ _).alloc (Nat.le_refl _) _⟩
  · rw [z2]
    clear z0 z3
    cases h0 : (n == 0) with
    | true =>
      go_enter Tryz.func94, Tryz.ntmps94
      go_wp2_with fail
      go_ret
      exact ⟨ret_b (by simp), (Below.refl _ _).alloc (Nat.le_refl _) _⟩
    | false =>
      go_enter Tryz.func94, Tryz.ntmps94
      go_wp2_with fail
      go_ret
      exact ⟨ret_b (by simp), (Below.refl _ _).alloc (Nat.le_refl _) _⟩
set_option maxRecDepth 100000 in
theorem rone_1 (nx x : ByteArray) (n m : Int) (w : World) :
    Calls Tryz.prog 94 #[.agg #[.int .u8 1, .string nx, .string x, .int .i64 n, .int .i64 m]] w fun e w' => e = .returned (.bool (x.data.toList.isEmpty && (n == 0 || n == 1) && m == 0)) ∧ Below w.heap.size w w' := by
  have hxe : x.data.toList.isEmpty = x.toList.isEmpty := by rw [ByteArray.toList_eq]
  rw [hxe]
  clear hxe
  rcases empty_z x with ⟨z0, z1, z2, z3⟩ | ⟨z0, z1, z2, z3⟩
  · rw [z2]
    clear z0 z3
    go_enter Tryz.func94, Tryz.ntmps94
    go_wp2_with fail
    go_ret
    exact ⟨rfl, (Below.refl _ _).alloc (Nat.le_refl _) _⟩
  · rw [z2]
    clear z0 z3
    cases h0 : (n == 0) with
    | true =>
      go_enter Tryz.func94, Tryz.ntmps94
      go_wp2_with fail
      go_ret
      exact ⟨ret_b (by simp), (Below.refl _ _).alloc (Nat.le_refl _) _⟩
    | false =>
      cases h1 : (n == 1) with
      | true =>
        go_enter Tryz.func94, Tryz.ntmps94
        go_wp2_with fail
        go_ret
        exact ⟨ret_b (by simp), (Below.refl _ _).alloc (Nat.le_refl _) _⟩
      | false =>
        go_enter Tryz.func94, Tryz.ntmps94
        go_wp2_with fail
        go_ret
        exact ⟨ret_b (by simp), (Below.refl _ _).alloc (Nat.le_refl _) _⟩
set_option maxRecDepth 100000 in
theorem rone_2 (nx x : ByteArray) (n m : Int) (w : World) :
    Calls Tryz.prog 94 #[.agg #[.int .u8 2, .string nx, .string x, .int .i64 n, .int .i64 m]] w fun e w' => e = .returned (.bool (x.data.toList.isEmpty && m == 0)) ∧ Below w.heap.size w w' := by
  have hxe : x.data.toList.isEmpty = x.toList.isEmpty := by rw [ByteArray.toList_eq]
  rw [hxe]
  clear hxe
  rcases empty_z x with ⟨z0, z1, z2, z3⟩ | ⟨z0, z1, z2, z3⟩
  · rw [z2]
    clear z0 z3
    go_enter Tryz.func94, Tryz.ntmps94
    go_wp2_with fail
    go_ret
    exact ⟨rfl, (Below.refl _ _).alloc (Nat.le_refl _) _⟩
  · rw [z2]
    clear z0 z3
    go_enter Tryz.func94, Tryz.ntmps94
    go_wp2_with fail
    go_ret
    exact ⟨ret_b (by simp), (Below.refl _ _).alloc (Nat.le_refl _) _⟩
set_option maxRecDepth 100000 in
theorem rone_6 (nx x : ByteArray) (n m : Int) (w : World) :
    Calls Tryz.prog 94 #[.agg #[.int .u8 6, .string nx, .string x, .int .i64 n, .int .i64 m]] w fun e w' => e = .returned (.bool (x.data.toList.isEmpty && n == 0 && decide (0 ≤ m))) ∧ Below w.heap.size w w' := by
  have hxe : x.data.toList.isEmpty = x.toList.isEmpty := by rw [ByteArray.toList_eq]
  rw [hxe]
  clear hxe
  rcases empty_z x with ⟨z0, z1, z2, z3⟩ | ⟨z0, z1, z2, z3⟩
  · rw [z2]
    clear z0 z3
    go_enter Tryz.func94, Tryz.ntmps94
    go_wp2_with fail
    go_ret
    exact ⟨rfl, (Below.refl _ _).alloc (Nat.le_refl _) _⟩
  · rw [z2]
    clear z0 z3
    cases h0 : (n == 0) with
    | true =>
      go_enter Tryz.func94, Tryz.ntmps94
      go_wp2_with fail
      go_ret
      exact ⟨ret_b (by simp), (Below.refl _ _).alloc (Nat.le_refl _) _⟩
    | false =>
      go_enter Tryz.func94, Tryz.ntmps94
      go_wp2_with fail
      go_ret
      exact ⟨ret_b (by simp), (Below.refl _ _).alloc (Nat.le_refl _) _⟩
set_option maxRecDepth 100000 in
theorem rone_7 (nx x : ByteArray) (n m : Int) (w : World) :
    Calls Tryz.prog 94 #[.agg #[.int .u8 7, .string nx, .string x, .int .i64 n, .int .i64 m]] w fun e w' => e = .returned (.bool (x.data.toList.isEmpty && n == 0 && decide (0 ≤ m))) ∧ Below w.heap.size w w' := by
  have hxe : x.data.toList.isEmpty = x.toList.isEmpty := by rw [ByteArray.toList_eq]
  rw [hxe]
  clear hxe
  rcases empty_z x with ⟨z0, z1, z2, z3⟩ | ⟨z0, z1, z2, z3⟩
  · rw [z2]
    clear z0 z3
    go_enter Tryz.func94, Tryz.ntmps94
    go_wp2_with fail
    go_ret
    exact ⟨rfl, (Below.refl _ _).alloc (Nat.le_refl _) _⟩
  · rw [z2]
    clear z0 z3
    cases h0 : (n == 0) with
    | true =>
      go_enter Tryz.func94, Tryz.ntmps94
      go_wp2_with fail
      go_ret
      exact ⟨ret_b (by simp), (Below.refl _ _).alloc (Nat.le_refl _) _⟩
    | false =>
      go_enter Tryz.func94, Tryz.ntmps94
      go_wp2_with fail
      go_ret
      exact ⟨ret_b (by simp), (Below.refl _ _).alloc (Nat.le_refl _) _⟩
set_option maxRecDepth 100000 in
theorem rone_3 (nx x : ByteArray) (n m : Int) (tb : Bool) (H : Hid (∀ w, Calls Tryz.prog 95 #[.string x] w fun e w' => e = .returned (.bool tb) ∧ Below w.heap.size w w')) (w : World) :
    Calls Tryz.prog 94 #[.agg #[.int .u8 3, .string nx, .string x, .int .i64 n, .int .i64 m]] w fun e w' => e = .returned (.bool (tb && n == 0 && m == 0)) ∧ Below w.heap.size w w' := by
  cases tb with
  | false =>
    go_enter Tryz.func94, Tryz.ntmps94
    go_wp2_with fail
    refine (H.out _).mono ?_; rintro e w1 ⟨rfl, hb⟩
    have HW : Below w.heap.size w w1 := ((Below.refl _ _).alloc (Nat.le_refl _) _).trans (hb.mono (by simp))
    clear hb
    go_wp2_with fail
    go_ret
    exact ⟨rfl, HW⟩
  | true =>
    have hcel : ∀ w1 : World, Below (w.alloc (.cells #[.int .u8 3, .string nx, .string x, .int .i64 n, .int .i64 m] 59)).heap.size (w.alloc (.cells #[.int .u8 3, .string nx, .string x, .int .i64 n, .int .i64 m] 59)) w1 → w1.cell? ⟨w.heap.size, 3, none⟩ = some (.int .i64 n) ∧ w1.cell? ⟨w.heap.size, 4, none⟩ = some (.int .i64 m) := by
      intro w1 hb
      have hh : w1.heap[w.heap.size]? = some (.cells #[.int .u8 3, .string nx, .string x, .int .i64 n, .int .i64 m] 59 (0, 0)) := (hb.block _ (by simp)).trans (heap_alloc_new w _)
      exact ⟨by rw [Lib.cell_of_heap hh]; rfl, by rw [Lib.cell_of_heap hh]; rfl⟩
    have HCEL := Lib.hid hcel
    clear hcel
    cases h0 : (n == 0)
    all_goals
      go_enter Tryz.func94, Tryz.ntmps94
      go_wp2_with fail
      refine (H.out _).mono ?_; rintro e w1 ⟨rfl, hb⟩
      obtain ⟨d3, d4⟩ := HCEL.out _ hb
      have HW : Below w.heap.size w w1 := ((Below.refl _ _).alloc (Nat.le_refl _) _).trans (hb.mono (by simp))
      clear hb
      go_wp2_with fail
      go_ret
      exact ⟨ret_b (by simp), HW⟩
set_option maxRecDepth 100000 in
theorem rone_4 (nx x : ByteArray) (n m : Int) (tb : Bool) (H : Hid (∀ w, Calls Tryz.prog 44 #[.string x] w fun e w' => e = .returned (.bool tb) ∧ Below w.heap.size w w')) (w : World) :
    Calls Tryz.prog 94 #[.agg #[.int .u8 4, .string nx, .string x, .int .i64 n, .int .i64 m]] w fun e w' => e = .returned (.bool (tb && n == 0 && m == 0)) ∧ Below w.heap.size w w' := by
  cases tb with
  | false =>
    go_enter Tryz.func94, Tryz.ntmps94
    go_wp2_with fail
    refine (H.out _).mono ?_; rintro e w1 ⟨rfl, hb⟩
    have HW : Below w.heap.size w w1 := ((Below.refl _ _).alloc (Nat.le_refl _) _).trans (hb.mono (by simp))
    clear hb
    go_wp2_with fail
    go_ret
    exact ⟨rfl, HW⟩
  | true =>
    have hcel : ∀ w1 : World, Below (w.alloc (.cells #[.int .u8 4, .string nx, .string x, .int .i64 n, .int .i64 m] 59)).heap.size (w.alloc (.cells #[.int .u8 4, .string nx, .string x, .int .i64 n, .int .i64 m] 59)) w1 → w1.cell? ⟨w.heap.size, 3, none⟩ = some (.int .i64 n) ∧ w1.cell? ⟨w.heap.size, 4, none⟩ = some (.int .i64 m) := by
      intro w1 hb
      have hh : w1.heap[w.heap.size]? = some (.cells #[.int .u8 4, .string nx, .string x, .int .i64 n, .int .i64 m] 59 (0, 0)) := (hb.block _ (by simp)).trans (heap_alloc_new w _)
      exact ⟨by rw [Lib.cell_of_heap hh]; rfl, by rw [Lib.cell_of_heap hh]; rfl⟩
    have HCEL := Lib.hid hcel
    clear hcel
    cases h0 : (n == 0)
    all_goals
      go_enter Tryz.func94, Tryz.ntmps94
      go_wp2_with fail
      refine (H.out _).mono ?_; rintro e w1 ⟨rfl, hb⟩
      obtain ⟨d3, d4⟩ := HCEL.out _ hb
      have HW : Below w.heap.size w w1 := ((Below.refl _ _).alloc (Nat.le_refl _) _).trans (hb.mono (by simp))
      clear hb
      go_wp2_with fail
      go_ret
      exact ⟨ret_b (by simp), HW⟩
set_option maxRecDepth 100000 in
theorem rone_5 (nx x : ByteArray) (n m : Int) (tb : Bool) (H : Hid (∀ w, Calls Tryz.prog 44 #[.string x] w fun e w' => e = .returned (.bool tb) ∧ Below w.heap.size w w')) (w : World) :
    Calls Tryz.prog 94 #[.agg #[.int .u8 5, .string nx, .string x, .int .i64 n, .int .i64 m]] w fun e w' => e = .returned (.bool (tb && n == 0 && m == 0)) ∧ Below w.heap.size w w' := by
  cases tb with
  | false =>
    go_enter Tryz.func94, Tryz.ntmps94
    go_wp2_with fail
    refine (H.out _).mono ?_; rintro e w1 ⟨rfl, hb⟩
    have HW : Below w.heap.size w w1 := ((Below.refl _ _).alloc (Nat.le_refl _) _).trans (hb.mono (by simp))
    clear hb
    go_wp2_with fail
    go_ret
    exact ⟨rfl, HW⟩
  | true =>
    have hcel : ∀ w1 : World, Below (w.alloc (.cells #[.int .u8 5, .string nx, .string x, .int .i64 n, .int .i64 m] 59)).heap.size (w.alloc (.cells #[.int .u8 5, .string nx, .string x, .int .i64 n, .int .i64 m] 59)) w1 → w1.cell? ⟨w.heap.size, 3, none⟩ = some (.int .i64 n) ∧ w1.cell? ⟨w.heap.size, 4, none⟩ = some (.int .i64 m) := by
      intro w1 hb
      have hh : w1.heap[w.heap.size]? = some (.cells #[.int .u8 5, .string nx, .string x, .int .i64 n, .int .i64 m] 59 (0, 0)) := (hb.block _ (by simp)).trans (heap_alloc_new w _)
      exact ⟨by rw [Lib.cell_of_heap hh]; rfl, by rw [Lib.cell_of_heap hh]; rfl⟩
    have HCEL := Lib.hid hcel
    clear hcel
    cases h0 : (n == 0)
    all_goals
      go_enter Tryz.func94, Tryz.ntmps94
      go_wp2_with fail
      refine (H.out _).mono ?_; rintro e w1 ⟨rfl, hb⟩
      obtain ⟨d3, d4⟩ := HCEL.out _ hb
      have HW : Below w.heap.size w w1 := ((Below.refl _ _).alloc (Nat.le_refl _) _).trans (hb.mono (by simp))
      clear hb
      go_wp2_with fail
      go_ret
      exact ⟨ret_b (by simp), HW⟩
set_option maxRecDepth 100000 in
theorem rone_more (kk : Nat) (h7 : 7 < kk) (h8 : kk ≤ 255) (nx x : ByteArray) (n m : Int) (w : World) :
    Calls Tryz.prog 94 #[.agg #[.int .u8 (kk : Int), .string nx, .string x, .int .i64 n, .int .i64 m]] w fun e w' => e = .returned (.bool (false)) ∧ Below w.heap.size w w' := by
  have e0 : ((kk : Int) == 0) = false := by rw [beq_eq_false_iff_ne]; omega
  have e1 : ((kk : Int) == 1) = false := by rw [beq_eq_false_iff_ne]; omega
  have e2 : ((kk : Int) == 2) = false := by rw [beq_eq_false_iff_ne]; omega
  have e3 : ((kk : Int) == 3) = false := by rw [beq_eq_false_iff_ne]; omega
  have e4 : ((kk : Int) == 4) = false := by rw [beq_eq_false_iff_ne]; omega
  have e5 : ((kk : Int) == 5) = false := by rw [beq_eq_false_iff_ne]; omega
  have e6 : ((kk : Int) == 6) = false := by rw [beq_eq_false_iff_ne]; omega
  have e7 : ((kk : Int) == 7) = false := by rw [beq_eq_false_iff_ne]; omega
  go_enter Tryz.func94, Tryz.ntmps94
  go_wp2_with fail
  go_ret
  exact ⟨rfl, (Below.refl _ _).alloc (Nat.le_refl _) _⟩
theorem rone03_any (c : Cel) (h1 : c.text.length ≤ 100000) (w : World) :
    Calls Tryz.prog 94 #[.agg (celCells c)] w fun e w' => e = .returned (.bool (oneC c)) ∧ Below w.heap.size w w' := by
  have hk := UInt8.toNat_lt c.kind
  have htz : (⟨c.text.toArray⟩ : ByteArray).size = c.text.length := by show c.text.toArray.size = _; simp
  have htl : (⟨c.text.toArray⟩ : ByteArray).data.toList = c.text := by simp
  rw [one_kind]
  unfold celCells
  have HT : Hid (∀ w, Calls Tryz.prog 95 #[.string ⟨c.text.toArray⟩] w fun e w' => e = .returned (.bool (textB c.text)) ∧ Below w.heap.size w w') := Lib.hid fun w => by
    have := rtext03_any ⟨c.text.toArray⟩ (by omega) w
    rw [htl] at this; exact this
  have HN : Hid (∀ w, Calls Tryz.prog 44 #[.string ⟨c.text.toArray⟩] w fun e w' => e = .returned (.bool (nameB c.text)) ∧ Below w.heap.size w w') := Lib.hid fun w => by
    have := rname_any ⟨c.text.toArray⟩ (by omega) w
    rw [htl] at this
    exact this.mono fun e w' ⟨h1, h2⟩ => ⟨h1, by rw [← h2]; exact Below.refl _ _⟩
  by_cases h7 : c.kind.toNat ≤ 7
  · rw [decide_eq_true h7, Bool.true_and]
    have h8 : c.kind.toNat = 0 ∨ c.kind.toNat = 1 ∨ c.kind.toNat = 2 ∨ c.kind.toNat = 3 ∨ c.kind.toNat = 4 ∨ c.kind.toNat = 5 ∨ c.kind.toNat = 6 ∨ c.kind.toNat = 7 := by omega
    rcases h8 with h | h | h | h | h | h | h | h
    · rw [h]; have := rone_0 ⟨c.name.toArray⟩ ⟨c.text.toArray⟩ c.num c.many w; rw [htl] at this; exact this
    · rw [h]; have := rone_1 ⟨c.name.toArray⟩ ⟨c.text.toArray⟩ c.num c.many w; rw [htl] at this; exact this
    · rw [h]; have := rone_2 ⟨c.name.toArray⟩ ⟨c.text.toArray⟩ c.num c.many w; rw [htl] at this
      have e : (ctext 2 c.text && cnum 2 c.num && if cnest 2 then decide (0 ≤ c.many) else c.many == 0) = (c.text.isEmpty && c.many == 0) := by
        show (c.text.isEmpty && true && c.many == 0) = _
        rw [Bool.and_true]
      rw [e]; exact this
    · rw [h]; exact rone_3 ⟨c.name.toArray⟩ ⟨c.text.toArray⟩ c.num c.many _ HT w
    · rw [h]; exact rone_4 ⟨c.name.toArray⟩ ⟨c.text.toArray⟩ c.num c.many _ HN w
    · rw [h]; exact rone_5 ⟨c.name.toArray⟩ ⟨c.text.toArray⟩ c.num c.many _ HN w
    · rw [h]; have := rone_6 ⟨c.name.toArray⟩ ⟨c.text.toArray⟩ c.num c.many w; rw [htl] at this; exact this
    · rw [h]; have := rone_7 ⟨c.name.toArray⟩ ⟨c.text.toArray⟩ c.num c.many w; rw [htl] at this; exact this
  · rw [decide_eq_false h7, Bool.false_and]
    exact rone_more c.kind.toNat (by omega) (by omega) _ _ _ _ w
end Go.Proofs.YtbejhdhhkpllfaaGreatDoor
namespace Go.Proofs.YtbejhdhhkpllfaaGreatDoor
open Go.RowKit
theorem StrSl.below {v : Value} {l : List ByteArray} {w w' : World} (h : StrSl v l w) (hb : Below w.heap.size w w') : StrSl v l w' := by
  rcases h with h | ⟨b, off, cap, h1, h2⟩
  · exact Or.inl h
  · refine Or.inr ⟨b, off, cap, h1, fun j x hj => ?_⟩
    exact (hb.cell (p := ⟨b, _, none⟩) (lt_of_cell (h2 j x hj))).trans (h2 j x hj)
theorem keepR {b cb i : Nat} {x c : Value} {wr W W' : World} (hb : Below W.heap.size W W') (h : W.cell? ⟨b, i, none⟩ = some x ∧ W.cell? ⟨cb, 0, none⟩ = some c ∧ Below wr.heap.size wr W) :
    W'.cell? ⟨b, i, none⟩ = some x ∧ W'.cell? ⟨cb, 0, none⟩ = some c ∧ Below wr.heap.size wr W' := by
  obtain ⟨h1, h2, h3⟩ := h
  exact ⟨(hb.cell (p := ⟨b, _, none⟩) (lt_of_cell h1)).trans h1, (hb.cell (p := ⟨cb, _, none⟩) (lt_of_cell h2)).trans h2, h3.trans (hb.mono h3.size)⟩
theorem revB (nm : List ByteArray) (x : List UInt8) : amongB (nm.map (·.data.toList)).reverse x = amongB (nm.map (·.data.toList)) x := by
  unfold amongB
  rw [List.any_reverse]
set_option maxRecDepth 100000 in
set_option maxHeartbeats 1000000 in
theorem rb_one (V : List Cel) (b off cap : Nat) (W : World) (k d : Nat) (kk : Nat) (nx tx : ByteArray) (nu mn : Int)
    (hk : k < V.length) (hl : V.length ≤ 100000) (hd : d ≤ 16)
    (c0 : W.cell? ⟨b, off + k * 5, none⟩ = some (.int .u8 (kk : Int))) (c1 : W.cell? ⟨b, off + k * 5 + 1, none⟩ = some (.string nx)) (c2 : W.cell? ⟨b, off + k * 5 + 2, none⟩ = some (.string tx)) (c3 : W.cell? ⟨b, off + k * 5 + 3, none⟩ = some (.int .i64 nu)) (c4 : W.cell? ⟨b, off + k * 5 + 4, none⟩ = some (.int .i64 mn))
    (HO : Hid (∀ w : World, Calls Tryz.prog 94 #[.agg #[.int .u8 (kk : Int), .string nx, .string tx, .int .i64 nu, .int .i64 mn]] w fun e w' => e = .returned (.bool false) ∧ Below w.heap.size w w')) :
    Calls Tryz.prog 85 #[.slice (some ⟨b, off, none⟩) V.length cap, .int .i64 (k : Int), .int .i64 (d : Int)] W fun e w' => e = .returned (.int .i64 (-1)) ∧ Below W.heap.size W w' := by
  go_enter Tryz.func85, Tryz.ntmps85
  go_wp2_with fail
  refine (HO.out _).mono ?_; rintro e w1 ⟨rfl, hb⟩
  go_wp2_with fail
  go_ret
  exact ⟨rfl, hb⟩
set_option maxRecDepth 100000 in
set_option maxHeartbeats 1000000 in
theorem rb_leaf (V : List Cel) (b off cap : Nat) (W : World) (k d : Nat) (kk : Nat) (nx tx : ByteArray) (nu mn : Int)
    (hk : k < V.length) (hl : V.length ≤ 100000) (hd : d ≤ 16)
    (c0 : W.cell? ⟨b, off + k * 5, none⟩ = some (.int .u8 (kk : Int))) (c1 : W.cell? ⟨b, off + k * 5 + 1, none⟩ = some (.string nx)) (c2 : W.cell? ⟨b, off + k * 5 + 2, none⟩ = some (.string tx)) (c3 : W.cell? ⟨b, off + k * 5 + 3, none⟩ = some (.int .i64 nu)) (c4 : W.cell? ⟨b, off + k * 5 + 4, none⟩ = some (.int .i64 mn))
    (HO : Hid (∀ w : World, Calls Tryz.prog 94 #[.agg #[.int .u8 (kk : Int), .string nx, .string tx, .int .i64 nu, .int .i64 mn]] w fun e w' => e = .returned (.bool true) ∧ Below w.heap.size w w'))
    (h6 : ((kk : Int) != 6) = true) (h7 : ((kk : Int) != 7) = true) :
    Calls Tryz.prog 85 #[.slice (some ⟨b, off, none⟩) V.length cap, .int .i64 (k : Int), .int .i64 (d : Int)] W fun e w' => e = .returned (.int .i64 ((k : Int) + 1)) ∧ Below W.heap.size W w' := by
  go_enter Tryz.func85, Tryz.ntmps85
  go_wp2_with fail
  refine (HO.out _).mono ?_; rintro e w1 ⟨rfl, hb⟩
  have hz1 := hb.size
  have d0 := (hb.cell (p := ⟨b, _, none⟩) (lt_of_cell c0)).trans c0
  have d1 := (hb.cell (p := ⟨b, _, none⟩) (lt_of_cell c1)).trans c1
  have d2 := (hb.cell (p := ⟨b, _, none⟩) (lt_of_cell c2)).trans c2
  have d3 := (hb.cell (p := ⟨b, _, none⟩) (lt_of_cell c3)).trans c3
  have d4 := (hb.cell (p := ⟨b, _, none⟩) (lt_of_cell c4)).trans c4
  have HB1 := Lib.hid hb
  clear hb c0 c1 c2 c3 c4
  go_wp2_with fail
  go_ret
  exact ⟨rfl, HB1.out.alloc hz1 _⟩
set_option maxRecDepth 100000 in
set_option maxHeartbeats 1000000 in
theorem rb_deep6 (V : List Cel) (b off cap : Nat) (W : World) (k d : Nat) (kk : Nat) (nx tx : ByteArray) (nu mn : Int)
    (hk : k < V.length) (hl : V.length ≤ 100000) (hd : d ≤ 16)
    (c0 : W.cell? ⟨b, off + k * 5, none⟩ = some (.int .u8 (kk : Int))) (c1 : W.cell? ⟨b, off + k * 5 + 1, none⟩ = some (.string nx)) (c2 : W.cell? ⟨b, off + k * 5 + 2, none⟩ = some (.string tx)) (c3 : W.cell? ⟨b, off + k * 5 + 3, none⟩ = some (.int .i64 nu)) (c4 : W.cell? ⟨b, off + k * 5 + 4, none⟩ = some (.int .i64 mn))
    (HO : Hid (∀ w : World, Calls Tryz.prog 94 #[.agg #[.int .u8 (kk : Int), .string nx, .string tx, .int .i64 nu, .int .i64 mn]] w fun e w' => e = .returned (.bool true) ∧ Below w.heap.size w w'))
    (h6 : ((kk : Int) != 6) = false) (h7 : ((kk : Int) != 7) = true) (t6 : ((kk : Int) == 6) = true) (t7 : ((kk : Int) == 7) = false) (hd0 : ((d : Int) == 0) = true) :
    Calls Tryz.prog 85 #[.slice (some ⟨b, off, none⟩) V.length cap, .int .i64 (k : Int), .int .i64 (d : Int)] W fun e w' => e = .returned (.int .i64 (-1)) ∧ Below W.heap.size W w' := by
  go_enter Tryz.func85, Tryz.ntmps85
  go_wp2_with fail
  refine (HO.out _).mono ?_; rintro e w1 ⟨rfl, hb⟩
  have hz1 := hb.size
  have d0 := (hb.cell (p := ⟨b, _, none⟩) (lt_of_cell c0)).trans c0
  have d1 := (hb.cell (p := ⟨b, _, none⟩) (lt_of_cell c1)).trans c1
  have d2 := (hb.cell (p := ⟨b, _, none⟩) (lt_of_cell c2)).trans c2
  have d3 := (hb.cell (p := ⟨b, _, none⟩) (lt_of_cell c3)).trans c3
  have d4 := (hb.cell (p := ⟨b, _, none⟩) (lt_of_cell c4)).trans c4
  have HB1 := Lib.hid hb
  clear hb c0 c1 c2 c3 c4
  go_wp2_with fail
  go_ret
  exact ⟨rfl, HB1.out.alloc hz1 _⟩
set_option maxRecDepth 100000 in
set_option maxHeartbeats 1000000 in
theorem rb_deep7 (V : List Cel) (b off cap : Nat) (W : World) (k d : Nat) (kk : Nat) (nx tx : ByteArray) (nu mn : Int)
    (hk : k < V.length) (hl : V.length ≤ 100000) (hd : d ≤ 16)
    (c0 : W.cell? ⟨b, off + k * 5, none⟩ = some (.int .u8 (kk : Int))) (c1 : W.cell? ⟨b, off + k * 5 + 1, none⟩ = some (.string nx)) (c2 : W.cell? ⟨b, off + k * 5 + 2, none⟩ = some (.string tx)) (c3 : W.cell? ⟨b, off + k * 5 + 3, none⟩ = some (.int .i64 nu)) (c4 : W.cell? ⟨b, off + k * 5 + 4, none⟩ = some (.int .i64 mn))
    (HO : Hid (∀ w : World, Calls Tryz.prog 94 #[.agg #[.int .u8 (kk : Int), .string nx, .string tx, .int .i64 nu, .int .i64 mn]] w fun e w' => e = .returned (.bool true) ∧ Below w.heap.size w w'))
    (h6 : ((kk : Int) != 6) = true) (h7 : ((kk : Int) != 7) = false) (t6 : ((kk : Int) == 6) = false) (t7 : ((kk : Int) == 7) = true) (hd0 : ((d : Int) == 0) = true) :
    Calls Tryz.prog 85 #[.slice (some ⟨b, off, none⟩) V.length cap, .int .i64 (k : Int), .int .i64 (d : Int)] W fun e w' => e = .returned (.int .i64 (-1)) ∧ Below W.heap.size W w' := by
  go_enter Tryz.func85, Tryz.ntmps85
  go_wp2_with fail
  refine (HO.out _).mono ?_; rintro e w1 ⟨rfl, hb⟩
  have hz1 := hb.size
  have d0 := (hb.cell (p := ⟨b, _, none⟩) (lt_of_cell c0)).trans c0
  have d1 := (hb.cell (p := ⟨b, _, none⟩) (lt_of_cell c1)).trans c1
  have d2 := (hb.cell (p := ⟨b, _, none⟩) (lt_of_cell c2)).trans c2
  have d3 := (hb.cell (p := ⟨b, _, none⟩) (lt_of_cell c3)).trans c3
  have d4 := (hb.cell (p := ⟨b, _, none⟩) (lt_of_cell c4)).trans c4
  have HB1 := Lib.hid hb
  clear hb c0 c1 c2 c3 c4
  go_wp2_with fail
  go_ret
  exact ⟨rfl, HB1.out.alloc hz1 _⟩
set_option maxRecDepth 100000 in
set_option maxHeartbeats 1000000 in
theorem rb_list (V : List Cel) (b off cap : Nat) (W : World) (k d : Nat) (kk : Nat) (nx tx : ByteArray) (nu : Int) (m : Nat)
    (hk : k < V.length) (hl : V.length ≤ 100000) (hd : d ≤ 16)
    (c0 : W.cell? ⟨b, off + k * 5, none⟩ = some (.int .u8 (kk : Int))) (c1 : W.cell? ⟨b, off + k * 5 + 1, none⟩ = some (.string nx)) (c2 : W.cell? ⟨b, off + k * 5 + 2, none⟩ = some (.string tx)) (c3 : W.cell? ⟨b, off + k * 5 + 3, none⟩ = some (.int .i64 nu)) (c4 : W.cell? ⟨b, off + k * 5 + 4, none⟩ = some (.int .i64 (m : Int)))
    (HO : Hid (∀ w : World, Calls Tryz.prog 94 #[.agg #[.int .u8 (kk : Int), .string nx, .string tx, .int .i64 nu, .int .i64 (m : Int)]] w fun e w' => e = .returned (.bool true) ∧ Below w.heap.size w w'))
    (h6 : ((kk : Int) != 6) = false) (h7 : ((kk : Int) != 7) = true) (t6 : ((kk : Int) == 6) = true) (t7 : ((kk : Int) == 7) = false)
    (hd1 : 0 < d) (hmx : (m : Int) ≤ 9223372036854775807) (HROW : Hid (CelRow b off V W)) (HSM : Hid (∀ c ∈ V, c.name.length ≤ 100000)) (o : Option Nat) (hkids : kidsN (valN (d - 1)) true m [] (V.drop (k + 1)) = o) (hval : valN d (V.drop k) = o.map (1 + ·))
    (HTX : Hid (∀ (W' : World) (x : ByteArray), x.size ≤ 100000 → Calls Tryz.prog 95 #[.string x] W' fun e w' => e = .returned (.bool (textB x.data.toList)) ∧ Below W'.heap.size W' w'))
    (HIH : Hid (∀ (W' : World) (p : Nat), p < V.length → CelRow b off V W' → Calls Tryz.prog 85 #[.slice (some ⟨b, off, none⟩) V.length cap, .int .i64 (p : Int), .int .i64 ((d : Int) - 1)] W' fun e w' => e = .returned (.int .i64 (endI V p (d - 1))) ∧ Below W'.heap.size W' w')) :
    Calls Tryz.prog 85 #[.slice (some ⟨b, off, none⟩) V.length cap, .int .i64 (k : Int), .int .i64 (d : Int)] W fun e w' => e = .returned (.int .i64 (endI V k d)) ∧ Below W.heap.size W w' := by
  obtain ⟨R, hR⟩ : ∃ R, endI V k d = R := ⟨_, rfl⟩
  have HRN : Hid (o = none → -1 = R) := Lib.hid fun h => by rw [← hR, endI_none (by rw [hval, h]; rfl)]
  have HRS : Hid (∀ u, o = some u → ((k + 1 + u : Nat) : Int) = R) := Lib.hid fun u h => by rw [← hR, endI_some (n := 1 + u) (by rw [hval, h]; rfl)]; omega
  have HK0 := Lib.hid (KS.start hkids)
  rw [hR]
  have hd2 : ((d : Int) == 0) = false := by rw [beq_eq_false_iff_ne]; omega
  have hgk : decide (V.length ≤ k) = false := decide_eq_false (by omega)
  have hk0 : decide ((k : Int) < 0) = false := decide_eq_false (by omega)
  clear hR hval hkids
  go_enter Tryz.func85, Tryz.ntmps85
  go_wp2_with fail
  refine (HO.out _).mono ?_; rintro e w1 ⟨rfl, hb⟩
  have hz1 := hb.size
  have d0 := (hb.cell (p := ⟨b, _, none⟩) (lt_of_cell c0)).trans c0
  have d1 := (hb.cell (p := ⟨b, _, none⟩) (lt_of_cell c1)).trans c1
  have d2 := (hb.cell (p := ⟨b, _, none⟩) (lt_of_cell c2)).trans c2
  have d3 := (hb.cell (p := ⟨b, _, none⟩) (lt_of_cell c3)).trans c3
  have d4 := (hb.cell (p := ⟨b, _, none⟩) (lt_of_cell c4)).trans c4
  have HB1 := Lib.hid hb
  clear hb c0 c1 c2 c3 c4
  go_wp2_with fail
  obtain ⟨wc, hwc⟩ : ∃ wc, w1.alloc (.cells #[.int .u8 (kk : Int), .string nx, .string tx, .int .i64 nu, .int .i64 (m : Int)] 59) = wc := ⟨_, rfl⟩
  have hc : wc.heap[w1.heap.size]? = some (.cells #[.int .u8 (kk : Int), .string nx, .string tx, .int .i64 nu, .int .i64 (m : Int)] 59 (0, 0)) := by rw [← hwc]; exact heap_alloc_new w1 _
  have hbc : Below W.heap.size W wc := by rw [← hwc]; exact HB1.out.alloc hz1 _
  have hcz : W.heap.size ≤ w1.heap.size ∧ w1.heap.size < wc.heap.size := ⟨hz1, heap_lt hc⟩
  obtain ⟨cb, hcb⟩ : ∃ cb, w1.heap.size = cb := ⟨_, rfl⟩
  rw [hcb] at hc hcz
  rw [hwc, hcb]
  have HC := Lib.hid hc
  have HBC := Lib.hid hbc
  clear hwc hc hbc d0 d1 d2 d3 d4 HB1 hz1 hcb
  go_loopg [1, 8, 9] m (fun gk at_ nv ct wr => ∃ (j p u : Nat) (ov : Value) (nm : List ByteArray) (nl : List (List UInt8)), ov = nv ∧ at_ = .int .i64 (p : Int) ∧ ct = .int .i64 j ∧ gk + j = m ∧ p ≤ V.length ∧ Hid (p = k + 1 + u) ∧ j ≤ u ∧ nm.length ≤ j ∧ Hid (KS V (d - 1) k true o gk nl u) ∧ nm = [] ∧ Hid (OwnS wc.heap.size ov nm wr) ∧ Hid (Below wc.heap.size wc wr))
  case atStart => exact ⟨0, k + 1, 0, _, [], [], rfl, by go_num, rfl, by omega, by omega, Lib.hid rfl, Nat.le_refl _, Nat.le_refl _, HK0, rfl, Lib.hid (OwnS.nil _ _), Lib.hid (Below.refl _ _)⟩
  case round =>
    rename World => wr
    obtain ⟨j, p, u, ov, nm, nl, rfl, rfl, rfl, hj, hp, HPU, hju, hnm, HK, rfl, HO2, HB⟩ := hrel
    have hwz := HB.out.size
    have e4 : wr.cell? ⟨cb, 4, none⟩ = some (.int .i64 (m : Int)) := by rw [Lib.cell_of_heap ((HB.out.block _ hcz.2).trans HC.out)]; rfl
    have e0 : wr.cell? ⟨cb, 0, none⟩ = some (.int .u8 (kk : Int)) := by rw [Lib.cell_of_heap ((HB.out.block _ hcz.2).trans HC.out)]; rfl
    have HBW : Hid (Below W.heap.size W wr) := Lib.hid (HBC.out.trans (HB.out.mono HBC.out.size))
    by_cases hg0 : gk = 0
    · subst hg0
      have HF := Lib.hid (HRS.out u HK.out.done)
      have HF2 : Hid ((p : Int) = R) := Lib.hid (by rw [← HF.out, HPU.out])
      clear HF
      go_wp2_with fail
      go_ret
      exact ⟨ret_i HF2.out, HBW.out⟩
    · obtain ⟨g1, rfl⟩ : ∃ g1, gk = g1 + 1 := ⟨gk - 1, by omega⟩
      have hjm : j < m := by omega
      clear hg0
      by_cases hpl : p < V.length
      · have hrow := HROW.out.below' HBW.out
        obtain ⟨_, r1, _⟩ := hrow p hpl
        have HRW := Lib.hid hrow
        have hxz : (⟨V[p].name.toArray⟩ : ByteArray).size = V[p].name.length := by show V[p].name.toArray.size = _; simp
        have hxl : (⟨V[p].name.toArray⟩ : ByteArray).data.toList = V[p].name := by simp
        have hxs : (⟨V[p].name.toArray⟩ : ByteArray).size ≤ 100000 := by rw [hxz]; exact HSM.out _ (List.getElem_mem _)
        have HBAD := Lib.hid (fun h => HK.out.bad HPU.out hpl h)
        have HFAIL := Lib.hid (fun h h' => HK.out.fail HPU.out hpl h h')
        have HNEXT := Lib.hid (fun n h h' => HK.out.next (n := n) HPU.out hpl h h')
        rw [← hxl] at HBAD HFAIL HNEXT
        have hu : u ≤ 100000 := by have := HPU.out; omega
        clear hxz hxl hrow
        generalize (⟨V[p].name.toArray⟩ : ByteArray) = x at *
        have HS0 : Hid (wr.drew.cell? ⟨b, off + p * 5 + 1, none⟩ = some (.string x) ∧ wr.drew.cell? ⟨cb, 0, none⟩ = some (.int .u8 (kk : Int)) ∧ Below wr.heap.size wr wr.drew) := Lib.hid ⟨r1, e0, ⟨rfl, rfl, rfl, Nat.le_refl _, fun _ _ => rfl⟩⟩
        have hge : decide (V.length ≤ p) = false := decide_eq_false (by omega)
        have HT := Lib.hid (fun W' => HTX.out W' x hxs)
        have HA : Hid (∀ W', Below wr.heap.size wr W' → Calls Tryz.prog 96 #[ov, .string x] W' fun e w' => e = .returned (.bool (amongS [] x)) ∧ W' = w') := Lib.hid fun W' hW => ramong03_any [] ov x W' (by first | omega | simp) (HO2.out.sl.below hW)
        rcases empty_z x with ⟨z0, z1, z2, z3⟩ | ⟨z0, z1, z2, z3⟩
        · have hne : x.data.toList.isEmpty = false := by rw [← ByteArray.toList_eq]; exact z2
          have HO3 := Lib.hid (HBAD.out (by unfold okN; rw [if_pos rfl]; exact hne))
          clear hne
          go_wp2_with fail
          refine wp_region_held_drew (S := fun W => W.cell? ⟨b, off + p * 5 + 1, none⟩ = some (.string x) ∧ W.cell? ⟨cb, 0, none⟩ = some (.int .u8 (kk : Int)) ∧ Below wr.heap.size wr W) (by kernel_rfl) (HS0.out) (fun hHeld => ?_)
          refine tky 0 (some 49) (v := ?_) rfl (by kernel_rfl) (by kernel_rfl) (by kernel_rfl) (fun _ _ _ h => h) ?_ hHeld ?_
          rotate_left
          focus (intro w hSw; (try dsimp only at hSw); go_simp; (try with_reducible rfl); done)
          go_frame
          refine tky 1 (some 50) (v := ?_) rfl (by kernel_rfl) (by kernel_rfl) (by kernel_rfl) (fun _ _ _ h => h) ?_ hHeld ?_
          rotate_left
          focus (intro w hSw; (try dsimp only at hSw); go_simp; (try with_reducible rfl); done)
          go_frame
          refine tky 2 (some 51) (v := ?_) rfl (by kernel_rfl) (by kernel_rfl) (by kernel_rfl) (fun _ _ _ h => h) ?_ hHeld ?_
          rotate_left
          focus (intro w hSw; (try dsimp only at hSw); go_simp; (try with_reducible rfl); done)
          go_frame
          refine tky 3 (some 52) (v := ?_) rfl (by kernel_rfl) (by kernel_rfl) (by kernel_rfl) (fun _ _ _ h => h) ?_ hHeld ?_
          rotate_left
          focus (intro w hSw; (try dsimp only at hSw); go_simp; (try with_reducible rfl); done)
          go_frame
          refine tky 4 (some 53) (v := ?_) rfl (by kernel_rfl) (by kernel_rfl) (by kernel_rfl) (fun _ _ _ h => h) ?_ hHeld ?_
          rotate_left
          focus (intro w hSw; (try dsimp only at hSw); go_simp; (try with_reducible rfl); done)
          go_frame
          refine tky 5 (some 54) (v := ?_) rfl (by kernel_rfl) (by kernel_rfl) (by kernel_rfl) (fun _ _ _ h => h) ?_ hHeld ?_
          rotate_left
          focus (intro w hSw; (try dsimp only at hSw); go_simp; (try with_reducible rfl); done)
          go_frame
          refine tky 6 (some 55) (v := ?_) rfl (by kernel_rfl) (by kernel_rfl) (by kernel_rfl) (fun _ _ _ h => h) ?_ hHeld ?_
          rotate_left
          focus (intro w hSw; (try dsimp only at hSw); go_simp; (try with_reducible rfl); done)
          go_frame
          refine tky 7 (some 56) (v := ?_) rfl (by kernel_rfl) (by kernel_rfl) (by kernel_rfl) (fun _ _ _ h => h) ?_ hHeld ?_
          rotate_left
          focus (intro w hSw; (try dsimp only at hSw); go_simp; (try with_reducible rfl); done)
          go_frame
          refine tky 8 (some 57) (v := ?_) rfl (by kernel_rfl) (by kernel_rfl) (by kernel_rfl) (fun _ _ _ h => h) ?_ hHeld ?_
          rotate_left
          focus (intro w hSw; (try dsimp only at hSw); go_simp; (try with_reducible rfl); done)
          go_frame
          refine tky 9 (some 58) (v := ?_) rfl (by kernel_rfl) (by kernel_rfl) (by kernel_rfl) (fun _ _ _ h => h) ?_ hHeld ?_
          rotate_left
          focus (intro w hSw; (try dsimp only at hSw); go_simp; (try with_reducible rfl); done)
          go_frame
          refine tky 10 (some 59) (v := ?_) rfl (by kernel_rfl) (by kernel_rfl) (by kernel_rfl) (fun _ _ _ h => h) ?_ hHeld ?_
          rotate_left
          focus (intro w hSw; (try dsimp only at hSw); go_simp; (try with_reducible rfl); done)
          go_frame
          refine tky 11 (some 60) (v := ?_) rfl (by kernel_rfl) (by kernel_rfl) (by kernel_rfl) (fun _ _ _ h => h) ?_ hHeld ?_
          rotate_left
          focus (intro w hSw; (try dsimp only at hSw); go_simp; (try with_reducible rfl); done)
          go_frame
          refine tky 12 (some 61) (v := ?_) rfl (by kernel_rfl) (by kernel_rfl) (by kernel_rfl) (fun _ _ _ h => h) ?_ hHeld ?_
          rotate_left
          focus (intro w hSw; (try dsimp only at hSw); go_simp; (try with_reducible rfl); done)
          go_frame
          refine tky 13 (some 62) (v := ?_) rfl (by kernel_rfl) (by kernel_rfl) (by kernel_rfl) (fun _ _ _ h => h) ?_ hHeld ?_
          rotate_left
          focus (intro w hSw; (try dsimp only at hSw); go_simp; (try with_reducible rfl); done)
          go_frame
          refine tky 14 (some 63) (v := ?_) rfl (by kernel_rfl) (by kernel_rfl) (by kernel_rfl) (fun _ _ _ h => h) ?_ hHeld ?_
          rotate_left
          focus (intro w hSw; (try dsimp only at hSw); go_simp; (try with_reducible rfl); done)
          go_frame
          refine tky 15 (some 64) (v := ?_) rfl (by kernel_rfl) (by kernel_rfl) (by kernel_rfl) (fun _ _ _ h => h) ?_ hHeld ?_
          rotate_left
          focus (intro w hSw; (try dsimp only at hSw); go_simp; (try with_reducible rfl); done)
          go_frame
          refine tky 16 (some 65) (v := ?_) rfl (by kernel_rfl) (by kernel_rfl) (by kernel_rfl) (fun _ _ _ h => h) ?_ hHeld ?_
          rotate_left
          focus (intro w hSw; (try dsimp only at hSw); go_simp; (try with_reducible rfl); done)
          go_frame
          refine tkn 17 (some 66) rfl (by kernel_rfl) (by kernel_rfl) (by kernel_rfl) (fun _ _ _ h => h) hHeld ?_
          go_frame
          refine tkn 18 (some 67) rfl (by kernel_rfl) (by kernel_rfl) (by kernel_rfl) (fun _ _ _ h => h) hHeld ?_
          go_frame
          refine tkn 19 (some 68) rfl (by kernel_rfl) (by kernel_rfl) (by kernel_rfl) (fun _ _ _ h => h) hHeld ?_
          go_frame
          refine tkn 20 (some 69) rfl (by kernel_rfl) (by kernel_rfl) (by kernel_rfl) (fun _ _ _ h => h) hHeld ?_
          go_frame
          refine tkn 21 (some 70) rfl (by kernel_rfl) (by kernel_rfl) (by kernel_rfl) (fun _ _ _ h => h) hHeld ?_
          go_frame
          refine tkn 22 (some 71) rfl (by kernel_rfl) (by kernel_rfl) (by kernel_rfl) (fun _ _ _ h => h) hHeld ?_
          go_frame
          refine tkn 23 (some 72) rfl (by kernel_rfl) (by kernel_rfl) (by kernel_rfl) (fun _ _ _ h => h) hHeld ?_
          go_frame
          refine tky 24 (some 73) (v := ?_) rfl (by kernel_rfl) (by kernel_rfl) (by kernel_rfl) (fun _ _ _ h => h) ?_ hHeld ?_
          rotate_left
          focus (intro w hSw; (try dsimp only at hSw); go_simp; (try with_reducible rfl); done)
          go_frame
          refine tky 25 (some 74) (v := ?_) rfl (by kernel_rfl) (by kernel_rfl) (by kernel_rfl) (fun _ _ _ h => h) ?_ hHeld ?_
          rotate_left
          focus (intro w hSw; (try dsimp only at hSw); go_simp; (try with_reducible rfl); done)
          go_frame
          refine tkn 26 (some 75) rfl (by kernel_rfl) (by kernel_rfl) (by kernel_rfl) (fun _ _ _ h => h) hHeld ?_
          go_frame
          refine tkn 27 (some 76) rfl (by kernel_rfl) (by kernel_rfl) (by kernel_rfl) (fun _ _ _ h => h) hHeld ?_
          go_frame
          refine tkn 28 (some 77) rfl (by kernel_rfl) (by kernel_rfl) (by kernel_rfl) (fun _ _ _ h => h) hHeld ?_
          go_frame
          refine tkn 29 (some 78) rfl (by kernel_rfl) (by kernel_rfl) (by kernel_rfl) (fun _ _ _ h => h) hHeld ?_
          go_frame
          refine tkn 30 (some 79) rfl (by kernel_rfl) (by kernel_rfl) (by kernel_rfl) (fun _ _ _ h => h) hHeld ?_
          go_frame
          refine tkn 31 (some 80) rfl (by kernel_rfl) (by kernel_rfl) (by kernel_rfl) (fun _ _ _ h => h) hHeld ?_
          go_frame
          refine tkn 32 (some 81) rfl (by kernel_rfl) (by kernel_rfl) (by kernel_rfl) (fun _ _ _ h => h) hHeld ?_
          go_frame
          refine tky 33 (some 82) (v := ?_) rfl (by kernel_rfl) (by kernel_rfl) (by kernel_rfl) (fun _ _ _ h => h) ?_ hHeld ?_
          rotate_left
          focus (intro w hSw; (try dsimp only at hSw); go_simp; (try with_reducible rfl); done)
          go_frame
          refine wpAnyH_done (by kernel_rfl) ?_ _
          have HBX := Lib.hid (HBW.out.trans (hHeld.2.2.mono HBW.out.size))
          clear hHeld
          have HF := Lib.hid (HRN.out HO3.out)
          go_wp2_with fail
          go_ret
          exact ⟨ret_i HF.out, HBX.out⟩
        · have HOK : Hid (okN true nl x.data.toList = true) := Lib.hid (by rw [z3]; rfl)
          have htt : textB x.data.toList = true := by rw [z3]; rfl
          rw [htt] at HT
          have hat : amongS [] x = false := rfl
          rw [hat] at HA
          clear htt hat
          go_wp2_with fail
          refine wp_region_held_drew (S := fun W => W.cell? ⟨b, off + p * 5 + 1, none⟩ = some (.string x) ∧ W.cell? ⟨cb, 0, none⟩ = some (.int .u8 (kk : Int)) ∧ Below wr.heap.size wr W) (by kernel_rfl) (HS0.out) (fun hHeld => ?_)
          refine tky 0 (some 49) (v := ?_) rfl (by kernel_rfl) (by kernel_rfl) (by kernel_rfl) (fun _ _ _ h => h) ?_ hHeld ?_
          rotate_left
          focus (intro w hSw; (try dsimp only at hSw); go_simp; (try with_reducible rfl); done)
          go_frame
          refine tky 1 (some 50) (v := ?_) rfl (by kernel_rfl) (by kernel_rfl) (by kernel_rfl) (fun _ _ _ h => h) ?_ hHeld ?_
          rotate_left
          focus (intro w hSw; (try dsimp only at hSw); go_simp; (try with_reducible rfl); done)
          go_frame
          refine tky 2 (some 51) (v := ?_) rfl (by kernel_rfl) (by kernel_rfl) (by kernel_rfl) (fun _ _ _ h => h) ?_ hHeld ?_
          rotate_left
          focus (intro w hSw; (try dsimp only at hSw); go_simp; (try with_reducible rfl); done)
          go_frame
          refine tky 3 (some 52) (v := ?_) rfl (by kernel_rfl) (by kernel_rfl) (by kernel_rfl) (fun _ _ _ h => h) ?_ hHeld ?_
          rotate_left
          focus (intro w hSw; (try dsimp only at hSw); go_simp; (try with_reducible rfl); done)
          go_frame
          refine tky 4 (some 53) (v := ?_) rfl (by kernel_rfl) (by kernel_rfl) (by kernel_rfl) (fun _ _ _ h => h) ?_ hHeld ?_
          rotate_left
          focus (intro w hSw; (try dsimp only at hSw); go_simp; (try with_reducible rfl); done)
          go_frame
          refine tky 5 (some 54) (v := ?_) rfl (by kernel_rfl) (by kernel_rfl) (by kernel_rfl) (fun _ _ _ h => h) ?_ hHeld ?_
          rotate_left
          focus (intro w hSw; (try dsimp only at hSw); go_simp; (try with_reducible rfl); done)
          go_frame
          refine tky 6 (some 55) (v := ?_) rfl (by kernel_rfl) (by kernel_rfl) (by kernel_rfl) (fun _ _ _ h => h) ?_ hHeld ?_
          rotate_left
          focus (intro w hSw; (try dsimp only at hSw); go_simp; (try with_reducible rfl); done)
          go_frame
          refine tky 7 (some 56) (v := ?_) rfl (by kernel_rfl) (by kernel_rfl) (by kernel_rfl) (fun _ _ _ h => h) ?_ hHeld ?_
          rotate_left
          focus (intro w hSw; (try dsimp only at hSw); go_simp; (try with_reducible rfl); done)
          go_frame
          refine tky 8 (some 57) (v := ?_) rfl (by kernel_rfl) (by kernel_rfl) (by kernel_rfl) (fun _ _ _ h => h) ?_ hHeld ?_
          rotate_left
          focus (intro w hSw; (try dsimp only at hSw); go_simp; (try with_reducible rfl); done)
          go_frame
          refine tky 9 (some 58) (v := ?_) rfl (by kernel_rfl) (by kernel_rfl) (by kernel_rfl) (fun _ _ _ h => h) ?_ hHeld ?_
          rotate_left
          focus (intro w hSw; (try dsimp only at hSw); go_simp; (try with_reducible rfl); done)
          go_frame
          refine tky 10 (some 59) (v := ?_) rfl (by kernel_rfl) (by kernel_rfl) (by kernel_rfl) (fun _ _ _ h => h) ?_ hHeld ?_
          rotate_left
          focus (intro w hSw; (try dsimp only at hSw); go_simp; (try with_reducible rfl); done)
          go_frame
          refine tky 11 (some 60) (v := ?_) rfl (by kernel_rfl) (by kernel_rfl) (by kernel_rfl) (fun _ _ _ h => h) ?_ hHeld ?_
          rotate_left
          focus (intro w hSw; (try dsimp only at hSw); go_simp; (try with_reducible rfl); done)
          go_frame
          refine tky 12 (some 61) (v := ?_) rfl (by kernel_rfl) (by kernel_rfl) (by kernel_rfl) (fun _ _ _ h => h) ?_ hHeld ?_
          rotate_left
          focus (intro w hSw; (try dsimp only at hSw); go_simp; (try with_reducible rfl); done)
          go_frame
          refine tky 13 (some 62) (v := ?_) rfl (by kernel_rfl) (by kernel_rfl) (by kernel_rfl) (fun _ _ _ h => h) ?_ hHeld ?_
          rotate_left
          focus (intro w hSw; (try dsimp only at hSw); go_simp; (try with_reducible rfl); done)
          go_frame
          refine tky 14 (some 63) (v := ?_) rfl (by kernel_rfl) (by kernel_rfl) (by kernel_rfl) (fun _ _ _ h => h) ?_ hHeld ?_
          rotate_left
          focus (intro w hSw; (try dsimp only at hSw); go_simp; (try with_reducible rfl); done)
          go_frame
          refine tky 15 (some 64) (v := ?_) rfl (by kernel_rfl) (by kernel_rfl) (by kernel_rfl) (fun _ _ _ h => h) ?_ hHeld ?_
          rotate_left
          focus (intro w hSw; (try dsimp only at hSw); go_simp; (try with_reducible rfl); done)
          go_frame
          refine tky 16 (some 65) (v := ?_) rfl (by kernel_rfl) (by kernel_rfl) (by kernel_rfl) (fun _ _ _ h => h) ?_ hHeld ?_
          rotate_left
          focus (intro w hSw; (try dsimp only at hSw); go_simp; (try with_reducible rfl); done)
          go_frame
          refine tky 17 (some 66) (v := ?_) rfl (by kernel_rfl) (by kernel_rfl) (by kernel_rfl) (fun _ _ _ h => h) ?_ hHeld ?_
          rotate_left
          focus (intro w hSw; (try dsimp only at hSw); go_simp; (try with_reducible rfl); done)
          go_frame
          refine tky 18 (some 67) (v := ?_) rfl (by kernel_rfl) (by kernel_rfl) (by kernel_rfl) (fun _ _ _ h => h) ?_ hHeld ?_
          rotate_left
          focus (intro w hSw; (try dsimp only at hSw); go_simp; (try with_reducible rfl); done)
          go_frame
          refine tky 19 (some 68) (v := ?_) rfl (by kernel_rfl) (by kernel_rfl) (by kernel_rfl) (fun _ _ _ h => h) ?_ hHeld ?_
          rotate_left
          focus (intro w hSw; (try dsimp only at hSw); go_simp; (try with_reducible rfl); done)
          go_frame
          refine tky 20 (some 69) (v := ?_) rfl (by kernel_rfl) (by kernel_rfl) (by kernel_rfl) (fun _ _ _ h => h) ?_ hHeld ?_
          rotate_left
          focus (intro w hSw; (try dsimp only at hSw); go_simp; (try with_reducible rfl); done)
          go_frame
          refine tky 21 (some 70) (v := ?_) rfl (by kernel_rfl) (by kernel_rfl) (by kernel_rfl) (fun _ _ _ h => h) ?_ hHeld ?_
          rotate_left
          focus (intro w hSw; (try dsimp only at hSw); go_simp; (try with_reducible rfl); done)
          go_frame
          refine rcons 22 rfl (by kernel_rfl) (fun K hK => ?_)
          go_simp
          refine (HT.out _).mono ?_; rintro e wt ⟨rfl, hb⟩
          (try dsimp only)
          refine hK.out _ _ (keepR hb hHeld) (fun hHeld2 => ?_)
          clear hK K hHeld
          have hHeld := hHeld2
          clear hHeld2
          (try go_frame)
          refine tky 23 (some 72) (v := ?_) rfl (by kernel_rfl) (by kernel_rfl) (by kernel_rfl) (fun _ _ _ h => h) ?_ hHeld ?_
          rotate_left
          focus (intro w hSw; (try dsimp only at hSw); go_simp; (try with_reducible rfl); done)
          go_frame
          refine tky 24 (some 73) (v := ?_) rfl (by kernel_rfl) (by kernel_rfl) (by kernel_rfl) (fun _ _ _ h => h) ?_ hHeld ?_
          rotate_left
          focus (intro w hSw; (try dsimp only at hSw); go_simp; (try with_reducible rfl); done)
          go_frame
          refine tky 25 (some 74) (v := ?_) rfl (by kernel_rfl) (by kernel_rfl) (by kernel_rfl) (fun _ _ _ h => h) ?_ hHeld ?_
          rotate_left
          focus (intro w hSw; (try dsimp only at hSw); go_simp; (try with_reducible rfl); done)
          go_frame
          refine tky 26 (some 75) (v := ?_) rfl (by kernel_rfl) (by kernel_rfl) (by kernel_rfl) (fun _ _ _ h => h) ?_ hHeld ?_
          rotate_left
          focus (intro w hSw; (try dsimp only at hSw); go_simp; (try with_reducible rfl); done)
          go_frame
          refine tky 27 (some 76) (v := ?_) rfl (by kernel_rfl) (by kernel_rfl) (by kernel_rfl) (fun _ _ _ h => h) ?_ hHeld ?_
          rotate_left
          focus (intro w hSw; (try dsimp only at hSw); go_simp; (try with_reducible rfl); done)
          go_frame
          refine tky 28 (some 77) (v := ?_) rfl (by kernel_rfl) (by kernel_rfl) (by kernel_rfl) (fun _ _ _ h => h) ?_ hHeld ?_
          rotate_left
          focus (intro w hSw; (try dsimp only at hSw); go_simp; (try with_reducible rfl); done)
          go_frame
          refine tky 29 (some 78) (v := ?_) rfl (by kernel_rfl) (by kernel_rfl) (by kernel_rfl) (fun _ _ _ h => h) ?_ hHeld ?_
          rotate_left
          focus (intro w hSw; (try dsimp only at hSw); go_simp; (try with_reducible rfl); done)
          go_frame
          refine tky 30 (some 79) (v := ?_) rfl (by kernel_rfl) (by kernel_rfl) (by kernel_rfl) (fun _ _ _ h => h) ?_ hHeld ?_
          rotate_left
          focus (intro w hSw; (try dsimp only at hSw); go_simp; (try with_reducible rfl); done)
          go_frame
          refine tky 31 (some 80) (v := ?_) rfl (by kernel_rfl) (by kernel_rfl) (by kernel_rfl) (fun _ _ _ h => h) ?_ hHeld ?_
          rotate_left
          focus (intro w hSw; (try dsimp only at hSw); go_simp; (try with_reducible rfl); done)
          go_frame
          refine rcons 32 rfl (by kernel_rfl) (fun K hK => ?_)
          go_simp
          refine (HA.out _ hHeld.2.2).mono ?_; rintro e wa ⟨rfl, rfl⟩
          (try dsimp only)
          refine hK.out _ _ (hHeld) (fun hHeld2 => ?_)
          clear hK K hHeld
          have hHeld := hHeld2
          clear hHeld2
          (try go_frame)
          refine tky 33 (some 82) (v := ?_) rfl (by kernel_rfl) (by kernel_rfl) (by kernel_rfl) (fun _ _ _ h => h) ?_ hHeld ?_
          rotate_left
          focus (intro w hSw; (try dsimp only at hSw); go_simp; (try with_reducible rfl); done)
          go_frame
          refine wpAnyH_done (by kernel_rfl) ?_ _
          rename World => wt
          have HBT := Lib.hid hHeld.2.2
          have s0 := hHeld.2.1
          clear hHeld
          go_wp2_with fail
          cases hv : valN (d - 1) (V.drop p) with
          | none =>
            have HO3 := Lib.hid (HFAIL.out HOK.out hv)
            have HI : Hid (∀ W', CelRow b off V W' → Calls Tryz.prog 85 #[.slice (some ⟨b, off, none⟩) V.length cap, .int .i64 (p : Int), .int .i64 ((d : Int) - 1)] W' fun e w' => e = .returned (.int .i64 (-1)) ∧ Below W'.heap.size W' w') := Lib.hid fun W' h => by
              have := HIH.out W' p hpl h
              rw [endI_none hv] at this
              exact this
            have HF := Lib.hid (HRN.out HO3.out)
            clear hv
            refine (HI.out _ (HRW.out.below' HBT.out)).mono ?_; rintro e w6 ⟨rfl, hb6⟩
            have HB6 := Lib.hid (HBW.out.trans (Below.trans (HBT.out.mono HBW.out.size) (hb6.mono (Nat.le_trans HBW.out.size HBT.out.size))))
            clear hb6
            go_wp2_with fail
            go_ret
            exact ⟨ret_i HF.out, HB6.out⟩
          | some n =>
            have HO3 := Lib.hid (HNEXT.out n HOK.out hv)
            have HI : Hid (∀ W', CelRow b off V W' → Calls Tryz.prog 85 #[.slice (some ⟨b, off, none⟩) V.length cap, .int .i64 (p : Int), .int .i64 ((d : Int) - 1)] W' fun e w' => e = .returned (.int .i64 ((p + n : Nat) : Int)) ∧ Below W'.heap.size W' w') := Lib.hid fun W' h => by
              have := HIH.out W' p hpl h
              rw [endI_some hv] at this
              exact this
            have hn1 := (valN_le _ _ _ hv).1
            have hn2 := (valN_le _ _ _ hv).2
            rw [List.length_drop] at hn2
            obtain ⟨p2, hp2⟩ : ∃ p2, p + n = p2 := ⟨_, rfl⟩
            have HP2 : Hid (p2 = k + 1 + (u + n)) := Lib.hid (by rw [← hp2, HPU.out]; omega)
            have hp3 : p2 ≤ V.length := by omega
            rw [hp2] at HI
            clear hv hp2 hn2
            refine (HI.out _ (HRW.out.below' HBT.out)).mono ?_; rintro e w6 ⟨rfl, hb6⟩
            have HB6 := Lib.hid (HB.out.trans (Below.trans (HBT.out.mono hwz) (hb6.mono (Nat.le_trans hwz HBT.out.size))))
            have HO6 := Lib.hid ((HO2.out.below HBT.out).below hb6)
            clear hb6
            go_wp2_with fail
            go_roundg g1
            case measure => omega
            case rel => exact ⟨j + 1, p2, u + n, _, [], x.data.toList :: nl, rfl, rfl, by go_num, by omega, hp3, HP2, by omega, by simp, HO3, rfl, HO6, HB6⟩
      · have HO3 := Lib.hid (HK.out.out_ (by have := HPU.out; omega))
        have hge : decide (V.length ≤ p) = true := decide_eq_true (by omega)
        have HS0 : Hid (Below wr.heap.size wr wr.drew) := Lib.hid ⟨rfl, rfl, rfl, Nat.le_refl _, fun _ _ => rfl⟩
        go_wp2_with fail
        refine wp_region_held_drew (S := fun W => Below wr.heap.size wr W) (by kernel_rfl) (HS0.out) (fun hHeld => ?_)
        refine tky 0 (some 49) (v := ?_) rfl (by kernel_rfl) (by kernel_rfl) (by kernel_rfl) (fun _ _ _ h => h) ?_ hHeld ?_
        rotate_left
        focus (intro w hSw; (try dsimp only at hSw); go_simp; (try with_reducible rfl); done)
        go_frame
        refine tky 1 (some 50) (v := ?_) rfl (by kernel_rfl) (by kernel_rfl) (by kernel_rfl) (fun _ _ _ h => h) ?_ hHeld ?_
        rotate_left
        focus (intro w hSw; (try dsimp only at hSw); go_simp; (try with_reducible rfl); done)
        go_frame
        refine tky 2 (some 51) (v := ?_) rfl (by kernel_rfl) (by kernel_rfl) (by kernel_rfl) (fun _ _ _ h => h) ?_ hHeld ?_
        rotate_left
        focus (intro w hSw; (try dsimp only at hSw); go_simp; (try with_reducible rfl); done)
        go_frame
        refine tky 3 (some 52) (v := ?_) rfl (by kernel_rfl) (by kernel_rfl) (by kernel_rfl) (fun _ _ _ h => h) ?_ hHeld ?_
        rotate_left
        focus (intro w hSw; (try dsimp only at hSw); go_simp; (try with_reducible rfl); done)
        go_frame
        refine tky 4 (some 53) (v := ?_) rfl (by kernel_rfl) (by kernel_rfl) (by kernel_rfl) (fun _ _ _ h => h) ?_ hHeld ?_
        rotate_left
        focus (intro w hSw; (try dsimp only at hSw); go_simp; (try with_reducible rfl); done)
        go_frame
        refine tkn 5 (some 54) rfl (by kernel_rfl) (by kernel_rfl) (by kernel_rfl) (fun _ _ _ h => h) hHeld ?_
        go_frame
        refine tkn 6 (some 55) rfl (by kernel_rfl) (by kernel_rfl) (by kernel_rfl) (fun _ _ _ h => h) hHeld ?_
        go_frame
        refine tkn 7 (some 56) rfl (by kernel_rfl) (by kernel_rfl) (by kernel_rfl) (fun _ _ _ h => h) hHeld ?_
        go_frame
        refine tkn 8 (some 57) rfl (by kernel_rfl) (by kernel_rfl) (by kernel_rfl) (fun _ _ _ h => h) hHeld ?_
        go_frame
        refine tkn 9 (some 58) rfl (by kernel_rfl) (by kernel_rfl) (by kernel_rfl) (fun _ _ _ h => h) hHeld ?_
        go_frame
        refine tkn 10 (some 59) rfl (by kernel_rfl) (by kernel_rfl) (by kernel_rfl) (fun _ _ _ h => h) hHeld ?_
        go_frame
        refine tkn 11 (some 60) rfl (by kernel_rfl) (by kernel_rfl) (by kernel_rfl) (fun _ _ _ h => h) hHeld ?_
        go_frame
        refine tkn 12 (some 61) rfl (by kernel_rfl) (by kernel_rfl) (by kernel_rfl) (fun _ _ _ h => h) hHeld ?_
        go_frame
        refine tkn 13 (some 62) rfl (by kernel_rfl) (by kernel_rfl) (by kernel_rfl) (fun _ _ _ h => h) hHeld ?_
        go_frame
        refine tkn 14 (some 63) rfl (by kernel_rfl) (by kernel_rfl) (by kernel_rfl) (fun _ _ _ h => h) hHeld ?_
        go_frame
        refine tky 15 (some 64) (v := ?_) rfl (by kernel_rfl) (by kernel_rfl) (by kernel_rfl) (fun _ _ _ h => h) ?_ hHeld ?_
        rotate_left
        focus (intro w hSw; (try dsimp only at hSw); go_simp; (try with_reducible rfl); done)
        go_frame
        refine tky 16 (some 65) (v := ?_) rfl (by kernel_rfl) (by kernel_rfl) (by kernel_rfl) (fun _ _ _ h => h) ?_ hHeld ?_
        rotate_left
        focus (intro w hSw; (try dsimp only at hSw); go_simp; (try with_reducible rfl); done)
        go_frame
        refine tkn 17 (some 66) rfl (by kernel_rfl) (by kernel_rfl) (by kernel_rfl) (fun _ _ _ h => h) hHeld ?_
        go_frame
        refine tkn 18 (some 67) rfl (by kernel_rfl) (by kernel_rfl) (by kernel_rfl) (fun _ _ _ h => h) hHeld ?_
        go_frame
        refine tkn 19 (some 68) rfl (by kernel_rfl) (by kernel_rfl) (by kernel_rfl) (fun _ _ _ h => h) hHeld ?_
        go_frame
        refine tkn 20 (some 69) rfl (by kernel_rfl) (by kernel_rfl) (by kernel_rfl) (fun _ _ _ h => h) hHeld ?_
        go_frame
        refine tkn 21 (some 70) rfl (by kernel_rfl) (by kernel_rfl) (by kernel_rfl) (fun _ _ _ h => h) hHeld ?_
        go_frame
        refine tkn 22 (some 71) rfl (by kernel_rfl) (by kernel_rfl) (by kernel_rfl) (fun _ _ _ h => h) hHeld ?_
        go_frame
        refine tkn 23 (some 72) rfl (by kernel_rfl) (by kernel_rfl) (by kernel_rfl) (fun _ _ _ h => h) hHeld ?_
        go_frame
        refine tky 24 (some 73) (v := ?_) rfl (by kernel_rfl) (by kernel_rfl) (by kernel_rfl) (fun _ _ _ h => h) ?_ hHeld ?_
        rotate_left
        focus (intro w hSw; (try dsimp only at hSw); go_simp; (try with_reducible rfl); done)
        go_frame
        refine tky 25 (some 74) (v := ?_) rfl (by kernel_rfl) (by kernel_rfl) (by kernel_rfl) (fun _ _ _ h => h) ?_ hHeld ?_
        rotate_left
        focus (intro w hSw; (try dsimp only at hSw); go_simp; (try with_reducible rfl); done)
        go_frame
        refine tkn 26 (some 75) rfl (by kernel_rfl) (by kernel_rfl) (by kernel_rfl) (fun _ _ _ h => h) hHeld ?_
        go_frame
        refine tkn 27 (some 76) rfl (by kernel_rfl) (by kernel_rfl) (by kernel_rfl) (fun _ _ _ h => h) hHeld ?_
        go_frame
        refine tkn 28 (some 77) rfl (by kernel_rfl) (by kernel_rfl) (by kernel_rfl) (fun _ _ _ h => h) hHeld ?_
        go_frame
        refine tkn 29 (some 78) rfl (by kernel_rfl) (by kernel_rfl) (by kernel_rfl) (fun _ _ _ h => h) hHeld ?_
        go_frame
        refine tkn 30 (some 79) rfl (by kernel_rfl) (by kernel_rfl) (by kernel_rfl) (fun _ _ _ h => h) hHeld ?_
        go_frame
        refine tkn 31 (some 80) rfl (by kernel_rfl) (by kernel_rfl) (by kernel_rfl) (fun _ _ _ h => h) hHeld ?_
        go_frame
        refine tkn 32 (some 81) rfl (by kernel_rfl) (by kernel_rfl) (by kernel_rfl) (fun _ _ _ h => h) hHeld ?_
        go_frame
        refine tky 33 (some 82) (v := ?_) rfl (by kernel_rfl) (by kernel_rfl) (by kernel_rfl) (fun _ _ _ h => h) ?_ hHeld ?_
        rotate_left
        focus (intro w hSw; (try dsimp only at hSw); go_simp; (try with_reducible rfl); done)
        go_frame
        refine wpAnyH_done (by kernel_rfl) ?_ _
        have HBX := Lib.hid (HBW.out.trans (hHeld.mono HBW.out.size))
        clear hHeld
        have HF := Lib.hid (HRN.out HO3.out)
        go_wp2_with fail
        go_ret
        exact ⟨ret_i HF.out, HBX.out⟩
set_option maxRecDepth 100000 in
set_option maxHeartbeats 1000000 in
theorem rb_obj (V : List Cel) (b off cap : Nat) (W : World) (k d : Nat) (kk : Nat) (nx tx : ByteArray) (nu : Int) (m : Nat)
    (hk : k < V.length) (hl : V.length ≤ 100000) (hd : d ≤ 16)
    (c0 : W.cell? ⟨b, off + k * 5, none⟩ = some (.int .u8 (kk : Int))) (c1 : W.cell? ⟨b, off + k * 5 + 1, none⟩ = some (.string nx)) (c2 : W.cell? ⟨b, off + k * 5 + 2, none⟩ = some (.string tx)) (c3 : W.cell? ⟨b, off + k * 5 + 3, none⟩ = some (.int .i64 nu)) (c4 : W.cell? ⟨b, off + k * 5 + 4, none⟩ = some (.int .i64 (m : Int)))
    (HO : Hid (∀ w : World, Calls Tryz.prog 94 #[.agg #[.int .u8 (kk : Int), .string nx, .string tx, .int .i64 nu, .int .i64 (m : Int)]] w fun e w' => e = .returned (.bool true) ∧ Below w.heap.size w w'))
    (h6 : ((kk : Int) != 6) = true) (h7 : ((kk : Int) != 7) = false) (t6 : ((kk : Int) == 6) = false) (t7 : ((kk : Int) == 7) = true)
    (hd1 : 0 < d) (hmx : (m : Int) ≤ 9223372036854775807) (HROW : Hid (CelRow b off V W)) (HSM : Hid (∀ c ∈ V, c.name.length ≤ 100000)) (o : Option Nat) (hkids : kidsN (valN (d - 1)) false m [] (V.drop (k + 1)) = o) (hval : valN d (V.drop k) = o.map (1 + ·))
    (HTX : Hid (∀ (W' : World) (x : ByteArray), x.size ≤ 100000 → Calls Tryz.prog 95 #[.string x] W' fun e w' => e = .returned (.bool (textB x.data.toList)) ∧ Below W'.heap.size W' w'))
    (HIH : Hid (∀ (W' : World) (p : Nat), p < V.length → CelRow b off V W' → Calls Tryz.prog 85 #[.slice (some ⟨b, off, none⟩) V.length cap, .int .i64 (p : Int), .int .i64 ((d : Int) - 1)] W' fun e w' => e = .returned (.int .i64 (endI V p (d - 1))) ∧ Below W'.heap.size W' w')) :
    Calls Tryz.prog 85 #[.slice (some ⟨b, off, none⟩) V.length cap, .int .i64 (k : Int), .int .i64 (d : Int)] W fun e w' => e = .returned (.int .i64 (endI V k d)) ∧ Below W.heap.size W w' := by
  obtain ⟨R, hR⟩ : ∃ R, endI V k d = R := ⟨_, rfl⟩
  have HRN : Hid (o = none → -1 = R) := Lib.hid fun h => by rw [← hR, endI_none (by rw [hval, h]; rfl)]
  have HRS : Hid (∀ u, o = some u → ((k + 1 + u : Nat) : Int) = R) := Lib.hid fun u h => by rw [← hR, endI_some (n := 1 + u) (by rw [hval, h]; rfl)]; omega
  have HK0 := Lib.hid (KS.start hkids)
  rw [hR]
  have hd2 : ((d : Int) == 0) = false := by rw [beq_eq_false_iff_ne]; omega
  have hgk : decide (V.length ≤ k) = false := decide_eq_false (by omega)
  have hk0 : decide ((k : Int) < 0) = false := decide_eq_false (by omega)
  clear hR hval hkids
  go_enter Tryz.func85, Tryz.ntmps85
  go_wp2_with fail
  refine (HO.out _).mono ?_; rintro e w1 ⟨rfl, hb⟩
  have hz1 := hb.size
  have d0 := (hb.cell (p := ⟨b, _, none⟩) (lt_of_cell c0)).trans c0
  have d1 := (hb.cell (p := ⟨b, _, none⟩) (lt_of_cell c1)).trans c1
  have d2 := (hb.cell (p := ⟨b, _, none⟩) (lt_of_cell c2)).trans c2
  have d3 := (hb.cell (p := ⟨b, _, none⟩) (lt_of_cell c3)).trans c3
  have d4 := (hb.cell (p := ⟨b, _, none⟩) (lt_of_cell c4)).trans c4
  have HB1 := Lib.hid hb
  clear hb c0 c1 c2 c3 c4
  go_wp2_with fail
  obtain ⟨wc, hwc⟩ : ∃ wc, w1.alloc (.cells #[.int .u8 (kk : Int), .string nx, .string tx, .int .i64 nu, .int .i64 (m : Int)] 59) = wc := ⟨_, rfl⟩
  have hc : wc.heap[w1.heap.size]? = some (.cells #[.int .u8 (kk : Int), .string nx, .string tx, .int .i64 nu, .int .i64 (m : Int)] 59 (0, 0)) := by rw [← hwc]; exact heap_alloc_new w1 _
  have hbc : Below W.heap.size W wc := by rw [← hwc]; exact HB1.out.alloc hz1 _
  have hcz : W.heap.size ≤ w1.heap.size ∧ w1.heap.size < wc.heap.size := ⟨hz1, heap_lt hc⟩
  obtain ⟨cb, hcb⟩ : ∃ cb, w1.heap.size = cb := ⟨_, rfl⟩
  rw [hcb] at hc hcz
  rw [hwc, hcb]
  have HC := Lib.hid hc
  have HBC := Lib.hid hbc
  clear hwc hc hbc d0 d1 d2 d3 d4 HB1 hz1 hcb
  go_loopg [1, 8, 9] m (fun gk at_ nv ct wr => ∃ (j p u : Nat) (ov : Value) (nm : List ByteArray) (nl : List (List UInt8)), ov = nv ∧ at_ = .int .i64 (p : Int) ∧ ct = .int .i64 j ∧ gk + j = m ∧ p ≤ V.length ∧ Hid (p = k + 1 + u) ∧ j ≤ u ∧ nm.length ≤ j ∧ Hid (KS V (d - 1) k false o gk nl u) ∧ Hid (nl = (nm.map (·.data.toList)).reverse) ∧ Hid (OwnS wc.heap.size ov nm wr) ∧ Hid (Below wc.heap.size wc wr))
  case atStart => exact ⟨0, k + 1, 0, _, [], [], rfl, by go_num, rfl, by omega, by omega, Lib.hid rfl, Nat.le_refl _, Nat.le_refl _, HK0, Lib.hid rfl, Lib.hid (OwnS.nil _ _), Lib.hid (Below.refl _ _)⟩
  case round =>
    rename World => wr
    obtain ⟨j, p, u, ov, nm, nl, rfl, rfl, rfl, hj, hp, HPU, hju, hnm, HK, HNL, HO2, HB⟩ := hrel
    have hwz := HB.out.size
    have e4 : wr.cell? ⟨cb, 4, none⟩ = some (.int .i64 (m : Int)) := by rw [Lib.cell_of_heap ((HB.out.block _ hcz.2).trans HC.out)]; rfl
    have e0 : wr.cell? ⟨cb, 0, none⟩ = some (.int .u8 (kk : Int)) := by rw [Lib.cell_of_heap ((HB.out.block _ hcz.2).trans HC.out)]; rfl
    have HBW : Hid (Below W.heap.size W wr) := Lib.hid (HBC.out.trans (HB.out.mono HBC.out.size))
    by_cases hg0 : gk = 0
    · subst hg0
      have HF := Lib.hid (HRS.out u HK.out.done)
      have HF2 : Hid ((p : Int) = R) := Lib.hid (by rw [← HF.out, HPU.out])
      clear HF
      go_wp2_with fail
      go_ret
      exact ⟨ret_i HF2.out, HBW.out⟩
    · obtain ⟨g1, rfl⟩ : ∃ g1, gk = g1 + 1 := ⟨gk - 1, by omega⟩
      have hjm : j < m := by omega
      clear hg0
      by_cases hpl : p < V.length
      · have hrow := HROW.out.below' HBW.out
        obtain ⟨_, r1, _⟩ := hrow p hpl
        have HRW := Lib.hid hrow
        have hxz : (⟨V[p].name.toArray⟩ : ByteArray).size = V[p].name.length := by show V[p].name.toArray.size = _; simp
        have hxl : (⟨V[p].name.toArray⟩ : ByteArray).data.toList = V[p].name := by simp
        have hxs : (⟨V[p].name.toArray⟩ : ByteArray).size ≤ 100000 := by rw [hxz]; exact HSM.out _ (List.getElem_mem _)
        have HBAD := Lib.hid (fun h => HK.out.bad HPU.out hpl h)
        have HFAIL := Lib.hid (fun h h' => HK.out.fail HPU.out hpl h h')
        have HNEXT := Lib.hid (fun n h h' => HK.out.next (n := n) HPU.out hpl h h')
        rw [← hxl] at HBAD HFAIL HNEXT
        have hu : u ≤ 100000 := by have := HPU.out; omega
        clear hxz hxl hrow
        generalize (⟨V[p].name.toArray⟩ : ByteArray) = x at *
        have HS0 : Hid (wr.drew.cell? ⟨b, off + p * 5 + 1, none⟩ = some (.string x) ∧ wr.drew.cell? ⟨cb, 0, none⟩ = some (.int .u8 (kk : Int)) ∧ Below wr.heap.size wr wr.drew) := Lib.hid ⟨r1, e0, ⟨rfl, rfl, rfl, Nat.le_refl _, fun _ _ => rfl⟩⟩
        have hge : decide (V.length ≤ p) = false := decide_eq_false (by omega)
        have HT := Lib.hid (fun W' => HTX.out W' x hxs)
        have HA : Hid (∀ W', Below wr.heap.size wr W' → Calls Tryz.prog 96 #[ov, .string x] W' fun e w' => e = .returned (.bool (amongS nm x)) ∧ W' = w') := Lib.hid fun W' hW => ramong03_any nm ov x W' (by first | omega | simp) (HO2.out.sl.below hW)
        rcases empty_z x with ⟨z0, z1, z2, z3⟩ | ⟨z0, z1, z2, z3⟩
        rotate_left
        · have HO3 := Lib.hid (HBAD.out (by unfold okN; rw [if_neg Bool.false_ne_true, z3]; rfl))
          go_wp2_with fail
          refine wp_region_held_drew (S := fun W => W.cell? ⟨b, off + p * 5 + 1, none⟩ = some (.string x) ∧ W.cell? ⟨cb, 0, none⟩ = some (.int .u8 (kk : Int)) ∧ Below wr.heap.size wr W) (by kernel_rfl) (HS0.out) (fun hHeld => ?_)
          refine tky 0 (some 49) (v := ?_) rfl (by kernel_rfl) (by kernel_rfl) (by kernel_rfl) (fun _ _ _ h => h) ?_ hHeld ?_
          rotate_left
          focus (intro w hSw; (try dsimp only at hSw); go_simp; (try with_reducible rfl); done)
          go_frame
          refine tky 1 (some 50) (v := ?_) rfl (by kernel_rfl) (by kernel_rfl) (by kernel_rfl) (fun _ _ _ h => h) ?_ hHeld ?_
          rotate_left
          focus (intro w hSw; (try dsimp only at hSw); go_simp; (try with_reducible rfl); done)
          go_frame
          refine tky 2 (some 51) (v := ?_) rfl (by kernel_rfl) (by kernel_rfl) (by kernel_rfl) (fun _ _ _ h => h) ?_ hHeld ?_
          rotate_left
          focus (intro w hSw; (try dsimp only at hSw); go_simp; (try with_reducible rfl); done)
          go_frame
          refine tky 3 (some 52) (v := ?_) rfl (by kernel_rfl) (by kernel_rfl) (by kernel_rfl) (fun _ _ _ h => h) ?_ hHeld ?_
          rotate_left
          focus (intro w hSw; (try dsimp only at hSw); go_simp; (try with_reducible rfl); done)
          go_frame
          refine tky 4 (some 53) (v := ?_) rfl (by kernel_rfl) (by kernel_rfl) (by kernel_rfl) (fun _ _ _ h => h) ?_ hHeld ?_
          rotate_left
          focus (intro w hSw; (try dsimp only at hSw); go_simp; (try with_reducible rfl); done)
          go_frame
          refine tky 5 (some 54) (v := ?_) rfl (by kernel_rfl) (by kernel_rfl) (by kernel_rfl) (fun _ _ _ h => h) ?_ hHeld ?_
          rotate_left
          focus (intro w hSw; (try dsimp only at hSw); go_simp; (try with_reducible rfl); done)
          go_frame
          refine tky 6 (some 55) (v := ?_) rfl (by kernel_rfl) (by kernel_rfl) (by kernel_rfl) (fun _ _ _ h => h) ?_ hHeld ?_
          rotate_left
          focus (intro w hSw; (try dsimp only at hSw); go_simp; (try with_reducible rfl); done)
          go_frame
          refine tky 7 (some 56) (v := ?_) rfl (by kernel_rfl) (by kernel_rfl) (by kernel_rfl) (fun _ _ _ h => h) ?_ hHeld ?_
          rotate_left
          focus (intro w hSw; (try dsimp only at hSw); go_simp; (try with_reducible rfl); done)
          go_frame
          refine tky 8 (some 57) (v := ?_) rfl (by kernel_rfl) (by kernel_rfl) (by kernel_rfl) (fun _ _ _ h => h) ?_ hHeld ?_
          rotate_left
          focus (intro w hSw; (try dsimp only at hSw); go_simp; (try with_reducible rfl); done)
          go_frame
          refine tky 9 (some 58) (v := ?_) rfl (by kernel_rfl) (by kernel_rfl) (by kernel_rfl) (fun _ _ _ h => h) ?_ hHeld ?_
          rotate_left
          focus (intro w hSw; (try dsimp only at hSw); go_simp; (try with_reducible rfl); done)
          go_frame
          refine tky 10 (some 59) (v := ?_) rfl (by kernel_rfl) (by kernel_rfl) (by kernel_rfl) (fun _ _ _ h => h) ?_ hHeld ?_
          rotate_left
          focus (intro w hSw; (try dsimp only at hSw); go_simp; (try with_reducible rfl); done)
          go_frame
          refine tky 11 (some 60) (v := ?_) rfl (by kernel_rfl) (by kernel_rfl) (by kernel_rfl) (fun _ _ _ h => h) ?_ hHeld ?_
          rotate_left
          focus (intro w hSw; (try dsimp only at hSw); go_simp; (try with_reducible rfl); done)
          go_frame
          refine tky 12 (some 61) (v := ?_) rfl (by kernel_rfl) (by kernel_rfl) (by kernel_rfl) (fun _ _ _ h => h) ?_ hHeld ?_
          rotate_left
          focus (intro w hSw; (try dsimp only at hSw); go_simp; (try with_reducible rfl); done)
          go_frame
          refine tky 13 (some 62) (v := ?_) rfl (by kernel_rfl) (by kernel_rfl) (by kernel_rfl) (fun _ _ _ h => h) ?_ hHeld ?_
          rotate_left
          focus (intro w hSw; (try dsimp only at hSw); go_simp; (try with_reducible rfl); done)
          go_frame
          refine tky 14 (some 63) (v := ?_) rfl (by kernel_rfl) (by kernel_rfl) (by kernel_rfl) (fun _ _ _ h => h) ?_ hHeld ?_
          rotate_left
          focus (intro w hSw; (try dsimp only at hSw); go_simp; (try with_reducible rfl); done)
          go_frame
          refine tky 15 (some 64) (v := ?_) rfl (by kernel_rfl) (by kernel_rfl) (by kernel_rfl) (fun _ _ _ h => h) ?_ hHeld ?_
          rotate_left
          focus (intro w hSw; (try dsimp only at hSw); go_simp; (try with_reducible rfl); done)
          go_frame
          refine tky 16 (some 65) (v := ?_) rfl (by kernel_rfl) (by kernel_rfl) (by kernel_rfl) (fun _ _ _ h => h) ?_ hHeld ?_
          rotate_left
          focus (intro w hSw; (try dsimp only at hSw); go_simp; (try with_reducible rfl); done)
          go_frame
          refine tkn 17 (some 66) rfl (by kernel_rfl) (by kernel_rfl) (by kernel_rfl) (fun _ _ _ h => h) hHeld ?_
          go_frame
          refine tkn 18 (some 67) rfl (by kernel_rfl) (by kernel_rfl) (by kernel_rfl) (fun _ _ _ h => h) hHeld ?_
          go_frame
          refine tkn 19 (some 68) rfl (by kernel_rfl) (by kernel_rfl) (by kernel_rfl) (fun _ _ _ h => h) hHeld ?_
          go_frame
          refine tkn 20 (some 69) rfl (by kernel_rfl) (by kernel_rfl) (by kernel_rfl) (fun _ _ _ h => h) hHeld ?_
          go_frame
          refine tkn 21 (some 70) rfl (by kernel_rfl) (by kernel_rfl) (by kernel_rfl) (fun _ _ _ h => h) hHeld ?_
          go_frame
          refine tkn 22 (some 71) rfl (by kernel_rfl) (by kernel_rfl) (by kernel_rfl) (fun _ _ _ h => h) hHeld ?_
          go_frame
          refine tkn 23 (some 72) rfl (by kernel_rfl) (by kernel_rfl) (by kernel_rfl) (fun _ _ _ h => h) hHeld ?_
          go_frame
          refine tky 24 (some 73) (v := ?_) rfl (by kernel_rfl) (by kernel_rfl) (by kernel_rfl) (fun _ _ _ h => h) ?_ hHeld ?_
          rotate_left
          focus (intro w hSw; (try dsimp only at hSw); go_simp; (try with_reducible rfl); done)
          go_frame
          refine tky 25 (some 74) (v := ?_) rfl (by kernel_rfl) (by kernel_rfl) (by kernel_rfl) (fun _ _ _ h => h) ?_ hHeld ?_
          rotate_left
          focus (intro w hSw; (try dsimp only at hSw); go_simp; (try with_reducible rfl); done)
          go_frame
          refine tkn 26 (some 75) rfl (by kernel_rfl) (by kernel_rfl) (by kernel_rfl) (fun _ _ _ h => h) hHeld ?_
          go_frame
          refine tkn 27 (some 76) rfl (by kernel_rfl) (by kernel_rfl) (by kernel_rfl) (fun _ _ _ h => h) hHeld ?_
          go_frame
          refine tkn 28 (some 77) rfl (by kernel_rfl) (by kernel_rfl) (by kernel_rfl) (fun _ _ _ h => h) hHeld ?_
          go_frame
          refine tkn 29 (some 78) rfl (by kernel_rfl) (by kernel_rfl) (by kernel_rfl) (fun _ _ _ h => h) hHeld ?_
          go_frame
          refine tkn 30 (some 79) rfl (by kernel_rfl) (by kernel_rfl) (by kernel_rfl) (fun _ _ _ h => h) hHeld ?_
          go_frame
          refine tkn 31 (some 80) rfl (by kernel_rfl) (by kernel_rfl) (by kernel_rfl) (fun _ _ _ h => h) hHeld ?_
          go_frame
          refine tkn 32 (some 81) rfl (by kernel_rfl) (by kernel_rfl) (by kernel_rfl) (fun _ _ _ h => h) hHeld ?_
          go_frame
          refine tky 33 (some 82) (v := ?_) rfl (by kernel_rfl) (by kernel_rfl) (by kernel_rfl) (fun _ _ _ h => h) ?_ hHeld ?_
          rotate_left
          focus (intro w hSw; (try dsimp only at hSw); go_simp; (try with_reducible rfl); done)
          go_frame
          refine wpAnyH_done (by kernel_rfl) ?_ _
          have HBX := Lib.hid (HBW.out.trans (hHeld.2.2.mono HBW.out.size))
          clear hHeld
          have HF := Lib.hid (HRN.out HO3.out)
          go_wp2_with fail
          go_ret
          exact ⟨ret_i HF.out, HBX.out⟩
        · have hne : x.data.toList.isEmpty = false := by rw [← ByteArray.toList_eq]; exact z2
          cases htx : textB x.data.toList with
          | false =>
            have HO3 := Lib.hid (HBAD.out (by unfold okN; rw [if_neg Bool.false_ne_true, htx]; simp))
            rw [htx] at HT
            clear hne htx
            go_wp2_with fail
            refine wp_region_held_drew (S := fun W => W.cell? ⟨b, off + p * 5 + 1, none⟩ = some (.string x) ∧ W.cell? ⟨cb, 0, none⟩ = some (.int .u8 (kk : Int)) ∧ Below wr.heap.size wr W) (by kernel_rfl) (HS0.out) (fun hHeld => ?_)
            refine tky 0 (some 49) (v := ?_) rfl (by kernel_rfl) (by kernel_rfl) (by kernel_rfl) (fun _ _ _ h => h) ?_ hHeld ?_
            rotate_left
            focus (intro w hSw; (try dsimp only at hSw); go_simp; (try with_reducible rfl); done)
            go_frame
            refine tky 1 (some 50) (v := ?_) rfl (by kernel_rfl) (by kernel_rfl) (by kernel_rfl) (fun _ _ _ h => h) ?_ hHeld ?_
            rotate_left
            focus (intro w hSw; (try dsimp only at hSw); go_simp; (try with_reducible rfl); done)
            go_frame
            refine tky 2 (some 51) (v := ?_) rfl (by kernel_rfl) (by kernel_rfl) (by kernel_rfl) (fun _ _ _ h => h) ?_ hHeld ?_
            rotate_left
            focus (intro w hSw; (try dsimp only at hSw); go_simp; (try with_reducible rfl); done)
            go_frame
            refine tky 3 (some 52) (v := ?_) rfl (by kernel_rfl) (by kernel_rfl) (by kernel_rfl) (fun _ _ _ h => h) ?_ hHeld ?_
            rotate_left
            focus (intro w hSw; (try dsimp only at hSw); go_simp; (try with_reducible rfl); done)
            go_frame
            refine tky 4 (some 53) (v := ?_) rfl (by kernel_rfl) (by kernel_rfl) (by kernel_rfl) (fun _ _ _ h => h) ?_ hHeld ?_
            rotate_left
            focus (intro w hSw; (try dsimp only at hSw); go_simp; (try with_reducible rfl); done)
            go_frame
            refine tky 5 (some 54) (v := ?_) rfl (by kernel_rfl) (by kernel_rfl) (by kernel_rfl) (fun _ _ _ h => h) ?_ hHeld ?_
            rotate_left
            focus (intro w hSw; (try dsimp only at hSw); go_simp; (try with_reducible rfl); done)
            go_frame
            refine tky 6 (some 55) (v := ?_) rfl (by kernel_rfl) (by kernel_rfl) (by kernel_rfl) (fun _ _ _ h => h) ?_ hHeld ?_
            rotate_left
            focus (intro w hSw; (try dsimp only at hSw); go_simp; (try with_reducible rfl); done)
            go_frame
            refine tky 7 (some 56) (v := ?_) rfl (by kernel_rfl) (by kernel_rfl) (by kernel_rfl) (fun _ _ _ h => h) ?_ hHeld ?_
            rotate_left
            focus (intro w hSw; (try dsimp only at hSw); go_simp; (try with_reducible rfl); done)
            go_frame
            refine tky 8 (some 57) (v := ?_) rfl (by kernel_rfl) (by kernel_rfl) (by kernel_rfl) (fun _ _ _ h => h) ?_ hHeld ?_
            rotate_left
            focus (intro w hSw; (try dsimp only at hSw); go_simp; (try with_reducible rfl); done)
            go_frame
            refine tky 9 (some 58) (v := ?_) rfl (by kernel_rfl) (by kernel_rfl) (by kernel_rfl) (fun _ _ _ h => h) ?_ hHeld ?_
            rotate_left
            focus (intro w hSw; (try dsimp only at hSw); go_simp; (try with_reducible rfl); done)
            go_frame
            refine tky 10 (some 59) (v := ?_) rfl (by kernel_rfl) (by kernel_rfl) (by kernel_rfl) (fun _ _ _ h => h) ?_ hHeld ?_
            rotate_left
            focus (intro w hSw; (try dsimp only at hSw); go_simp; (try with_reducible rfl); done)
            go_frame
            refine tky 11 (some 60) (v := ?_) rfl (by kernel_rfl) (by kernel_rfl) (by kernel_rfl) (fun _ _ _ h => h) ?_ hHeld ?_
            rotate_left
            focus (intro w hSw; (try dsimp only at hSw); go_simp; (try with_reducible rfl); done)
            go_frame
            refine tky 12 (some 61) (v := ?_) rfl (by kernel_rfl) (by kernel_rfl) (by kernel_rfl) (fun _ _ _ h => h) ?_ hHeld ?_
            rotate_left
            focus (intro w hSw; (try dsimp only at hSw); go_simp; (try with_reducible rfl); done)
            go_frame
            refine tky 13 (some 62) (v := ?_) rfl (by kernel_rfl) (by kernel_rfl) (by kernel_rfl) (fun _ _ _ h => h) ?_ hHeld ?_
            rotate_left
            focus (intro w hSw; (try dsimp only at hSw); go_simp; (try with_reducible rfl); done)
            go_frame
            refine tky 14 (some 63) (v := ?_) rfl (by kernel_rfl) (by kernel_rfl) (by kernel_rfl) (fun _ _ _ h => h) ?_ hHeld ?_
            rotate_left
            focus (intro w hSw; (try dsimp only at hSw); go_simp; (try with_reducible rfl); done)
            go_frame
            refine tky 15 (some 64) (v := ?_) rfl (by kernel_rfl) (by kernel_rfl) (by kernel_rfl) (fun _ _ _ h => h) ?_ hHeld ?_
            rotate_left
            focus (intro w hSw; (try dsimp only at hSw); go_simp; (try with_reducible rfl); done)
            go_frame
            refine tky 16 (some 65) (v := ?_) rfl (by kernel_rfl) (by kernel_rfl) (by kernel_rfl) (fun _ _ _ h => h) ?_ hHeld ?_
            rotate_left
            focus (intro w hSw; (try dsimp only at hSw); go_simp; (try with_reducible rfl); done)
            go_frame
            refine tky 17 (some 66) (v := ?_) rfl (by kernel_rfl) (by kernel_rfl) (by kernel_rfl) (fun _ _ _ h => h) ?_ hHeld ?_
            rotate_left
            focus (intro w hSw; (try dsimp only at hSw); go_simp; (try with_reducible rfl); done)
            go_frame
            refine tky 18 (some 67) (v := ?_) rfl (by kernel_rfl) (by kernel_rfl) (by kernel_rfl) (fun _ _ _ h => h) ?_ hHeld ?_
            rotate_left
            focus (intro w hSw; (try dsimp only at hSw); go_simp; (try with_reducible rfl); done)
            go_frame
            refine tky 19 (some 68) (v := ?_) rfl (by kernel_rfl) (by kernel_rfl) (by kernel_rfl) (fun _ _ _ h => h) ?_ hHeld ?_
            rotate_left
            focus (intro w hSw; (try dsimp only at hSw); go_simp; (try with_reducible rfl); done)
            go_frame
            refine tky 20 (some 69) (v := ?_) rfl (by kernel_rfl) (by kernel_rfl) (by kernel_rfl) (fun _ _ _ h => h) ?_ hHeld ?_
            rotate_left
            focus (intro w hSw; (try dsimp only at hSw); go_simp; (try with_reducible rfl); done)
            go_frame
            refine tky 21 (some 70) (v := ?_) rfl (by kernel_rfl) (by kernel_rfl) (by kernel_rfl) (fun _ _ _ h => h) ?_ hHeld ?_
            rotate_left
            focus (intro w hSw; (try dsimp only at hSw); go_simp; (try with_reducible rfl); done)
            go_frame
            refine rcons 22 rfl (by kernel_rfl) (fun K hK => ?_)
            go_simp
            refine (HT.out _).mono ?_; rintro e wt ⟨rfl, hb⟩
            (try dsimp only)
            refine hK.out _ _ (keepR hb hHeld) (fun hHeld2 => ?_)
            clear hK K hHeld
            have hHeld := hHeld2
            clear hHeld2
            (try go_frame)
            refine tky 23 (some 72) (v := ?_) rfl (by kernel_rfl) (by kernel_rfl) (by kernel_rfl) (fun _ _ _ h => h) ?_ hHeld ?_
            rotate_left
            focus (intro w hSw; (try dsimp only at hSw); go_simp; (try with_reducible rfl); done)
            go_frame
            refine tky 24 (some 73) (v := ?_) rfl (by kernel_rfl) (by kernel_rfl) (by kernel_rfl) (fun _ _ _ h => h) ?_ hHeld ?_
            rotate_left
            focus (intro w hSw; (try dsimp only at hSw); go_simp; (try with_reducible rfl); done)
            go_frame
            refine tky 25 (some 74) (v := ?_) rfl (by kernel_rfl) (by kernel_rfl) (by kernel_rfl) (fun _ _ _ h => h) ?_ hHeld ?_
            rotate_left
            focus (intro w hSw; (try dsimp only at hSw); go_simp; (try with_reducible rfl); done)
            go_frame
            refine tkn 26 (some 75) rfl (by kernel_rfl) (by kernel_rfl) (by kernel_rfl) (fun _ _ _ h => h) hHeld ?_
            go_frame
            refine tkn 27 (some 76) rfl (by kernel_rfl) (by kernel_rfl) (by kernel_rfl) (fun _ _ _ h => h) hHeld ?_
            go_frame
            refine tkn 28 (some 77) rfl (by kernel_rfl) (by kernel_rfl) (by kernel_rfl) (fun _ _ _ h => h) hHeld ?_
            go_frame
            refine tkn 29 (some 78) rfl (by kernel_rfl) (by kernel_rfl) (by kernel_rfl) (fun _ _ _ h => h) hHeld ?_
            go_frame
            refine tkn 30 (some 79) rfl (by kernel_rfl) (by kernel_rfl) (by kernel_rfl) (fun _ _ _ h => h) hHeld ?_
            go_frame
            refine tkn 31 (some 80) rfl (by kernel_rfl) (by kernel_rfl) (by kernel_rfl) (fun _ _ _ h => h) hHeld ?_
            go_frame
            refine tkn 32 (some 81) rfl (by kernel_rfl) (by kernel_rfl) (by kernel_rfl) (fun _ _ _ h => h) hHeld ?_
            go_frame
            refine tky 33 (some 82) (v := ?_) rfl (by kernel_rfl) (by kernel_rfl) (by kernel_rfl) (fun _ _ _ h => h) ?_ hHeld ?_
            rotate_left
            focus (intro w hSw; (try dsimp only at hSw); go_simp; (try with_reducible rfl); done)
            go_frame
            refine wpAnyH_done (by kernel_rfl) ?_ _
            have HBX := Lib.hid (HBW.out.trans (hHeld.2.2.mono HBW.out.size))
            clear hHeld
            have HF := Lib.hid (HRN.out HO3.out)
            go_wp2_with fail
            go_ret
            exact ⟨ret_i HF.out, HBX.out⟩
          | true =>
            rw [htx] at HT
            cases ham : amongS nm x with
            | true =>
              have HO3 := Lib.hid (HBAD.out (by
                unfold okN
                have : amongB nl x.data.toList = true := by rw [HNL.out, revB, ← amongS_B, ham]
                rw [if_neg Bool.false_ne_true, this]; simp))
              rw [ham] at HA
              clear hne htx ham
              go_wp2_with fail
              refine wp_region_held_drew (S := fun W => W.cell? ⟨b, off + p * 5 + 1, none⟩ = some (.string x) ∧ W.cell? ⟨cb, 0, none⟩ = some (.int .u8 (kk : Int)) ∧ Below wr.heap.size wr W) (by kernel_rfl) (HS0.out) (fun hHeld => ?_)
              refine tky 0 (some 49) (v := ?_) rfl (by kernel_rfl) (by kernel_rfl) (by kernel_rfl) (fun _ _ _ h => h) ?_ hHeld ?_
              rotate_left
              focus (intro w hSw; (try dsimp only at hSw); go_simp; (try with_reducible rfl); done)
              go_frame
              refine tky 1 (some 50) (v := ?_) rfl (by kernel_rfl) (by kernel_rfl) (by kernel_rfl) (fun _ _ _ h => h) ?_ hHeld ?_
              rotate_left
              focus (intro w hSw; (try dsimp only at hSw); go_simp; (try with_reducible rfl); done)
              go_frame
              refine tky 2 (some 51) (v := ?_) rfl (by kernel_rfl) (by kernel_rfl) (by kernel_rfl) (fun _ _ _ h => h) ?_ hHeld ?_
              rotate_left
              focus (intro w hSw; (try dsimp only at hSw); go_simp; (try with_reducible rfl); done)
              go_frame
              refine tky 3 (some 52) (v := ?_) rfl (by kernel_rfl) (by kernel_rfl) (by kernel_rfl) (fun _ _ _ h => h) ?_ hHeld ?_
              rotate_left
              focus (intro w hSw; (try dsimp only at hSw); go_simp; (try with_reducible rfl); done)
              go_frame
              refine tky 4 (some 53) (v := ?_) rfl (by kernel_rfl) (by kernel_rfl) (by kernel_rfl) (fun _ _ _ h => h) ?_ hHeld ?_
              rotate_left
              focus (intro w hSw; (try dsimp only at hSw); go_simp; (try with_reducible rfl); done)
              go_frame
              refine tky 5 (some 54) (v := ?_) rfl (by kernel_rfl) (by kernel_rfl) (by kernel_rfl) (fun _ _ _ h => h) ?_ hHeld ?_
              rotate_left
              focus (intro w hSw; (try dsimp only at hSw); go_simp; (try with_reducible rfl); done)
              go_frame
              refine tky 6 (some 55) (v := ?_) rfl (by kernel_rfl) (by kernel_rfl) (by kernel_rfl) (fun _ _ _ h => h) ?_ hHeld ?_
              rotate_left
              focus (intro w hSw; (try dsimp only at hSw); go_simp; (try with_reducible rfl); done)
              go_frame
              refine tky 7 (some 56) (v := ?_) rfl (by kernel_rfl) (by kernel_rfl) (by kernel_rfl) (fun _ _ _ h => h) ?_ hHeld ?_
              rotate_left
              focus (intro w hSw; (try dsimp only at hSw); go_simp; (try with_reducible rfl); done)
              go_frame
              refine tky 8 (some 57) (v := ?_) rfl (by kernel_rfl) (by kernel_rfl) (by kernel_rfl) (fun _ _ _ h => h) ?_ hHeld ?_
              rotate_left
              focus (intro w hSw; (try dsimp only at hSw); go_simp; (try with_reducible rfl); done)
              go_frame
              refine tky 9 (some 58) (v := ?_) rfl (by kernel_rfl) (by kernel_rfl) (by kernel_rfl) (fun _ _ _ h => h) ?_ hHeld ?_
              rotate_left
              focus (intro w hSw; (try dsimp only at hSw); go_simp; (try with_reducible rfl); done)
              go_frame
              refine tky 10 (some 59) (v := ?_) rfl (by kernel_rfl) (by kernel_rfl) (by kernel_rfl) (fun _ _ _ h => h) ?_ hHeld ?_
              rotate_left
              focus (intro w hSw; (try dsimp only at hSw); go_simp; (try with_reducible rfl); done)
              go_frame
              refine tky 11 (some 60) (v := ?_) rfl (by kernel_rfl) (by kernel_rfl) (by kernel_rfl) (fun _ _ _ h => h) ?_ hHeld ?_
              rotate_left
              focus (intro w hSw; (try dsimp only at hSw); go_simp; (try with_reducible rfl); done)
              go_frame
              refine tky 12 (some 61) (v := ?_) rfl (by kernel_rfl) (by kernel_rfl) (by kernel_rfl) (fun _ _ _ h => h) ?_ hHeld ?_
              rotate_left
              focus (intro w hSw; (try dsimp only at hSw); go_simp; (try with_reducible rfl); done)
              go_frame
              refine tky 13 (some 62) (v := ?_) rfl (by kernel_rfl) (by kernel_rfl) (by kernel_rfl) (fun _ _ _ h => h) ?_ hHeld ?_
              rotate_left
              focus (intro w hSw; (try dsimp only at hSw); go_simp; (try with_reducible rfl); done)
              go_frame
              refine tky 14 (some 63) (v := ?_) rfl (by kernel_rfl) (by kernel_rfl) (by kernel_rfl) (fun _ _ _ h => h) ?_ hHeld ?_
              rotate_left
              focus (intro w hSw; (try dsimp only at hSw); go_simp; (try with_reducible rfl); done)
              go_frame
              refine tky 15 (some 64) (v := ?_) rfl (by kernel_rfl) (by kernel_rfl) (by kernel_rfl) (fun _ _ _ h => h) ?_ hHeld ?_
              rotate_left
              focus (intro w hSw; (try dsimp only at hSw); go_simp; (try with_reducible rfl); done)
              go_frame
              refine tky 16 (some 65) (v := ?_) rfl (by kernel_rfl) (by kernel_rfl) (by kernel_rfl) (fun _ _ _ h => h) ?_ hHeld ?_
              rotate_left
              focus (intro w hSw; (try dsimp only at hSw); go_simp; (try with_reducible rfl); done)
              go_frame
              refine tky 17 (some 66) (v := ?_) rfl (by kernel_rfl) (by kernel_rfl) (by kernel_rfl) (fun _ _ _ h => h) ?_ hHeld ?_
              rotate_left
              focus (intro w hSw; (try dsimp only at hSw); go_simp; (try with_reducible rfl); done)
              go_frame
              refine tky 18 (some 67) (v := ?_) rfl (by kernel_rfl) (by kernel_rfl) (by kernel_rfl) (fun _ _ _ h => h) ?_ hHeld ?_
              rotate_left
              focus (intro w hSw; (try dsimp only at hSw); go_simp; (try with_reducible rfl); done)
              go_frame
              refine tky 19 (some 68) (v := ?_) rfl (by kernel_rfl) (by kernel_rfl) (by kernel_rfl) (fun _ _ _ h => h) ?_ hHeld ?_
              rotate_left
              focus (intro w hSw; (try dsimp only at hSw); go_simp; (try with_reducible rfl); done)
              go_frame
              refine tky 20 (some 69) (v := ?_) rfl (by kernel_rfl) (by kernel_rfl) (by kernel_rfl) (fun _ _ _ h => h) ?_ hHeld ?_
              rotate_left
              focus (intro w hSw; (try dsimp only at hSw); go_simp; (try with_reducible rfl); done)
              go_frame
              refine tky 21 (some 70) (v := ?_) rfl (by kernel_rfl) (by kernel_rfl) (by kernel_rfl) (fun _ _ _ h => h) ?_ hHeld ?_
              rotate_left
              focus (intro w hSw; (try dsimp only at hSw); go_simp; (try with_reducible rfl); done)
              go_frame
              refine rcons 22 rfl (by kernel_rfl) (fun K hK => ?_)
              go_simp
              refine (HT.out _).mono ?_; rintro e wt ⟨rfl, hb⟩
              (try dsimp only)
              refine hK.out _ _ (keepR hb hHeld) (fun hHeld2 => ?_)
              clear hK K hHeld
              have hHeld := hHeld2
              clear hHeld2
              (try go_frame)
              refine tky 23 (some 72) (v := ?_) rfl (by kernel_rfl) (by kernel_rfl) (by kernel_rfl) (fun _ _ _ h => h) ?_ hHeld ?_
              rotate_left
              focus (intro w hSw; (try dsimp only at hSw); go_simp; (try with_reducible rfl); done)
              go_frame
              refine tky 24 (some 73) (v := ?_) rfl (by kernel_rfl) (by kernel_rfl) (by kernel_rfl) (fun _ _ _ h => h) ?_ hHeld ?_
              rotate_left
              focus (intro w hSw; (try dsimp only at hSw); go_simp; (try with_reducible rfl); done)
              go_frame
              refine tky 25 (some 74) (v := ?_) rfl (by kernel_rfl) (by kernel_rfl) (by kernel_rfl) (fun _ _ _ h => h) ?_ hHeld ?_
              rotate_left
              focus (intro w hSw; (try dsimp only at hSw); go_simp; (try with_reducible rfl); done)
              go_frame
              refine tky 26 (some 75) (v := ?_) rfl (by kernel_rfl) (by kernel_rfl) (by kernel_rfl) (fun _ _ _ h => h) ?_ hHeld ?_
              rotate_left
              focus (intro w hSw; (try dsimp only at hSw); go_simp; (try with_reducible rfl); done)
              go_frame
              refine tky 27 (some 76) (v := ?_) rfl (by kernel_rfl) (by kernel_rfl) (by kernel_rfl) (fun _ _ _ h => h) ?_ hHeld ?_
              rotate_left
              focus (intro w hSw; (try dsimp only at hSw); go_simp; (try with_reducible rfl); done)
              go_frame
              refine tky 28 (some 77) (v := ?_) rfl (by kernel_rfl) (by kernel_rfl) (by kernel_rfl) (fun _ _ _ h => h) ?_ hHeld ?_
              rotate_left
              focus (intro w hSw; (try dsimp only at hSw); go_simp; (try with_reducible rfl); done)
              go_frame
              refine tky 29 (some 78) (v := ?_) rfl (by kernel_rfl) (by kernel_rfl) (by kernel_rfl) (fun _ _ _ h => h) ?_ hHeld ?_
              rotate_left
              focus (intro w hSw; (try dsimp only at hSw); go_simp; (try with_reducible rfl); done)
              go_frame
              refine tky 30 (some 79) (v := ?_) rfl (by kernel_rfl) (by kernel_rfl) (by kernel_rfl) (fun _ _ _ h => h) ?_ hHeld ?_
              rotate_left
              focus (intro w hSw; (try dsimp only at hSw); go_simp; (try with_reducible rfl); done)
              go_frame
              refine tky 31 (some 80) (v := ?_) rfl (by kernel_rfl) (by kernel_rfl) (by kernel_rfl) (fun _ _ _ h => h) ?_ hHeld ?_
              rotate_left
              focus (intro w hSw; (try dsimp only at hSw); go_simp; (try with_reducible rfl); done)
              go_frame
              refine rcons 32 rfl (by kernel_rfl) (fun K hK => ?_)
              go_simp
              refine (HA.out _ hHeld.2.2).mono ?_; rintro e wa ⟨rfl, rfl⟩
              (try dsimp only)
              refine hK.out _ _ (hHeld) (fun hHeld2 => ?_)
              clear hK K hHeld
              have hHeld := hHeld2
              clear hHeld2
              (try go_frame)
              refine tky 33 (some 82) (v := ?_) rfl (by kernel_rfl) (by kernel_rfl) (by kernel_rfl) (fun _ _ _ h => h) ?_ hHeld ?_
              rotate_left
              focus (intro w hSw; (try dsimp only at hSw); go_simp; (try with_reducible rfl); done)
              go_frame
              refine wpAnyH_done (by kernel_rfl) ?_ _
              have HBX := Lib.hid (HBW.out.trans (hHeld.2.2.mono HBW.out.size))
              clear hHeld
              have HF := Lib.hid (HRN.out HO3.out)
              go_wp2_with fail
              go_ret
              exact ⟨ret_i HF.out, HBX.out⟩
            | false =>
              have HOK : Hid (okN false nl x.data.toList = true) := Lib.hid (by
                unfold okN
                have : amongB nl x.data.toList = false := by rw [HNL.out, revB, ← amongS_B, ham]
                rw [if_neg Bool.false_ne_true, this, hne, htx]; rfl)
              rw [ham] at HA
              clear hne htx ham
              go_wp2_with fail
              refine wp_region_held_drew (S := fun W => W.cell? ⟨b, off + p * 5 + 1, none⟩ = some (.string x) ∧ W.cell? ⟨cb, 0, none⟩ = some (.int .u8 (kk : Int)) ∧ Below wr.heap.size wr W) (by kernel_rfl) (HS0.out) (fun hHeld => ?_)
              refine tky 0 (some 49) (v := ?_) rfl (by kernel_rfl) (by kernel_rfl) (by kernel_rfl) (fun _ _ _ h => h) ?_ hHeld ?_
              rotate_left
              focus (intro w hSw; (try dsimp only at hSw); go_simp; (try with_reducible rfl); done)
              go_frame
              refine tky 1 (some 50) (v := ?_) rfl (by kernel_rfl) (by kernel_rfl) (by kernel_rfl) (fun _ _ _ h => h) ?_ hHeld ?_
              rotate_left
              focus (intro w hSw; (try dsimp only at hSw); go_simp; (try with_reducible rfl); done)
              go_frame
              refine tky 2 (some 51) (v := ?_) rfl (by kernel_rfl) (by kernel_rfl) (by kernel_rfl) (fun _ _ _ h => h) ?_ hHeld ?_
              rotate_left
              focus (intro w hSw; (try dsimp only at hSw); go_simp; (try with_reducible rfl); done)
              go_frame
              refine tky 3 (some 52) (v := ?_) rfl (by kernel_rfl) (by kernel_rfl) (by kernel_rfl) (fun _ _ _ h => h) ?_ hHeld ?_
              rotate_left
              focus (intro w hSw; (try dsimp only at hSw); go_simp; (try with_reducible rfl); done)
              go_frame
              refine tky 4 (some 53) (v := ?_) rfl (by kernel_rfl) (by kernel_rfl) (by kernel_rfl) (fun _ _ _ h => h) ?_ hHeld ?_
              rotate_left
              focus (intro w hSw; (try dsimp only at hSw); go_simp; (try with_reducible rfl); done)
              go_frame
              refine tky 5 (some 54) (v := ?_) rfl (by kernel_rfl) (by kernel_rfl) (by kernel_rfl) (fun _ _ _ h => h) ?_ hHeld ?_
              rotate_left
              focus (intro w hSw; (try dsimp only at hSw); go_simp; (try with_reducible rfl); done)
              go_frame
              refine tky 6 (some 55) (v := ?_) rfl (by kernel_rfl) (by kernel_rfl) (by kernel_rfl) (fun _ _ _ h => h) ?_ hHeld ?_
              rotate_left
              focus (intro w hSw; (try dsimp only at hSw); go_simp; (try with_reducible rfl); done)
              go_frame
              refine tky 7 (some 56) (v := ?_) rfl (by kernel_rfl) (by kernel_rfl) (by kernel_rfl) (fun _ _ _ h => h) ?_ hHeld ?_
              rotate_left
              focus (intro w hSw; (try dsimp only at hSw); go_simp; (try with_reducible rfl); done)
              go_frame
              refine tky 8 (some 57) (v := ?_) rfl (by kernel_rfl) (by kernel_rfl) (by kernel_rfl) (fun _ _ _ h => h) ?_ hHeld ?_
              rotate_left
              focus (intro w hSw; (try dsimp only at hSw); go_simp; (try with_reducible rfl); done)
              go_frame
              refine tky 9 (some 58) (v := ?_) rfl (by kernel_rfl) (by kernel_rfl) (by kernel_rfl) (fun _ _ _ h => h) ?_ hHeld ?_
              rotate_left
              focus (intro w hSw; (try dsimp only at hSw); go_simp; (try with_reducible rfl); done)
              go_frame
              refine tky 10 (some 59) (v := ?_) rfl (by kernel_rfl) (by kernel_rfl) (by kernel_rfl) (fun _ _ _ h => h) ?_ hHeld ?_
              rotate_left
              focus (intro w hSw; (try dsimp only at hSw); go_simp; (try with_reducible rfl); done)
              go_frame
              refine tky 11 (some 60) (v := ?_) rfl (by kernel_rfl) (by kernel_rfl) (by kernel_rfl) (fun _ _ _ h => h) ?_ hHeld ?_
              rotate_left
              focus (intro w hSw; (try dsimp only at hSw); go_simp; (try with_reducible rfl); done)
              go_frame
              refine tky 12 (some 61) (v := ?_) rfl (by kernel_rfl) (by kernel_rfl) (by kernel_rfl) (fun _ _ _ h => h) ?_ hHeld ?_
              rotate_left
              focus (intro w hSw; (try dsimp only at hSw); go_simp; (try with_reducible rfl); done)
              go_frame
              refine tky 13 (some 62) (v := ?_) rfl (by kernel_rfl) (by kernel_rfl) (by kernel_rfl) (fun _ _ _ h => h) ?_ hHeld ?_
              rotate_left
              focus (intro w hSw; (try dsimp only at hSw); go_simp; (try with_reducible rfl); done)
              go_frame
              refine tky 14 (some 63) (v := ?_) rfl (by kernel_rfl) (by kernel_rfl) (by kernel_rfl) (fun _ _ _ h => h) ?_ hHeld ?_
              rotate_left
              focus (intro w hSw; (try dsimp only at hSw); go_simp; (try with_reducible rfl); done)
              go_frame
              refine tky 15 (some 64) (v := ?_) rfl (by kernel_rfl) (by kernel_rfl) (by kernel_rfl) (fun _ _ _ h => h) ?_ hHeld ?_
              rotate_left
              focus (intro w hSw; (try dsimp only at hSw); go_simp; (try with_reducible rfl); done)
              go_frame
              refine tky 16 (some 65) (v := ?_) rfl (by kernel_rfl) (by kernel_rfl) (by kernel_rfl) (fun _ _ _ h => h) ?_ hHeld ?_
              rotate_left
              focus (intro w hSw; (try dsimp only at hSw); go_simp; (try with_reducible rfl); done)
              go_frame
              refine tky 17 (some 66) (v := ?_) rfl (by kernel_rfl) (by kernel_rfl) (by kernel_rfl) (fun _ _ _ h => h) ?_ hHeld ?_
              rotate_left
              focus (intro w hSw; (try dsimp only at hSw); go_simp; (try with_reducible rfl); done)
              go_frame
              refine tky 18 (some 67) (v := ?_) rfl (by kernel_rfl) (by kernel_rfl) (by kernel_rfl) (fun _ _ _ h => h) ?_ hHeld ?_
              rotate_left
              focus (intro w hSw; (try dsimp only at hSw); go_simp; (try with_reducible rfl); done)
              go_frame
              refine tky 19 (some 68) (v := ?_) rfl (by kernel_rfl) (by kernel_rfl) (by kernel_rfl) (fun _ _ _ h => h) ?_ hHeld ?_
              rotate_left
              focus (intro w hSw; (try dsimp only at hSw); go_simp; (try with_reducible rfl); done)
              go_frame
              refine tky 20 (some 69) (v := ?_) rfl (by kernel_rfl) (by kernel_rfl) (by kernel_rfl) (fun _ _ _ h => h) ?_ hHeld ?_
              rotate_left
              focus (intro w hSw; (try dsimp only at hSw); go_simp; (try with_reducible rfl); done)
              go_frame
              refine tky 21 (some 70) (v := ?_) rfl (by kernel_rfl) (by kernel_rfl) (by kernel_rfl) (fun _ _ _ h => h) ?_ hHeld ?_
              rotate_left
              focus (intro w hSw; (try dsimp only at hSw); go_simp; (try with_reducible rfl); done)
              go_frame
              refine rcons 22 rfl (by kernel_rfl) (fun K hK => ?_)
              go_simp
              refine (HT.out _).mono ?_; rintro e wt ⟨rfl, hb⟩
              (try dsimp only)
              refine hK.out _ _ (keepR hb hHeld) (fun hHeld2 => ?_)
              clear hK K hHeld
              have hHeld := hHeld2
              clear hHeld2
              (try go_frame)
              refine tky 23 (some 72) (v := ?_) rfl (by kernel_rfl) (by kernel_rfl) (by kernel_rfl) (fun _ _ _ h => h) ?_ hHeld ?_
              rotate_left
              focus (intro w hSw; (try dsimp only at hSw); go_simp; (try with_reducible rfl); done)
              go_frame
              refine tky 24 (some 73) (v := ?_) rfl (by kernel_rfl) (by kernel_rfl) (by kernel_rfl) (fun _ _ _ h => h) ?_ hHeld ?_
              rotate_left
              focus (intro w hSw; (try dsimp only at hSw); go_simp; (try with_reducible rfl); done)
              go_frame
              refine tky 25 (some 74) (v := ?_) rfl (by kernel_rfl) (by kernel_rfl) (by kernel_rfl) (fun _ _ _ h => h) ?_ hHeld ?_
              rotate_left
              focus (intro w hSw; (try dsimp only at hSw); go_simp; (try with_reducible rfl); done)
              go_frame
              refine tky 26 (some 75) (v := ?_) rfl (by kernel_rfl) (by kernel_rfl) (by kernel_rfl) (fun _ _ _ h => h) ?_ hHeld ?_
              rotate_left
              focus (intro w hSw; (try dsimp only at hSw); go_simp; (try with_reducible rfl); done)
              go_frame
              refine tky 27 (some 76) (v := ?_) rfl (by kernel_rfl) (by kernel_rfl) (by kernel_rfl) (fun _ _ _ h => h) ?_ hHeld ?_
              rotate_left
              focus (intro w hSw; (try dsimp only at hSw); go_simp; (try with_reducible rfl); done)
              go_frame
              refine tky 28 (some 77) (v := ?_) rfl (by kernel_rfl) (by kernel_rfl) (by kernel_rfl) (fun _ _ _ h => h) ?_ hHeld ?_
              rotate_left
              focus (intro w hSw; (try dsimp only at hSw); go_simp; (try with_reducible rfl); done)
              go_frame
              refine tky 29 (some 78) (v := ?_) rfl (by kernel_rfl) (by kernel_rfl) (by kernel_rfl) (fun _ _ _ h => h) ?_ hHeld ?_
              rotate_left
              focus (intro w hSw; (try dsimp only at hSw); go_simp; (try with_reducible rfl); done)
              go_frame
              refine tky 30 (some 79) (v := ?_) rfl (by kernel_rfl) (by kernel_rfl) (by kernel_rfl) (fun _ _ _ h => h) ?_ hHeld ?_
              rotate_left
              focus (intro w hSw; (try dsimp only at hSw); go_simp; (try with_reducible rfl); done)
              go_frame
              refine tky 31 (some 80) (v := ?_) rfl (by kernel_rfl) (by kernel_rfl) (by kernel_rfl) (fun _ _ _ h => h) ?_ hHeld ?_
              rotate_left
              focus (intro w hSw; (try dsimp only at hSw); go_simp; (try with_reducible rfl); done)
              go_frame
              refine rcons 32 rfl (by kernel_rfl) (fun K hK => ?_)
              go_simp
              refine (HA.out _ hHeld.2.2).mono ?_; rintro e wa ⟨rfl, rfl⟩
              (try dsimp only)
              refine hK.out _ _ (hHeld) (fun hHeld2 => ?_)
              clear hK K hHeld
              have hHeld := hHeld2
              clear hHeld2
              (try go_frame)
              refine tky 33 (some 82) (v := ?_) rfl (by kernel_rfl) (by kernel_rfl) (by kernel_rfl) (fun _ _ _ h => h) ?_ hHeld ?_
              rotate_left
              focus (intro w hSw; (try dsimp only at hSw); go_simp; (try with_reducible rfl); done)
              go_frame
              refine wpAnyH_done (by kernel_rfl) ?_ _
              rename World => wt
              have HBT := Lib.hid hHeld.2.2
              have s1 := hHeld.1
              have s0 := hHeld.2.1
              clear hHeld
              have HO4 := Lib.hid (HO2.out.below HBT.out)
              have hwt := HBT.out.size
              go_wp2_with (at_builtin; refine wpList_pushS rfl _ _ rfl wc.heap.size ov nm rfl (HO4.out.alloc _) ⟨wt.heap.size, 0, none⟩ 1 x rfl (new_cell0 wt _ _) ?c1 ?c2 ?_)
              case c1 => omega
              case c2 => simp; omega
              intro v' w3 hown' hgrow
              have HB3 : Hid (Below wc.heap.size wc w3) := Lib.hid (((HB.out.trans (HBT.out.mono hwz)).alloc (by omega) _).grown hgrow (by simp; omega) HO4.out.lt)
              have HO5 := Lib.hid hown'
              have HBW3 : Hid (Below W.heap.size W w3) := Lib.hid (HBC.out.trans (HB3.out.mono HBC.out.size))
              have HRW3 := Lib.hid (HROW.out.below' HBW3.out)
              clear hown' hgrow HO4 s0 s1 e0 e4 r1
              go_wp2_with fail
              cases hv : valN (d - 1) (V.drop p) with
              | none =>
                have HO3 := Lib.hid (HFAIL.out HOK.out hv)
                have HI : Hid (∀ W', CelRow b off V W' → Calls Tryz.prog 85 #[.slice (some ⟨b, off, none⟩) V.length cap, .int .i64 (p : Int), .int .i64 ((d : Int) - 1)] W' fun e w' => e = .returned (.int .i64 (-1)) ∧ Below W'.heap.size W' w') := Lib.hid fun W' h => by
                  have := HIH.out W' p hpl h
                  rw [endI_none hv] at this
                  exact this
                have HF := Lib.hid (HRN.out HO3.out)
                clear hv
                refine (HI.out _ (HRW3.out.below' (Below.refl _ _))).mono ?_; rintro e w6 ⟨rfl, hb6⟩
                have HB6 := Lib.hid (HBW3.out.trans (hb6.mono HBW3.out.size))
                clear hb6
                go_wp2_with fail
                go_ret
                exact ⟨ret_i HF.out, HB6.out⟩
              | some n =>
                have HO3 := Lib.hid (HNEXT.out n HOK.out hv)
                have HI : Hid (∀ W', CelRow b off V W' → Calls Tryz.prog 85 #[.slice (some ⟨b, off, none⟩) V.length cap, .int .i64 (p : Int), .int .i64 ((d : Int) - 1)] W' fun e w' => e = .returned (.int .i64 ((p + n : Nat) : Int)) ∧ Below W'.heap.size W' w') := Lib.hid fun W' h => by
                  have := HIH.out W' p hpl h
                  rw [endI_some hv] at this
                  exact this
                have hn1 := (valN_le _ _ _ hv).1
                have hn2 := (valN_le _ _ _ hv).2
                rw [List.length_drop] at hn2
                obtain ⟨p2, hp2⟩ : ∃ p2, p + n = p2 := ⟨_, rfl⟩
                have HP2 : Hid (p2 = k + 1 + (u + n)) := Lib.hid (by rw [← hp2, HPU.out]; omega)
                have hp3 : p2 ≤ V.length := by omega
                rw [hp2] at HI
                clear hv hp2 hn2
                refine (HI.out _ (HRW3.out.below' (Below.refl _ _))).mono ?_; rintro e w6 ⟨rfl, hb6⟩
                have HB6 := Lib.hid (HB3.out.trans (hb6.mono HB3.out.size))
                have HO6 := Lib.hid (HO5.out.below hb6)
                clear hb6
                go_wp2_with fail
                go_roundg g1
                case measure => omega
                case rel => exact ⟨j + 1, p2, u + n, _, nm ++ [x], x.data.toList :: nl, rfl, rfl, by go_num, by omega, hp3, HP2, by omega, by simp; omega, HO3, Lib.hid (by rw [HNL.out]; simp), HO6, HB6⟩
      · have HO3 := Lib.hid (HK.out.out_ (by have := HPU.out; omega))
        have hge : decide (V.length ≤ p) = true := decide_eq_true (by omega)
        have HS0 : Hid (Below wr.heap.size wr wr.drew) := Lib.hid ⟨rfl, rfl, rfl, Nat.le_refl _, fun _ _ => rfl⟩
        go_wp2_with fail
        refine wp_region_held_drew (S := fun W => Below wr.heap.size wr W) (by kernel_rfl) (HS0.out) (fun hHeld => ?_)
        refine tky 0 (some 49) (v := ?_) rfl (by kernel_rfl) (by kernel_rfl) (by kernel_rfl) (fun _ _ _ h => h) ?_ hHeld ?_
        rotate_left
        focus (intro w hSw; (try dsimp only at hSw); go_simp; (try with_reducible rfl); done)
        go_frame
        refine tky 1 (some 50) (v := ?_) rfl (by kernel_rfl) (by kernel_rfl) (by kernel_rfl) (fun _ _ _ h => h) ?_ hHeld ?_
        rotate_left
        focus (intro w hSw; (try dsimp only at hSw); go_simp; (try with_reducible rfl); done)
        go_frame
        refine tky 2 (some 51) (v := ?_) rfl (by kernel_rfl) (by kernel_rfl) (by kernel_rfl) (fun _ _ _ h => h) ?_ hHeld ?_
        rotate_left
        focus (intro w hSw; (try dsimp only at hSw); go_simp; (try with_reducible rfl); done)
        go_frame
        refine tky 3 (some 52) (v := ?_) rfl (by kernel_rfl) (by kernel_rfl) (by kernel_rfl) (fun _ _ _ h => h) ?_ hHeld ?_
        rotate_left
        focus (intro w hSw; (try dsimp only at hSw); go_simp; (try with_reducible rfl); done)
        go_frame
        refine tky 4 (some 53) (v := ?_) rfl (by kernel_rfl) (by kernel_rfl) (by kernel_rfl) (fun _ _ _ h => h) ?_ hHeld ?_
        rotate_left
        focus (intro w hSw; (try dsimp only at hSw); go_simp; (try with_reducible rfl); done)
        go_frame
        refine tkn 5 (some 54) rfl (by kernel_rfl) (by kernel_rfl) (by kernel_rfl) (fun _ _ _ h => h) hHeld ?_
        go_frame
        refine tkn 6 (some 55) rfl (by kernel_rfl) (by kernel_rfl) (by kernel_rfl) (fun _ _ _ h => h) hHeld ?_
        go_frame
        refine tkn 7 (some 56) rfl (by kernel_rfl) (by kernel_rfl) (by kernel_rfl) (fun _ _ _ h => h) hHeld ?_
        go_frame
        refine tkn 8 (some 57) rfl (by kernel_rfl) (by kernel_rfl) (by kernel_rfl) (fun _ _ _ h => h) hHeld ?_
        go_frame
        refine tkn 9 (some 58) rfl (by kernel_rfl) (by kernel_rfl) (by kernel_rfl) (fun _ _ _ h => h) hHeld ?_
        go_frame
        refine tkn 10 (some 59) rfl (by kernel_rfl) (by kernel_rfl) (by kernel_rfl) (fun _ _ _ h => h) hHeld ?_
        go_frame
        refine tkn 11 (some 60) rfl (by kernel_rfl) (by kernel_rfl) (by kernel_rfl) (fun _ _ _ h => h) hHeld ?_
        go_frame
        refine tkn 12 (some 61) rfl (by kernel_rfl) (by kernel_rfl) (by kernel_rfl) (fun _ _ _ h => h) hHeld ?_
        go_frame
        refine tkn 13 (some 62) rfl (by kernel_rfl) (by kernel_rfl) (by kernel_rfl) (fun _ _ _ h => h) hHeld ?_
        go_frame
        refine tkn 14 (some 63) rfl (by kernel_rfl) (by kernel_rfl) (by kernel_rfl) (fun _ _ _ h => h) hHeld ?_
        go_frame
        refine tky 15 (some 64) (v := ?_) rfl (by kernel_rfl) (by kernel_rfl) (by kernel_rfl) (fun _ _ _ h => h) ?_ hHeld ?_
        rotate_left
        focus (intro w hSw; (try dsimp only at hSw); go_simp; (try with_reducible rfl); done)
        go_frame
        refine tky 16 (some 65) (v := ?_) rfl (by kernel_rfl) (by kernel_rfl) (by kernel_rfl) (fun _ _ _ h => h) ?_ hHeld ?_
        rotate_left
        focus (intro w hSw; (try dsimp only at hSw); go_simp; (try with_reducible rfl); done)
        go_frame
        refine tkn 17 (some 66) rfl (by kernel_rfl) (by kernel_rfl) (by kernel_rfl) (fun _ _ _ h => h) hHeld ?_
        go_frame
        refine tkn 18 (some 67) rfl (by kernel_rfl) (by kernel_rfl) (by kernel_rfl) (fun _ _ _ h => h) hHeld ?_
        go_frame
        refine tkn 19 (some 68) rfl (by kernel_rfl) (by kernel_rfl) (by kernel_rfl) (fun _ _ _ h => h) hHeld ?_
        go_frame
        refine tkn 20 (some 69) rfl (by kernel_rfl) (by kernel_rfl) (by kernel_rfl) (fun _ _ _ h => h) hHeld ?_
        go_frame
        refine tkn 21 (some 70) rfl (by kernel_rfl) (by kernel_rfl) (by kernel_rfl) (fun _ _ _ h => h) hHeld ?_
        go_frame
        refine tkn 22 (some 71) rfl (by kernel_rfl) (by kernel_rfl) (by kernel_rfl) (fun _ _ _ h => h) hHeld ?_
        go_frame
        refine tkn 23 (some 72) rfl (by kernel_rfl) (by kernel_rfl) (by kernel_rfl) (fun _ _ _ h => h) hHeld ?_
        go_frame
        refine tky 24 (some 73) (v := ?_) rfl (by kernel_rfl) (by kernel_rfl) (by kernel_rfl) (fun _ _ _ h => h) ?_ hHeld ?_
        rotate_left
        focus (intro w hSw; (try dsimp only at hSw); go_simp; (try with_reducible rfl); done)
        go_frame
        refine tky 25 (some 74) (v := ?_) rfl (by kernel_rfl) (by kernel_rfl) (by kernel_rfl) (fun _ _ _ h => h) ?_ hHeld ?_
        rotate_left
        focus (intro w hSw; (try dsimp only at hSw); go_simp; (try with_reducible rfl); done)
        go_frame
        refine tkn 26 (some 75) rfl (by kernel_rfl) (by kernel_rfl) (by kernel_rfl) (fun _ _ _ h => h) hHeld ?_
        go_frame
        refine tkn 27 (some 76) rfl (by kernel_rfl) (by kernel_rfl) (by kernel_rfl) (fun _ _ _ h => h) hHeld ?_
        go_frame
        refine tkn 28 (some 77) rfl (by kernel_rfl) (by kernel_rfl) (by kernel_rfl) (fun _ _ _ h => h) hHeld ?_
        go_frame
        refine tkn 29 (some 78) rfl (by kernel_rfl) (by kernel_rfl) (by kernel_rfl) (fun _ _ _ h => h) hHeld ?_
        go_frame
        refine tkn 30 (some 79) rfl (by kernel_rfl) (by kernel_rfl) (by kernel_rfl) (fun _ _ _ h => h) hHeld ?_
        go_frame
        refine tkn 31 (some 80) rfl (by kernel_rfl) (by kernel_rfl) (by kernel_rfl) (fun _ _ _ h => h) hHeld ?_
        go_frame
        refine tkn 32 (some 81) rfl (by kernel_rfl) (by kernel_rfl) (by kernel_rfl) (fun _ _ _ h => h) hHeld ?_
        go_frame
        refine tky 33 (some 82) (v := ?_) rfl (by kernel_rfl) (by kernel_rfl) (by kernel_rfl) (fun _ _ _ h => h) ?_ hHeld ?_
        rotate_left
        focus (intro w hSw; (try dsimp only at hSw); go_simp; (try with_reducible rfl); done)
        go_frame
        refine wpAnyH_done (by kernel_rfl) ?_ _
        have HBX := Lib.hid (HBW.out.trans (hHeld.mono HBW.out.size))
        clear hHeld
        have HF := Lib.hid (HRN.out HO3.out)
        go_wp2_with fail
        go_ret
        exact ⟨ret_i HF.out, HBX.out⟩
end Go.Proofs.YtbejhdhhkpllfaaGreatDoor
namespace Go.Proofs.YtbejhdhhkpllfaaGreatDoor
open Go.RowKit
/-- What behind's inner function finds: the cells, the kinds, itself, the ends. -/
structure BH (w0 : World) (V : List Cel) (b off cap bv ba bw be g : Nat) (es : Array Value) (W : World) : Prop where
  hv : W.heap[bv]? = some (.cells #[.slice (some ⟨b, off, none⟩) V.length cap] 45 (0, 0))
  ha : W.heap[ba]? = some (.cells kindsA 124 (0, 0))
  hw : W.heap[bw]? = some (.cells #[.func (.func 83) #[] #[.pointer (some ⟨bv, 0, none⟩), .pointer (some ⟨ba, 0, none⟩), .pointer (some ⟨bw, 0, none⟩), .pointer (some ⟨be, 0, none⟩)]] 126 (0, 0))
  he : W.heap[be]? = some (.cells #[.slice (some ⟨g, 0, none⟩) V.length V.length] 116 (0, 0))
  hg : W.heap[g]? = some (.cells es 3 (0, 0))
  size : es.size = V.length
  bel : Below w0.heap.size w0 W
  lv : w0.heap.size ≤ bv
  la : w0.heap.size ≤ ba
  lw : w0.heap.size ≤ bw
  le : w0.heap.size ≤ be
  lg : w0.heap.size ≤ g
  nv : bv ≠ g
  na : ba ≠ g
  nw : bw ≠ g
  ne : be ≠ g
section
variable {w0 : World} {V : List Cel} {b off cap bv ba bw be g : Nat} {es : Array Value} {W W' : World}
theorem BH.below (h : BH w0 V b off cap bv ba bw be g es W) (hb : Below W.heap.size W W') : BH w0 V b off cap bv ba bw be g es W' :=
  { h with
    hv := (hb.block _ (heap_lt h.hv)).trans h.hv
    ha := (hb.block _ (heap_lt h.ha)).trans h.ha
    hw := (hb.block _ (heap_lt h.hw)).trans h.hw
    he := (hb.block _ (heap_lt h.he)).trans h.he
    hg := (hb.block _ (heap_lt h.hg)).trans h.hg
    bel := h.bel.trans (hb.mono h.bel.size) }
theorem BH.alloc (h : BH w0 V b off cap bv ba bw be g es W) (o : Obj) : BH w0 V b off cap bv ba bw be g es (W.alloc o) := h.below ((Below.refl _ _).alloc (Nat.le_refl _) _)
theorem BH.grown (h : BH w0 V b off cap bv ba bw be g es W) (hb : W.grownBy W' (some g)) {es' : Array Value} (hg : W'.heap[g]? = some (.cells es' 3 (0, 0))) (hs : es'.size = es.size) : BH w0 V b off cap bv ba bw be g es' W' :=
  { h with
    hv := (hb.block _ (heap_lt h.hv) (fun e => h.nv (Option.some.inj e))).trans h.hv
    ha := (hb.block _ (heap_lt h.ha) (fun e => h.na (Option.some.inj e))).trans h.ha
    hw := (hb.block _ (heap_lt h.hw) (fun e => h.nw (Option.some.inj e))).trans h.hw
    he := (hb.block _ (heap_lt h.he) (fun e => h.ne (Option.some.inj e))).trans h.he
    hg := hg
    size := hs.trans h.size
    bel := h.bel.grown hb h.bel.size (fun k hk => by have := Option.some.inj hk; have := h.lg; omega) }
end
theorem grown_below {W W' : World} (hb : Below W.heap.size W W') (row : Option Nat) : W.grownBy W' row := ⟨hb.os, hb.tape, hb.output, hb.size, fun k hk _ => hb.block k hk⟩
theorem grown_trans {W W' W'' : World} {row : Option Nat} (h : W.grownBy W' row) (h' : W'.grownBy W'' row) : W.grownBy W'' row :=
  ⟨h'.os.trans h.os, h'.tape.trans h.tape, h'.output.trans h.output, Nat.le_trans h.size h'.size, fun k hk hne => (h'.block k (Nat.lt_of_lt_of_le hk h.size) hne).trans (h.block k hk hne)⟩
/-- What a call of behind's inner function hands back: the place, and the ends that it wrote. -/
def BEnd (V : List Cel) (k d g : Nat) (es : Array Value) (r : Int) (e : Ending) (W W' : World) : Prop :=
  e = .returned (.int .i64 r) ∧ W.grownBy W' (some g) ∧ ∃ es' : Array Value, W'.heap[g]? = some (.cells es' 3 (0, 0)) ∧ es'.size = es.size ∧
    ∀ n, valN d (V.drop k) = some n → (∀ i, i < k ∨ k + n ≤ i → es'[i]? = es[i]?) ∧ ∀ i, k ≤ i → i < k + n → es'[i]? = some (.int .i64 (endI V i 16))
theorem bend_no {V : List Cel} {k d g : Nat} {es : Array Value} {W W' : World} (hn : valN d (V.drop k) = none) (hg : W.heap[g]? = some (.cells es 3 (0, 0))) (hb : Below W.heap.size W W') : BEnd V k d g es (endI V k d) (.returned (.int .i64 (-1))) W W' := by
  have : endI V k d = -1 := by unfold endI; rw [hn]
  rw [this]
  refine ⟨rfl, grown_below hb _, es, (hb.block _ (heap_lt hg)).trans hg, rfl, ?_⟩
  intro n h
  rw [hn] at h; cases h
set_option maxRecDepth 100000 in
set_option maxHeartbeats 1000000 in
theorem bw_big (w0 : World) (V : List Cel) (b off cap bv ba bw be g : Nat) (es : Array Value) (W : World) (k d : Nat) (hB : BH w0 V b off cap bv ba bw be g es W) (kk : Nat) (nx tx : ByteArray) (nu mn : Int)
    (hk : k < V.length) (hl : V.length ≤ 100000) (hd : d ≤ 16)
    (c0 : W.cell? ⟨b, off + k * 5, none⟩ = some (.int .u8 (kk : Int))) (c1 : W.cell? ⟨b, off + k * 5 + 1, none⟩ = some (.string nx)) (c2 : W.cell? ⟨b, off + k * 5 + 2, none⟩ = some (.string tx)) (c3 : W.cell? ⟨b, off + k * 5 + 3, none⟩ = some (.int .i64 nu)) (c4 : W.cell? ⟨b, off + k * 5 + 4, none⟩ = some (.int .i64 mn))
    (h7 : 7 < kk) (h8 : kk ≤ 255) :
    Calls Tryz.prog 83 #[.int .i64 (k : Int), .int .i64 (d : Int), .pointer (some ⟨bv, 0, none⟩), .pointer (some ⟨ba, 0, none⟩), .pointer (some ⟨bw, 0, none⟩), .pointer (some ⟨be, 0, none⟩)] W fun e w' => e = .returned (.int .i64 (-1)) ∧ Below W.heap.size W w' := by
  have v0 : W.cell? ⟨bv, 0, none⟩ = some (.slice (some ⟨b, off, none⟩) V.length cap) := by rw [Lib.cell_of_heap hB.hv]; rfl
  clear hB
  go_enter Tryz.func83, Tryz.ntmps83
  go_wp2_with fail
  go_ret
  exact ⟨rfl, (Below.refl _ _).alloc (Nat.le_refl _) _⟩
set_option maxRecDepth 100000 in
set_option maxHeartbeats 1000000 in
theorem bw_text (w0 : World) (V : List Cel) (b off cap bv ba bw be g : Nat) (es : Array Value) (W : World) (k d : Nat) (hB : BH w0 V b off cap bv ba bw be g es W) (kk : Nat) (nx tx : ByteArray) (nu mn : Int)
    (hk : k < V.length) (hl : V.length ≤ 100000) (hd : d ≤ 16)
    (c0 : W.cell? ⟨b, off + k * 5, none⟩ = some (.int .u8 (kk : Int))) (c1 : W.cell? ⟨b, off + k * 5 + 1, none⟩ = some (.string nx)) (c2 : W.cell? ⟨b, off + k * 5 + 2, none⟩ = some (.string tx)) (c3 : W.cell? ⟨b, off + k * 5 + 3, none⟩ = some (.int .i64 nu)) (c4 : W.cell? ⟨b, off + k * 5 + 4, none⟩ = some (.int .i64 mn))
    (hk7 : kk ≤ 7) (HT : Hid (∀ w : World, Below W.heap.size W w → Calls Tryz.prog (tfun kk) #[.string tx] w fun e w' => e = .returned (.bool false) ∧ Below w.heap.size w w')) :
    Calls Tryz.prog 83 #[.int .i64 (k : Int), .int .i64 (d : Int), .pointer (some ⟨bv, 0, none⟩), .pointer (some ⟨ba, 0, none⟩), .pointer (some ⟨bw, 0, none⟩), .pointer (some ⟨be, 0, none⟩)] W fun e w' => e = .returned (.int .i64 (-1)) ∧ Below W.heap.size W w' := by
  have v0 : W.cell? ⟨bv, 0, none⟩ = some (.slice (some ⟨b, off, none⟩) V.length cap) := by rw [Lib.cell_of_heap hB.hv]; rfl
  have lba := heap_lt hB.ha
  have lbv := heap_lt hB.hv
  obtain ⟨a0, a1, a2⟩ := kindsA_get kk hk7
  have k0 : W.cell? ⟨ba, kk * 3, none⟩ = some (.func (.func (tfun kk)) #[] #[]) := by rw [Lib.cell_of_heap hB.ha]; exact a0
  have k1 : W.cell? ⟨ba, kk * 3 + 1, none⟩ = some (.func (.func (nfun kk)) #[] #[]) := by rw [Lib.cell_of_heap hB.ha]; exact a1
  have k2 : W.cell? ⟨ba, kk * 3 + 2, none⟩ = some (.bool (cnest kk)) := by rw [Lib.cell_of_heap hB.ha]; exact a2
  have ht := tfun_ent kk
  have hn := nfun_ent kk
  clear a0 a1 a2
  generalize tfun kk = ft at *
  generalize nfun kk = fn at *
  generalize cnest kk = nest at *
  have HB := Lib.hid hB
  clear hB
  go_enter Tryz.func83, Tryz.ntmps83
  go_wp2_with fail
  refine (HT.out _ (((Below.refl _ _).alloc (Nat.le_refl _) _).alloc (by simp) _)).mono ?_; rintro e w1 ⟨rfl, hb⟩
  have hb1 : Below W.heap.size W w1 := (((Below.refl _ _).alloc (Nat.le_refl _) _).alloc (by simp) _).trans (hb.mono (by simp; omega))
  have hc : w1.heap[W.heap.size]? = some (.cells #[.int .u8 (kk : Int), .string nx, .string tx, .int .i64 nu, .int .i64 mn] 59 (0, 0)) := (hb.block _ (by simp; omega)).trans (heap_old (heap_new _ _ _ rfl))
  have hq : w1.heap[W.heap.size + 1]? = some (.cells #[.func (.func ft) #[] #[], .func (.func fn) #[] #[], .bool nest] 123 (0, 0)) := (hb.block _ (by simp)).trans (heap_new _ _ _ (by simp))
  clear hb
  have w1c0 : w1.cell? ⟨W.heap.size, 0, none⟩ = some (.int .u8 (kk : Int)) := by rw [Lib.cell_of_heap hc]; rfl
  have w1c1 : w1.cell? ⟨W.heap.size, 1, none⟩ = some (.string nx) := by rw [Lib.cell_of_heap hc]; rfl
  have w1c2 : w1.cell? ⟨W.heap.size, 2, none⟩ = some (.string tx) := by rw [Lib.cell_of_heap hc]; rfl
  have w1c3 : w1.cell? ⟨W.heap.size, 3, none⟩ = some (.int .i64 nu) := by rw [Lib.cell_of_heap hc]; rfl
  have w1c4 : w1.cell? ⟨W.heap.size, 4, none⟩ = some (.int .i64 mn) := by rw [Lib.cell_of_heap hc]; rfl
  have w1q0 : w1.cell? ⟨W.heap.size + 1, 0, none⟩ = some (.func (.func ft) #[] #[]) := by rw [Lib.cell_of_heap hq]; rfl
  have w1q1 : w1.cell? ⟨W.heap.size + 1, 1, none⟩ = some (.func (.func fn) #[] #[]) := by rw [Lib.cell_of_heap hq]; rfl
  have w1q2 : w1.cell? ⟨W.heap.size + 1, 2, none⟩ = some (.bool nest) := by rw [Lib.cell_of_heap hq]; rfl
  have HC := Lib.hid hc
  have HQ := Lib.hid hq
  have HB1 := Lib.hid hb1
  clear hc hq hb1
  go_wp2_with fail
  go_ret
  exact ⟨rfl, HB1.out⟩
set_option maxRecDepth 100000 in
set_option maxHeartbeats 1000000 in
theorem bw_num (w0 : World) (V : List Cel) (b off cap bv ba bw be g : Nat) (es : Array Value) (W : World) (k d : Nat) (hB : BH w0 V b off cap bv ba bw be g es W) (kk : Nat) (nx tx : ByteArray) (nu mn : Int)
    (hk : k < V.length) (hl : V.length ≤ 100000) (hd : d ≤ 16)
    (c0 : W.cell? ⟨b, off + k * 5, none⟩ = some (.int .u8 (kk : Int))) (c1 : W.cell? ⟨b, off + k * 5 + 1, none⟩ = some (.string nx)) (c2 : W.cell? ⟨b, off + k * 5 + 2, none⟩ = some (.string tx)) (c3 : W.cell? ⟨b, off + k * 5 + 3, none⟩ = some (.int .i64 nu)) (c4 : W.cell? ⟨b, off + k * 5 + 4, none⟩ = some (.int .i64 mn))
    (hk7 : kk ≤ 7) (HT : Hid (∀ w : World, Below W.heap.size W w → Calls Tryz.prog (tfun kk) #[.string tx] w fun e w' => e = .returned (.bool true) ∧ Below w.heap.size w w'))
    (HN : Hid (∀ w : World, Calls Tryz.prog (nfun kk) #[.int .i64 nu] w fun e w' => e = .returned (.bool false) ∧ Below w.heap.size w w')) :
    Calls Tryz.prog 83 #[.int .i64 (k : Int), .int .i64 (d : Int), .pointer (some ⟨bv, 0, none⟩), .pointer (some ⟨ba, 0, none⟩), .pointer (some ⟨bw, 0, none⟩), .pointer (some ⟨be, 0, none⟩)] W fun e w' => e = .returned (.int .i64 (-1)) ∧ Below W.heap.size W w' := by
  have v0 : W.cell? ⟨bv, 0, none⟩ = some (.slice (some ⟨b, off, none⟩) V.length cap) := by rw [Lib.cell_of_heap hB.hv]; rfl
  have lba := heap_lt hB.ha
  have lbv := heap_lt hB.hv
  obtain ⟨a0, a1, a2⟩ := kindsA_get kk hk7
  have k0 : W.cell? ⟨ba, kk * 3, none⟩ = some (.func (.func (tfun kk)) #[] #[]) := by rw [Lib.cell_of_heap hB.ha]; exact a0
  have k1 : W.cell? ⟨ba, kk * 3 + 1, none⟩ = some (.func (.func (nfun kk)) #[] #[]) := by rw [Lib.cell_of_heap hB.ha]; exact a1
  have k2 : W.cell? ⟨ba, kk * 3 + 2, none⟩ = some (.bool (cnest kk)) := by rw [Lib.cell_of_heap hB.ha]; exact a2
  have ht := tfun_ent kk
  have hn := nfun_ent kk
  clear a0 a1 a2
  generalize tfun kk = ft at *
  generalize nfun kk = fn at *
  generalize cnest kk = nest at *
  have HB := Lib.hid hB
  clear hB
  go_enter Tryz.func83, Tryz.ntmps83
  go_wp2_with fail
  refine (HT.out _ (((Below.refl _ _).alloc (Nat.le_refl _) _).alloc (by simp) _)).mono ?_; rintro e w1 ⟨rfl, hb⟩
  have hb1 : Below W.heap.size W w1 := (((Below.refl _ _).alloc (Nat.le_refl _) _).alloc (by simp) _).trans (hb.mono (by simp; omega))
  have hc : w1.heap[W.heap.size]? = some (.cells #[.int .u8 (kk : Int), .string nx, .string tx, .int .i64 nu, .int .i64 mn] 59 (0, 0)) := (hb.block _ (by simp; omega)).trans (heap_old (heap_new _ _ _ rfl))
  have hq : w1.heap[W.heap.size + 1]? = some (.cells #[.func (.func ft) #[] #[], .func (.func fn) #[] #[], .bool nest] 123 (0, 0)) := (hb.block _ (by simp)).trans (heap_new _ _ _ (by simp))
  clear hb
  have w1c0 : w1.cell? ⟨W.heap.size, 0, none⟩ = some (.int .u8 (kk : Int)) := by rw [Lib.cell_of_heap hc]; rfl
  have w1c1 : w1.cell? ⟨W.heap.size, 1, none⟩ = some (.string nx) := by rw [Lib.cell_of_heap hc]; rfl
  have w1c2 : w1.cell? ⟨W.heap.size, 2, none⟩ = some (.string tx) := by rw [Lib.cell_of_heap hc]; rfl
  have w1c3 : w1.cell? ⟨W.heap.size, 3, none⟩ = some (.int .i64 nu) := by rw [Lib.cell_of_heap hc]; rfl
  have w1c4 : w1.cell? ⟨W.heap.size, 4, none⟩ = some (.int .i64 mn) := by rw [Lib.cell_of_heap hc]; rfl
  have w1q0 : w1.cell? ⟨W.heap.size + 1, 0, none⟩ = some (.func (.func ft) #[] #[]) := by rw [Lib.cell_of_heap hq]; rfl
  have w1q1 : w1.cell? ⟨W.heap.size + 1, 1, none⟩ = some (.func (.func fn) #[] #[]) := by rw [Lib.cell_of_heap hq]; rfl
  have w1q2 : w1.cell? ⟨W.heap.size + 1, 2, none⟩ = some (.bool nest) := by rw [Lib.cell_of_heap hq]; rfl
  have HC := Lib.hid hc
  have HQ := Lib.hid hq
  have HB1 := Lib.hid hb1
  clear hc hq hb1
  go_wp2_with fail
  refine (HN.out _).mono ?_; rintro e w2 ⟨rfl, hb⟩
  clear w1c0 w1c1 w1c2 w1c3 w1c4 w1q0 w1q1 w1q2
  have hb2 : Below W.heap.size W w2 := HB1.out.trans (hb.mono HB1.out.size)
  have hc : w2.heap[W.heap.size]? = some (.cells #[.int .u8 (kk : Int), .string nx, .string tx, .int .i64 nu, .int .i64 mn] 59 (0, 0)) := (hb.block _ (heap_lt HC.out)).trans HC.out
  have hq : w2.heap[W.heap.size + 1]? = some (.cells #[.func (.func ft) #[] #[], .func (.func fn) #[] #[], .bool nest] 123 (0, 0)) := (hb.block _ (heap_lt HQ.out)).trans HQ.out
  clear hb
  have w2c0 : w2.cell? ⟨W.heap.size, 0, none⟩ = some (.int .u8 (kk : Int)) := by rw [Lib.cell_of_heap hc]; rfl
  have w2c1 : w2.cell? ⟨W.heap.size, 1, none⟩ = some (.string nx) := by rw [Lib.cell_of_heap hc]; rfl
  have w2c2 : w2.cell? ⟨W.heap.size, 2, none⟩ = some (.string tx) := by rw [Lib.cell_of_heap hc]; rfl
  have w2c3 : w2.cell? ⟨W.heap.size, 3, none⟩ = some (.int .i64 nu) := by rw [Lib.cell_of_heap hc]; rfl
  have w2c4 : w2.cell? ⟨W.heap.size, 4, none⟩ = some (.int .i64 mn) := by rw [Lib.cell_of_heap hc]; rfl
  have w2q0 : w2.cell? ⟨W.heap.size + 1, 0, none⟩ = some (.func (.func ft) #[] #[]) := by rw [Lib.cell_of_heap hq]; rfl
  have w2q1 : w2.cell? ⟨W.heap.size + 1, 1, none⟩ = some (.func (.func fn) #[] #[]) := by rw [Lib.cell_of_heap hq]; rfl
  have w2q2 : w2.cell? ⟨W.heap.size + 1, 2, none⟩ = some (.bool nest) := by rw [Lib.cell_of_heap hq]; rfl
  have HC2 := Lib.hid hc
  have HQ2 := Lib.hid hq
  have HB2 := Lib.hid hb2
  clear hc hq hb2 HC HQ HB1
  go_wp2_with fail
  go_ret
  exact ⟨rfl, HB2.out⟩
set_option maxRecDepth 100000 in
set_option maxHeartbeats 1000000 in
theorem bw_neg (w0 : World) (V : List Cel) (b off cap bv ba bw be g : Nat) (es : Array Value) (W : World) (k d : Nat) (hB : BH w0 V b off cap bv ba bw be g es W) (kk : Nat) (nx tx : ByteArray) (nu mn : Int)
    (hk : k < V.length) (hl : V.length ≤ 100000) (hd : d ≤ 16)
    (c0 : W.cell? ⟨b, off + k * 5, none⟩ = some (.int .u8 (kk : Int))) (c1 : W.cell? ⟨b, off + k * 5 + 1, none⟩ = some (.string nx)) (c2 : W.cell? ⟨b, off + k * 5 + 2, none⟩ = some (.string tx)) (c3 : W.cell? ⟨b, off + k * 5 + 3, none⟩ = some (.int .i64 nu)) (c4 : W.cell? ⟨b, off + k * 5 + 4, none⟩ = some (.int .i64 mn))
    (hk7 : kk ≤ 7) (HT : Hid (∀ w : World, Below W.heap.size W w → Calls Tryz.prog (tfun kk) #[.string tx] w fun e w' => e = .returned (.bool true) ∧ Below w.heap.size w w'))
    (HN : Hid (∀ w : World, Calls Tryz.prog (nfun kk) #[.int .i64 nu] w fun e w' => e = .returned (.bool true) ∧ Below w.heap.size w w'))
    (hm : mn < 0) :
    Calls Tryz.prog 83 #[.int .i64 (k : Int), .int .i64 (d : Int), .pointer (some ⟨bv, 0, none⟩), .pointer (some ⟨ba, 0, none⟩), .pointer (some ⟨bw, 0, none⟩), .pointer (some ⟨be, 0, none⟩)] W fun e w' => e = .returned (.int .i64 (-1)) ∧ Below W.heap.size W w' := by
  have v0 : W.cell? ⟨bv, 0, none⟩ = some (.slice (some ⟨b, off, none⟩) V.length cap) := by rw [Lib.cell_of_heap hB.hv]; rfl
  have lba := heap_lt hB.ha
  have lbv := heap_lt hB.hv
  obtain ⟨a0, a1, a2⟩ := kindsA_get kk hk7
  have k0 : W.cell? ⟨ba, kk * 3, none⟩ = some (.func (.func (tfun kk)) #[] #[]) := by rw [Lib.cell_of_heap hB.ha]; exact a0
  have k1 : W.cell? ⟨ba, kk * 3 + 1, none⟩ = some (.func (.func (nfun kk)) #[] #[]) := by rw [Lib.cell_of_heap hB.ha]; exact a1
  have k2 : W.cell? ⟨ba, kk * 3 + 2, none⟩ = some (.bool (cnest kk)) := by rw [Lib.cell_of_heap hB.ha]; exact a2
  have ht := tfun_ent kk
  have hn := nfun_ent kk
  clear a0 a1 a2
  generalize tfun kk = ft at *
  generalize nfun kk = fn at *
  generalize cnest kk = nest at *
  have HB := Lib.hid hB
  clear hB
  go_enter Tryz.func83, Tryz.ntmps83
  go_wp2_with fail
  refine (HT.out _ (((Below.refl _ _).alloc (Nat.le_refl _) _).alloc (by simp) _)).mono ?_; rintro e w1 ⟨rfl, hb⟩
  have hb1 : Below W.heap.size W w1 := (((Below.refl _ _).alloc (Nat.le_refl _) _).alloc (by simp) _).trans (hb.mono (by simp; omega))
  have hc : w1.heap[W.heap.size]? = some (.cells #[.int .u8 (kk : Int), .string nx, .string tx, .int .i64 nu, .int .i64 mn] 59 (0, 0)) := (hb.block _ (by simp; omega)).trans (heap_old (heap_new _ _ _ rfl))
  have hq : w1.heap[W.heap.size + 1]? = some (.cells #[.func (.func ft) #[] #[], .func (.func fn) #[] #[], .bool nest] 123 (0, 0)) := (hb.block _ (by simp)).trans (heap_new _ _ _ (by simp))
  clear hb
  have w1c0 : w1.cell? ⟨W.heap.size, 0, none⟩ = some (.int .u8 (kk : Int)) := by rw [Lib.cell_of_heap hc]; rfl
  have w1c1 : w1.cell? ⟨W.heap.size, 1, none⟩ = some (.string nx) := by rw [Lib.cell_of_heap hc]; rfl
  have w1c2 : w1.cell? ⟨W.heap.size, 2, none⟩ = some (.string tx) := by rw [Lib.cell_of_heap hc]; rfl
  have w1c3 : w1.cell? ⟨W.heap.size, 3, none⟩ = some (.int .i64 nu) := by rw [Lib.cell_of_heap hc]; rfl
  have w1c4 : w1.cell? ⟨W.heap.size, 4, none⟩ = some (.int .i64 mn) := by rw [Lib.cell_of_heap hc]; rfl
  have w1q0 : w1.cell? ⟨W.heap.size + 1, 0, none⟩ = some (.func (.func ft) #[] #[]) := by rw [Lib.cell_of_heap hq]; rfl
  have w1q1 : w1.cell? ⟨W.heap.size + 1, 1, none⟩ = some (.func (.func fn) #[] #[]) := by rw [Lib.cell_of_heap hq]; rfl
  have w1q2 : w1.cell? ⟨W.heap.size + 1, 2, none⟩ = some (.bool nest) := by rw [Lib.cell_of_heap hq]; rfl
  have HC := Lib.hid hc
  have HQ := Lib.hid hq
  have HB1 := Lib.hid hb1
  clear hc hq hb1
  go_wp2_with fail
  refine (HN.out _).mono ?_; rintro e w2 ⟨rfl, hb⟩
  clear w1c0 w1c1 w1c2 w1c3 w1c4 w1q0 w1q1 w1q2
  have hb2 : Below W.heap.size W w2 := HB1.out.trans (hb.mono HB1.out.size)
  have hc : w2.heap[W.heap.size]? = some (.cells #[.int .u8 (kk : Int), .string nx, .string tx, .int .i64 nu, .int .i64 mn] 59 (0, 0)) := (hb.block _ (heap_lt HC.out)).trans HC.out
  have hq : w2.heap[W.heap.size + 1]? = some (.cells #[.func (.func ft) #[] #[], .func (.func fn) #[] #[], .bool nest] 123 (0, 0)) := (hb.block _ (heap_lt HQ.out)).trans HQ.out
  clear hb
  have w2c0 : w2.cell? ⟨W.heap.size, 0, none⟩ = some (.int .u8 (kk : Int)) := by rw [Lib.cell_of_heap hc]; rfl
  have w2c1 : w2.cell? ⟨W.heap.size, 1, none⟩ = some (.string nx) := by rw [Lib.cell_of_heap hc]; rfl
  have w2c2 : w2.cell? ⟨W.heap.size, 2, none⟩ = some (.string tx) := by rw [Lib.cell_of_heap hc]; rfl
  have w2c3 : w2.cell? ⟨W.heap.size, 3, none⟩ = some (.int .i64 nu) := by rw [Lib.cell_of_heap hc]; rfl
  have w2c4 : w2.cell? ⟨W.heap.size, 4, none⟩ = some (.int .i64 mn) := by rw [Lib.cell_of_heap hc]; rfl
  have w2q0 : w2.cell? ⟨W.heap.size + 1, 0, none⟩ = some (.func (.func ft) #[] #[]) := by rw [Lib.cell_of_heap hq]; rfl
  have w2q1 : w2.cell? ⟨W.heap.size + 1, 1, none⟩ = some (.func (.func fn) #[] #[]) := by rw [Lib.cell_of_heap hq]; rfl
  have w2q2 : w2.cell? ⟨W.heap.size + 1, 2, none⟩ = some (.bool nest) := by rw [Lib.cell_of_heap hq]; rfl
  have HC2 := Lib.hid hc
  have HQ2 := Lib.hid hq
  have HB2 := Lib.hid hb2
  clear hc hq hb2 HC HQ HB1
  go_wp2_with fail
  go_ret
  exact ⟨rfl, HB2.out⟩
set_option maxRecDepth 100000 in
set_option maxHeartbeats 1000000 in
theorem bw_leaf (w0 : World) (V : List Cel) (b off cap bv ba bw be g : Nat) (es : Array Value) (W : World) (k d : Nat) (hB : BH w0 V b off cap bv ba bw be g es W) (kk : Nat) (nx tx : ByteArray) (nu mn : Int)
    (hk : k < V.length) (hl : V.length ≤ 100000) (hd : d ≤ 16)
    (c0 : W.cell? ⟨b, off + k * 5, none⟩ = some (.int .u8 (kk : Int))) (c1 : W.cell? ⟨b, off + k * 5 + 1, none⟩ = some (.string nx)) (c2 : W.cell? ⟨b, off + k * 5 + 2, none⟩ = some (.string tx)) (c3 : W.cell? ⟨b, off + k * 5 + 3, none⟩ = some (.int .i64 nu)) (c4 : W.cell? ⟨b, off + k * 5 + 4, none⟩ = some (.int .i64 mn))
    (hk7 : kk ≤ 7) (HT : Hid (∀ w : World, Below W.heap.size W w → Calls Tryz.prog (tfun kk) #[.string tx] w fun e w' => e = .returned (.bool true) ∧ Below w.heap.size w w'))
    (HN : Hid (∀ w : World, Calls Tryz.prog (nfun kk) #[.int .i64 nu] w fun e w' => e = .returned (.bool true) ∧ Below w.heap.size w w'))
    (hm0 : 0 ≤ mn) (hcn : cnest kk = false) (hm : 0 < mn) :
    Calls Tryz.prog 83 #[.int .i64 (k : Int), .int .i64 (d : Int), .pointer (some ⟨bv, 0, none⟩), .pointer (some ⟨ba, 0, none⟩), .pointer (some ⟨bw, 0, none⟩), .pointer (some ⟨be, 0, none⟩)] W fun e w' => e = .returned (.int .i64 (-1)) ∧ Below W.heap.size W w' := by
  have v0 : W.cell? ⟨bv, 0, none⟩ = some (.slice (some ⟨b, off, none⟩) V.length cap) := by rw [Lib.cell_of_heap hB.hv]; rfl
  have lba := heap_lt hB.ha
  have lbv := heap_lt hB.hv
  obtain ⟨a0, a1, a2⟩ := kindsA_get kk hk7
  have k0 : W.cell? ⟨ba, kk * 3, none⟩ = some (.func (.func (tfun kk)) #[] #[]) := by rw [Lib.cell_of_heap hB.ha]; exact a0
  have k1 : W.cell? ⟨ba, kk * 3 + 1, none⟩ = some (.func (.func (nfun kk)) #[] #[]) := by rw [Lib.cell_of_heap hB.ha]; exact a1
  have k2 : W.cell? ⟨ba, kk * 3 + 2, none⟩ = some (.bool (cnest kk)) := by rw [Lib.cell_of_heap hB.ha]; exact a2
  have ht := tfun_ent kk
  have hn := nfun_ent kk
  clear a0 a1 a2
  generalize tfun kk = ft at *
  generalize nfun kk = fn at *
  rw [hcn] at k2
  clear hcn
  have HB := Lib.hid hB
  clear hB
  go_enter Tryz.func83, Tryz.ntmps83
  go_wp2_with fail
  refine (HT.out _ (((Below.refl _ _).alloc (Nat.le_refl _) _).alloc (by simp) _)).mono ?_; rintro e w1 ⟨rfl, hb⟩
  have hb1 : Below W.heap.size W w1 := (((Below.refl _ _).alloc (Nat.le_refl _) _).alloc (by simp) _).trans (hb.mono (by simp; omega))
  have hc : w1.heap[W.heap.size]? = some (.cells #[.int .u8 (kk : Int), .string nx, .string tx, .int .i64 nu, .int .i64 mn] 59 (0, 0)) := (hb.block _ (by simp; omega)).trans (heap_old (heap_new _ _ _ rfl))
  have hq : w1.heap[W.heap.size + 1]? = some (.cells #[.func (.func ft) #[] #[], .func (.func fn) #[] #[], .bool false] 123 (0, 0)) := (hb.block _ (by simp)).trans (heap_new _ _ _ (by simp))
  clear hb
  have w1c0 : w1.cell? ⟨W.heap.size, 0, none⟩ = some (.int .u8 (kk : Int)) := by rw [Lib.cell_of_heap hc]; rfl
  have w1c1 : w1.cell? ⟨W.heap.size, 1, none⟩ = some (.string nx) := by rw [Lib.cell_of_heap hc]; rfl
  have w1c2 : w1.cell? ⟨W.heap.size, 2, none⟩ = some (.string tx) := by rw [Lib.cell_of_heap hc]; rfl
  have w1c3 : w1.cell? ⟨W.heap.size, 3, none⟩ = some (.int .i64 nu) := by rw [Lib.cell_of_heap hc]; rfl
  have w1c4 : w1.cell? ⟨W.heap.size, 4, none⟩ = some (.int .i64 mn) := by rw [Lib.cell_of_heap hc]; rfl
  have w1q0 : w1.cell? ⟨W.heap.size + 1, 0, none⟩ = some (.func (.func ft) #[] #[]) := by rw [Lib.cell_of_heap hq]; rfl
  have w1q1 : w1.cell? ⟨W.heap.size + 1, 1, none⟩ = some (.func (.func fn) #[] #[]) := by rw [Lib.cell_of_heap hq]; rfl
  have w1q2 : w1.cell? ⟨W.heap.size + 1, 2, none⟩ = some (.bool false) := by rw [Lib.cell_of_heap hq]; rfl
  have HC := Lib.hid hc
  have HQ := Lib.hid hq
  have HB1 := Lib.hid hb1
  clear hc hq hb1
  go_wp2_with fail
  refine (HN.out _).mono ?_; rintro e w2 ⟨rfl, hb⟩
  clear w1c0 w1c1 w1c2 w1c3 w1c4 w1q0 w1q1 w1q2
  have hb2 : Below W.heap.size W w2 := HB1.out.trans (hb.mono HB1.out.size)
  have hc : w2.heap[W.heap.size]? = some (.cells #[.int .u8 (kk : Int), .string nx, .string tx, .int .i64 nu, .int .i64 mn] 59 (0, 0)) := (hb.block _ (heap_lt HC.out)).trans HC.out
  have hq : w2.heap[W.heap.size + 1]? = some (.cells #[.func (.func ft) #[] #[], .func (.func fn) #[] #[], .bool false] 123 (0, 0)) := (hb.block _ (heap_lt HQ.out)).trans HQ.out
  clear hb
  have w2c0 : w2.cell? ⟨W.heap.size, 0, none⟩ = some (.int .u8 (kk : Int)) := by rw [Lib.cell_of_heap hc]; rfl
  have w2c1 : w2.cell? ⟨W.heap.size, 1, none⟩ = some (.string nx) := by rw [Lib.cell_of_heap hc]; rfl
  have w2c2 : w2.cell? ⟨W.heap.size, 2, none⟩ = some (.string tx) := by rw [Lib.cell_of_heap hc]; rfl
  have w2c3 : w2.cell? ⟨W.heap.size, 3, none⟩ = some (.int .i64 nu) := by rw [Lib.cell_of_heap hc]; rfl
  have w2c4 : w2.cell? ⟨W.heap.size, 4, none⟩ = some (.int .i64 mn) := by rw [Lib.cell_of_heap hc]; rfl
  have w2q0 : w2.cell? ⟨W.heap.size + 1, 0, none⟩ = some (.func (.func ft) #[] #[]) := by rw [Lib.cell_of_heap hq]; rfl
  have w2q1 : w2.cell? ⟨W.heap.size + 1, 1, none⟩ = some (.func (.func fn) #[] #[]) := by rw [Lib.cell_of_heap hq]; rfl
  have w2q2 : w2.cell? ⟨W.heap.size + 1, 2, none⟩ = some (.bool false) := by rw [Lib.cell_of_heap hq]; rfl
  have HC2 := Lib.hid hc
  have HQ2 := Lib.hid hq
  have HB2 := Lib.hid hb2
  clear hc hq hb2 HC HQ HB1
  go_wp2_with fail
  go_ret
  exact ⟨rfl, HB2.out⟩
set_option maxRecDepth 100000 in
set_option maxHeartbeats 1000000 in
theorem bw_deep (w0 : World) (V : List Cel) (b off cap bv ba bw be g : Nat) (es : Array Value) (W : World) (k d : Nat) (hB : BH w0 V b off cap bv ba bw be g es W) (kk : Nat) (nx tx : ByteArray) (nu mn : Int)
    (hk : k < V.length) (hl : V.length ≤ 100000) (hd : d ≤ 16)
    (c0 : W.cell? ⟨b, off + k * 5, none⟩ = some (.int .u8 (kk : Int))) (c1 : W.cell? ⟨b, off + k * 5 + 1, none⟩ = some (.string nx)) (c2 : W.cell? ⟨b, off + k * 5 + 2, none⟩ = some (.string tx)) (c3 : W.cell? ⟨b, off + k * 5 + 3, none⟩ = some (.int .i64 nu)) (c4 : W.cell? ⟨b, off + k * 5 + 4, none⟩ = some (.int .i64 mn))
    (hk7 : kk ≤ 7) (HT : Hid (∀ w : World, Below W.heap.size W w → Calls Tryz.prog (tfun kk) #[.string tx] w fun e w' => e = .returned (.bool true) ∧ Below w.heap.size w w'))
    (HN : Hid (∀ w : World, Calls Tryz.prog (nfun kk) #[.int .i64 nu] w fun e w' => e = .returned (.bool true) ∧ Below w.heap.size w w'))
    (hm0 : 0 ≤ mn) (hcn : cnest kk = true) (hd0 : d = 0) :
    Calls Tryz.prog 83 #[.int .i64 (k : Int), .int .i64 (d : Int), .pointer (some ⟨bv, 0, none⟩), .pointer (some ⟨ba, 0, none⟩), .pointer (some ⟨bw, 0, none⟩), .pointer (some ⟨be, 0, none⟩)] W fun e w' => e = .returned (.int .i64 (-1)) ∧ Below W.heap.size W w' := by
  have v0 : W.cell? ⟨bv, 0, none⟩ = some (.slice (some ⟨b, off, none⟩) V.length cap) := by rw [Lib.cell_of_heap hB.hv]; rfl
  have lba := heap_lt hB.ha
  have lbv := heap_lt hB.hv
  obtain ⟨a0, a1, a2⟩ := kindsA_get kk hk7
  have k0 : W.cell? ⟨ba, kk * 3, none⟩ = some (.func (.func (tfun kk)) #[] #[]) := by rw [Lib.cell_of_heap hB.ha]; exact a0
  have k1 : W.cell? ⟨ba, kk * 3 + 1, none⟩ = some (.func (.func (nfun kk)) #[] #[]) := by rw [Lib.cell_of_heap hB.ha]; exact a1
  have k2 : W.cell? ⟨ba, kk * 3 + 2, none⟩ = some (.bool (cnest kk)) := by rw [Lib.cell_of_heap hB.ha]; exact a2
  have ht := tfun_ent kk
  have hn := nfun_ent kk
  clear a0 a1 a2
  generalize tfun kk = ft at *
  generalize nfun kk = fn at *
  rw [hcn] at k2
  clear hcn
  have HB := Lib.hid hB
  clear hB
  go_enter Tryz.func83, Tryz.ntmps83
  go_wp2_with fail
  refine (HT.out _ (((Below.refl _ _).alloc (Nat.le_refl _) _).alloc (by simp) _)).mono ?_; rintro e w1 ⟨rfl, hb⟩
  have hb1 : Below W.heap.size W w1 := (((Below.refl _ _).alloc (Nat.le_refl _) _).alloc (by simp) _).trans (hb.mono (by simp; omega))
  have hc : w1.heap[W.heap.size]? = some (.cells #[.int .u8 (kk : Int), .string nx, .string tx, .int .i64 nu, .int .i64 mn] 59 (0, 0)) := (hb.block _ (by simp; omega)).trans (heap_old (heap_new _ _ _ rfl))
  have hq : w1.heap[W.heap.size + 1]? = some (.cells #[.func (.func ft) #[] #[], .func (.func fn) #[] #[], .bool true] 123 (0, 0)) := (hb.block _ (by simp)).trans (heap_new _ _ _ (by simp))
  clear hb
  have w1c0 : w1.cell? ⟨W.heap.size, 0, none⟩ = some (.int .u8 (kk : Int)) := by rw [Lib.cell_of_heap hc]; rfl
  have w1c1 : w1.cell? ⟨W.heap.size, 1, none⟩ = some (.string nx) := by rw [Lib.cell_of_heap hc]; rfl
  have w1c2 : w1.cell? ⟨W.heap.size, 2, none⟩ = some (.string tx) := by rw [Lib.cell_of_heap hc]; rfl
  have w1c3 : w1.cell? ⟨W.heap.size, 3, none⟩ = some (.int .i64 nu) := by rw [Lib.cell_of_heap hc]; rfl
  have w1c4 : w1.cell? ⟨W.heap.size, 4, none⟩ = some (.int .i64 mn) := by rw [Lib.cell_of_heap hc]; rfl
  have w1q0 : w1.cell? ⟨W.heap.size + 1, 0, none⟩ = some (.func (.func ft) #[] #[]) := by rw [Lib.cell_of_heap hq]; rfl
  have w1q1 : w1.cell? ⟨W.heap.size + 1, 1, none⟩ = some (.func (.func fn) #[] #[]) := by rw [Lib.cell_of_heap hq]; rfl
  have w1q2 : w1.cell? ⟨W.heap.size + 1, 2, none⟩ = some (.bool true) := by rw [Lib.cell_of_heap hq]; rfl
  have HC := Lib.hid hc
  have HQ := Lib.hid hq
  have HB1 := Lib.hid hb1
  clear hc hq hb1
  go_wp2_with fail
  refine (HN.out _).mono ?_; rintro e w2 ⟨rfl, hb⟩
  clear w1c0 w1c1 w1c2 w1c3 w1c4 w1q0 w1q1 w1q2
  have hb2 : Below W.heap.size W w2 := HB1.out.trans (hb.mono HB1.out.size)
  have hc : w2.heap[W.heap.size]? = some (.cells #[.int .u8 (kk : Int), .string nx, .string tx, .int .i64 nu, .int .i64 mn] 59 (0, 0)) := (hb.block _ (heap_lt HC.out)).trans HC.out
  have hq : w2.heap[W.heap.size + 1]? = some (.cells #[.func (.func ft) #[] #[], .func (.func fn) #[] #[], .bool true] 123 (0, 0)) := (hb.block _ (heap_lt HQ.out)).trans HQ.out
  clear hb
  have w2c0 : w2.cell? ⟨W.heap.size, 0, none⟩ = some (.int .u8 (kk : Int)) := by rw [Lib.cell_of_heap hc]; rfl
  have w2c1 : w2.cell? ⟨W.heap.size, 1, none⟩ = some (.string nx) := by rw [Lib.cell_of_heap hc]; rfl
  have w2c2 : w2.cell? ⟨W.heap.size, 2, none⟩ = some (.string tx) := by rw [Lib.cell_of_heap hc]; rfl
  have w2c3 : w2.cell? ⟨W.heap.size, 3, none⟩ = some (.int .i64 nu) := by rw [Lib.cell_of_heap hc]; rfl
  have w2c4 : w2.cell? ⟨W.heap.size, 4, none⟩ = some (.int .i64 mn) := by rw [Lib.cell_of_heap hc]; rfl
  have w2q0 : w2.cell? ⟨W.heap.size + 1, 0, none⟩ = some (.func (.func ft) #[] #[]) := by rw [Lib.cell_of_heap hq]; rfl
  have w2q1 : w2.cell? ⟨W.heap.size + 1, 1, none⟩ = some (.func (.func fn) #[] #[]) := by rw [Lib.cell_of_heap hq]; rfl
  have w2q2 : w2.cell? ⟨W.heap.size + 1, 2, none⟩ = some (.bool true) := by rw [Lib.cell_of_heap hq]; rfl
  have HC2 := Lib.hid hc
  have HQ2 := Lib.hid hq
  have HB2 := Lib.hid hb2
  clear hc hq hb2 HC HQ HB1
  go_wp2_with fail
  go_ret
  exact ⟨rfl, HB2.out⟩
end Go.Proofs.YtbejhdhhkpllfaaGreatDoor
namespace Go.Proofs.YtbejhdhhkpllfaaGreatDoor
open Go.RowKit
theorem heap_set {w : World} {b i : Nat} {cs : Array Value} {t : TypeId} (v : Value) (h : w.heap[b]? = some (.cells cs t (0, 0))) : (w.setCell ⟨b, i, none⟩ v).heap[b]? = some (.cells (cs.setIfInBounds i v) t (0, 0)) := by
  rw [setCell_eq_setRow w b i cs t (0, 0) v h]; exact setRow_heap w b cs _ t (0, 0) h
theorem grown_set {W w : World} {g i : Nat} (h : W.grownBy w (some g)) (v : Value) : W.grownBy (w.setCell ⟨g, i, none⟩ v) (some g) :=
  ⟨h.os, h.tape, h.output, by simpa using h.size, fun k hk hne => by
    rw [Below.heap_setCell _ _ _ _ (fun e => hne (by rw [e]))]
    exact h.block k hk hne⟩
theorem bend_yes {V : List Cel} {k d n g : Nat} {es ez : Array Value} {W wz : World} (hn : valN d (V.drop k) = some n) (hd : d ≤ 16) (hk : k < V.length) (hs : es.size = V.length) (hgz : wz.heap[g]? = some (.cells ez 3 (0, 0))) (hsz : ez.size = es.size) (hw : W.grownBy wz (some g))
    (h1 : ∀ i, i < k + 1 ∨ k + n ≤ i → ez[i]? = es[i]?) (h2 : ∀ i, k + 1 ≤ i → i < k + n → ez[i]? = some (.int .i64 (endI V i 16))) :
    BEnd V k d g es (endI V k d) (.returned (.int .i64 ((k + n : Nat) : Int))) W (wz.setCell ⟨g, k, none⟩ (.int .i64 ((k + n : Nat) : Int))) := by
  have he : endI V k d = ((k + n : Nat) : Int) := by unfold endI; rw [hn]
  have he16 : endI V k 16 = ((k + n : Nat) : Int) := by unfold endI; rw [valN_mono hd _ _ hn]
  rw [he]
  refine ⟨rfl, grown_set hw _, _, heap_set _ hgz, by simp [hsz], ?_⟩
  intro n' hn'
  obtain rfl : n = n' := by rw [hn] at hn'; exact Option.some.inj hn'
  have hpos := (valN_le _ _ _ hn).1
  refine ⟨?_, ?_⟩
  · intro i hi
    rw [Array.getElem?_setIfInBounds]
    rw [if_neg (by omega)]
    exact h1 i (by omega)
  · intro i hi1 hi2
    rw [Array.getElem?_setIfInBounds]
    by_cases hik : k = i
    · subst hik
      rw [if_pos rfl, if_pos (by omega), he16]
    · rw [if_neg hik]
      exact h2 i (by omega) hi2
set_option maxRecDepth 100000 in
set_option maxHeartbeats 1000000 in
theorem bw_zero_leaf (w0 : World) (V : List Cel) (b off cap bv ba bw be g : Nat) (es : Array Value) (W : World) (k d : Nat) (hB : BH w0 V b off cap bv ba bw be g es W) (kk : Nat) (nx tx : ByteArray) (nu : Int)
    (hk : k < V.length) (hl : V.length ≤ 100000) (hd : d ≤ 16)
    (c0 : W.cell? ⟨b, off + k * 5, none⟩ = some (.int .u8 (kk : Int))) (c1 : W.cell? ⟨b, off + k * 5 + 1, none⟩ = some (.string nx)) (c2 : W.cell? ⟨b, off + k * 5 + 2, none⟩ = some (.string tx)) (c3 : W.cell? ⟨b, off + k * 5 + 3, none⟩ = some (.int .i64 nu)) (c4 : W.cell? ⟨b, off + k * 5 + 4, none⟩ = some (.int .i64 0))
    (hk7 : kk ≤ 7) (HT : Hid (∀ w : World, Below W.heap.size W w → Calls Tryz.prog (tfun kk) #[.string tx] w fun e w' => e = .returned (.bool true) ∧ Below w.heap.size w w'))
    (HN : Hid (∀ w : World, Calls Tryz.prog (nfun kk) #[.int .i64 nu] w fun e w' => e = .returned (.bool true) ∧ Below w.heap.size w w'))
    (hcn : cnest kk = false) (hval : valN d (V.drop k) = some 1) :
    Calls Tryz.prog 83 #[.int .i64 (k : Int), .int .i64 (d : Int), .pointer (some ⟨bv, 0, none⟩), .pointer (some ⟨ba, 0, none⟩), .pointer (some ⟨bw, 0, none⟩), .pointer (some ⟨be, 0, none⟩)] W fun e w' => BEnd V k d g es (endI V k d) e W w' := by
  have v0 : W.cell? ⟨bv, 0, none⟩ = some (.slice (some ⟨b, off, none⟩) V.length cap) := by rw [Lib.cell_of_heap hB.hv]; rfl
  have HV := Lib.hid hval
  clear hval
  have lba := heap_lt hB.ha
  have lbv := heap_lt hB.hv
  obtain ⟨a0, a1, a2⟩ := kindsA_get kk hk7
  have k0 : W.cell? ⟨ba, kk * 3, none⟩ = some (.func (.func (tfun kk)) #[] #[]) := by rw [Lib.cell_of_heap hB.ha]; exact a0
  have k1 : W.cell? ⟨ba, kk * 3 + 1, none⟩ = some (.func (.func (nfun kk)) #[] #[]) := by rw [Lib.cell_of_heap hB.ha]; exact a1
  have k2 : W.cell? ⟨ba, kk * 3 + 2, none⟩ = some (.bool (cnest kk)) := by rw [Lib.cell_of_heap hB.ha]; exact a2
  have ht := tfun_ent kk
  have hn := nfun_ent kk
  clear a0 a1 a2
  generalize tfun kk = ft at *
  generalize nfun kk = fn at *
  rw [hcn] at k2
  clear hcn
  have HB := Lib.hid hB
  clear hB
  have HES : Hid (es.size = V.length) := Lib.hid HB.out.size
  go_enter Tryz.func83, Tryz.ntmps83
  go_wp2_with fail
  refine (HT.out _ (((Below.refl _ _).alloc (Nat.le_refl _) _).alloc (by simp) _)).mono ?_; rintro e w1 ⟨rfl, hb⟩
  have hb1 : Below W.heap.size W w1 := (((Below.refl _ _).alloc (Nat.le_refl _) _).alloc (by simp) _).trans (hb.mono (by simp; omega))
  have hc : w1.heap[W.heap.size]? = some (.cells #[.int .u8 (kk : Int), .string nx, .string tx, .int .i64 nu, .int .i64 0] 59 (0, 0)) := (hb.block _ (by simp; omega)).trans (heap_old (heap_new _ _ _ rfl))
  have hq : w1.heap[W.heap.size + 1]? = some (.cells #[.func (.func ft) #[] #[], .func (.func fn) #[] #[], .bool false] 123 (0, 0)) := (hb.block _ (by simp)).trans (heap_new _ _ _ (by simp))
  clear hb
  have w1c0 : w1.cell? ⟨W.heap.size, 0, none⟩ = some (.int .u8 (kk : Int)) := by rw [Lib.cell_of_heap hc]; rfl
  have w1c1 : w1.cell? ⟨W.heap.size, 1, none⟩ = some (.string nx) := by rw [Lib.cell_of_heap hc]; rfl
  have w1c2 : w1.cell? ⟨W.heap.size, 2, none⟩ = some (.string tx) := by rw [Lib.cell_of_heap hc]; rfl
  have w1c3 : w1.cell? ⟨W.heap.size, 3, none⟩ = some (.int .i64 nu) := by rw [Lib.cell_of_heap hc]; rfl
  have w1c4 : w1.cell? ⟨W.heap.size, 4, none⟩ = some (.int .i64 0) := by rw [Lib.cell_of_heap hc]; rfl
  have w1q0 : w1.cell? ⟨W.heap.size + 1, 0, none⟩ = some (.func (.func ft) #[] #[]) := by rw [Lib.cell_of_heap hq]; rfl
  have w1q1 : w1.cell? ⟨W.heap.size + 1, 1, none⟩ = some (.func (.func fn) #[] #[]) := by rw [Lib.cell_of_heap hq]; rfl
  have w1q2 : w1.cell? ⟨W.heap.size + 1, 2, none⟩ = some (.bool false) := by rw [Lib.cell_of_heap hq]; rfl
  have HC := Lib.hid hc
  have HQ := Lib.hid hq
  have HB1 := Lib.hid hb1
  clear hc hq hb1
  go_wp2_with fail
  refine (HN.out _).mono ?_; rintro e w2 ⟨rfl, hb⟩
  clear w1c0 w1c1 w1c2 w1c3 w1c4 w1q0 w1q1 w1q2
  have hb2 : Below W.heap.size W w2 := HB1.out.trans (hb.mono HB1.out.size)
  have hc : w2.heap[W.heap.size]? = some (.cells #[.int .u8 (kk : Int), .string nx, .string tx, .int .i64 nu, .int .i64 0] 59 (0, 0)) := (hb.block _ (heap_lt HC.out)).trans HC.out
  have hq : w2.heap[W.heap.size + 1]? = some (.cells #[.func (.func ft) #[] #[], .func (.func fn) #[] #[], .bool false] 123 (0, 0)) := (hb.block _ (heap_lt HQ.out)).trans HQ.out
  clear hb
  have w2c0 : w2.cell? ⟨W.heap.size, 0, none⟩ = some (.int .u8 (kk : Int)) := by rw [Lib.cell_of_heap hc]; rfl
  have w2c1 : w2.cell? ⟨W.heap.size, 1, none⟩ = some (.string nx) := by rw [Lib.cell_of_heap hc]; rfl
  have w2c2 : w2.cell? ⟨W.heap.size, 2, none⟩ = some (.string tx) := by rw [Lib.cell_of_heap hc]; rfl
  have w2c3 : w2.cell? ⟨W.heap.size, 3, none⟩ = some (.int .i64 nu) := by rw [Lib.cell_of_heap hc]; rfl
  have w2c4 : w2.cell? ⟨W.heap.size, 4, none⟩ = some (.int .i64 0) := by rw [Lib.cell_of_heap hc]; rfl
  have w2q0 : w2.cell? ⟨W.heap.size + 1, 0, none⟩ = some (.func (.func ft) #[] #[]) := by rw [Lib.cell_of_heap hq]; rfl
  have w2q1 : w2.cell? ⟨W.heap.size + 1, 1, none⟩ = some (.func (.func fn) #[] #[]) := by rw [Lib.cell_of_heap hq]; rfl
  have w2q2 : w2.cell? ⟨W.heap.size + 1, 2, none⟩ = some (.bool false) := by rw [Lib.cell_of_heap hq]; rfl
  have HC2 := Lib.hid hc
  have HQ2 := Lib.hid hq
  have HB2 := Lib.hid hb2
  clear hc hq hb2 HC HQ HB1
  have hbh := HB.out.below HB2.out
  have e0 : w2.cell? ⟨be, 0, none⟩ = some (.slice (some ⟨g, 0, none⟩) V.length V.length) := by rw [Lib.cell_of_heap hbh.he]; rfl
  have hks : k < es.size := by rw [hbh.size]; exact hk
  have e1 : w2.cell? ⟨g, k, none⟩ = some (es[k]) := by rw [Lib.cell_of_heap hbh.hg]; exact Array.getElem?_eq_getElem hks
  have e2 : w2.frozen? ⟨g, k, none⟩ = false := Lib.frozen_of_heap hbh.hg k
  generalize es[k] = ek at *
  have HBH := Lib.hid hbh
  clear hbh
  go_wp2_with fail
  refine wp_loop_rounds 1 ?_; rw [rounds_succ]
  go_wp2_with fail
  go_ret
  exact bend_yes (n := 1) HV.out hd hk HES.out HBH.out.hg rfl (grown_below HB2.out _) (fun i _ => rfl) (fun i h1 h2 => by omega)
set_option maxRecDepth 100000 in
set_option maxHeartbeats 1000000 in
theorem bw_zero_nest (w0 : World) (V : List Cel) (b off cap bv ba bw be g : Nat) (es : Array Value) (W : World) (k d : Nat) (hB : BH w0 V b off cap bv ba bw be g es W) (kk : Nat) (nx tx : ByteArray) (nu : Int)
    (hk : k < V.length) (hl : V.length ≤ 100000) (hd : d ≤ 16)
    (c0 : W.cell? ⟨b, off + k * 5, none⟩ = some (.int .u8 (kk : Int))) (c1 : W.cell? ⟨b, off + k * 5 + 1, none⟩ = some (.string nx)) (c2 : W.cell? ⟨b, off + k * 5 + 2, none⟩ = some (.string tx)) (c3 : W.cell? ⟨b, off + k * 5 + 3, none⟩ = some (.int .i64 nu)) (c4 : W.cell? ⟨b, off + k * 5 + 4, none⟩ = some (.int .i64 0))
    (hk7 : kk ≤ 7) (HT : Hid (∀ w : World, Below W.heap.size W w → Calls Tryz.prog (tfun kk) #[.string tx] w fun e w' => e = .returned (.bool true) ∧ Below w.heap.size w w'))
    (HN : Hid (∀ w : World, Calls Tryz.prog (nfun kk) #[.int .i64 nu] w fun e w' => e = .returned (.bool true) ∧ Below w.heap.size w w'))
    (hcn : cnest kk = true) (hd1 : 0 < d) (hval : valN d (V.drop k) = some 1) :
    Calls Tryz.prog 83 #[.int .i64 (k : Int), .int .i64 (d : Int), .pointer (some ⟨bv, 0, none⟩), .pointer (some ⟨ba, 0, none⟩), .pointer (some ⟨bw, 0, none⟩), .pointer (some ⟨be, 0, none⟩)] W fun e w' => BEnd V k d g es (endI V k d) e W w' := by
  have v0 : W.cell? ⟨bv, 0, none⟩ = some (.slice (some ⟨b, off, none⟩) V.length cap) := by rw [Lib.cell_of_heap hB.hv]; rfl
  have HV := Lib.hid hval
  clear hval
  have lba := heap_lt hB.ha
  have lbv := heap_lt hB.hv
  obtain ⟨a0, a1, a2⟩ := kindsA_get kk hk7
  have k0 : W.cell? ⟨ba, kk * 3, none⟩ = some (.func (.func (tfun kk)) #[] #[]) := by rw [Lib.cell_of_heap hB.ha]; exact a0
  have k1 : W.cell? ⟨ba, kk * 3 + 1, none⟩ = some (.func (.func (nfun kk)) #[] #[]) := by rw [Lib.cell_of_heap hB.ha]; exact a1
  have k2 : W.cell? ⟨ba, kk * 3 + 2, none⟩ = some (.bool (cnest kk)) := by rw [Lib.cell_of_heap hB.ha]; exact a2
  have ht := tfun_ent kk
  have hn := nfun_ent kk
  clear a0 a1 a2
  generalize tfun kk = ft at *
  generalize nfun kk = fn at *
  rw [hcn] at k2
  clear hcn
  have HB := Lib.hid hB
  clear hB
  have HES : Hid (es.size = V.length) := Lib.hid HB.out.size
  go_enter Tryz.func83, Tryz.ntmps83
  go_wp2_with fail
  refine (HT.out _ (((Below.refl _ _).alloc (Nat.le_refl _) _).alloc (by simp) _)).mono ?_; rintro e w1 ⟨rfl, hb⟩
  have hb1 : Below W.heap.size W w1 := (((Below.refl _ _).alloc (Nat.le_refl _) _).alloc (by simp) _).trans (hb.mono (by simp; omega))
  have hc : w1.heap[W.heap.size]? = some (.cells #[.int .u8 (kk : Int), .string nx, .string tx, .int .i64 nu, .int .i64 0] 59 (0, 0)) := (hb.block _ (by simp; omega)).trans (heap_old (heap_new _ _ _ rfl))
  have hq : w1.heap[W.heap.size + 1]? = some (.cells #[.func (.func ft) #[] #[], .func (.func fn) #[] #[], .bool true] 123 (0, 0)) := (hb.block _ (by simp)).trans (heap_new _ _ _ (by simp))
  clear hb
  have w1c0 : w1.cell? ⟨W.heap.size, 0, none⟩ = some (.int .u8 (kk : Int)) := by rw [Lib.cell_of_heap hc]; rfl
  have w1c1 : w1.cell? ⟨W.heap.size, 1, none⟩ = some (.string nx) := by rw [Lib.cell_of_heap hc]; rfl
  have w1c2 : w1.cell? ⟨W.heap.size, 2, none⟩ = some (.string tx) := by rw [Lib.cell_of_heap hc]; rfl
  have w1c3 : w1.cell? ⟨W.heap.size, 3, none⟩ = some (.int .i64 nu) := by rw [Lib.cell_of_heap hc]; rfl
  have w1c4 : w1.cell? ⟨W.heap.size, 4, none⟩ = some (.int .i64 0) := by rw [Lib.cell_of_heap hc]; rfl
  have w1q0 : w1.cell? ⟨W.heap.size + 1, 0, none⟩ = some (.func (.func ft) #[] #[]) := by rw [Lib.cell_of_heap hq]; rfl
  have w1q1 : w1.cell? ⟨W.heap.size + 1, 1, none⟩ = some (.func (.func fn) #[] #[]) := by rw [Lib.cell_of_heap hq]; rfl
  have w1q2 : w1.cell? ⟨W.heap.size + 1, 2, none⟩ = some (.bool true) := by rw [Lib.cell_of_heap hq]; rfl
  have HC := Lib.hid hc
  have HQ := Lib.hid hq
  have HB1 := Lib.hid hb1
  clear hc hq hb1
  go_wp2_with fail
  refine (HN.out _).mono ?_; rintro e w2 ⟨rfl, hb⟩
  clear w1c0 w1c1 w1c2 w1c3 w1c4 w1q0 w1q1 w1q2
  have hb2 : Below W.heap.size W w2 := HB1.out.trans (hb.mono HB1.out.size)
  have hc : w2.heap[W.heap.size]? = some (.cells #[.int .u8 (kk : Int), .string nx, .string tx, .int .i64 nu, .int .i64 0] 59 (0, 0)) := (hb.block _ (heap_lt HC.out)).trans HC.out
  have hq : w2.heap[W.heap.size + 1]? = some (.cells #[.func (.func ft) #[] #[], .func (.func fn) #[] #[], .bool true] 123 (0, 0)) := (hb.block _ (heap_lt HQ.out)).trans HQ.out
  clear hb
  have w2c0 : w2.cell? ⟨W.heap.size, 0, none⟩ = some (.int .u8 (kk : Int)) := by rw [Lib.cell_of_heap hc]; rfl
  have w2c1 : w2.cell? ⟨W.heap.size, 1, none⟩ = some (.string nx) := by rw [Lib.cell_of_heap hc]; rfl
  have w2c2 : w2.cell? ⟨W.heap.size, 2, none⟩ = some (.string tx) := by rw [Lib.cell_of_heap hc]; rfl
  have w2c3 : w2.cell? ⟨W.heap.size, 3, none⟩ = some (.int .i64 nu) := by rw [Lib.cell_of_heap hc]; rfl
  have w2c4 : w2.cell? ⟨W.heap.size, 4, none⟩ = some (.int .i64 0) := by rw [Lib.cell_of_heap hc]; rfl
  have w2q0 : w2.cell? ⟨W.heap.size + 1, 0, none⟩ = some (.func (.func ft) #[] #[]) := by rw [Lib.cell_of_heap hq]; rfl
  have w2q1 : w2.cell? ⟨W.heap.size + 1, 1, none⟩ = some (.func (.func fn) #[] #[]) := by rw [Lib.cell_of_heap hq]; rfl
  have w2q2 : w2.cell? ⟨W.heap.size + 1, 2, none⟩ = some (.bool true) := by rw [Lib.cell_of_heap hq]; rfl
  have HC2 := Lib.hid hc
  have HQ2 := Lib.hid hq
  have HB2 := Lib.hid hb2
  clear hc hq hb2 HC HQ HB1
  have hbh := HB.out.below HB2.out
  have e0 : w2.cell? ⟨be, 0, none⟩ = some (.slice (some ⟨g, 0, none⟩) V.length V.length) := by rw [Lib.cell_of_heap hbh.he]; rfl
  have hks : k < es.size := by rw [hbh.size]; exact hk
  have e1 : w2.cell? ⟨g, k, none⟩ = some (es[k]) := by rw [Lib.cell_of_heap hbh.hg]; exact Array.getElem?_eq_getElem hks
  have e2 : w2.frozen? ⟨g, k, none⟩ = false := Lib.frozen_of_heap hbh.hg k
  generalize es[k] = ek at *
  have HBH := Lib.hid hbh
  clear hbh
  go_wp2_with fail
  refine wp_loop_rounds 1 ?_; rw [rounds_succ]
  go_wp2_with fail
  go_ret
  exact bend_yes (n := 1) HV.out hd hk HES.out HBH.out.hg rfl (grown_below HB2.out _) (fun i _ => rfl) (fun i h1 h2 => by omega)
end Go.Proofs.YtbejhdhhkpllfaaGreatDoor
namespace Go.Proofs.YtbejhdhhkpllfaaGreatDoor
open Go.RowKit
theorem bend_none {w0 : World} {V : List Cel} {b off cap bv ba bw be g k d : Nat} {es ez : Array Value} {W wz : World} (hn : valN d (V.drop k) = none) (hB : BH w0 V b off cap bv ba bw be g ez wz) (hs : es.size = V.length) (hw : W.grownBy wz (some g)) :
    BEnd V k d g es (endI V k d) (.returned (.int .i64 (-1))) W wz := by
  have he : endI V k d = -1 := by unfold endI; rw [hn]
  rw [he]
  refine ⟨rfl, hw, ez, hB.hg, by rw [hB.size, hs], ?_⟩
  intro n h
  rw [hn] at h; cases h
theorem BH.other {w0 : World} {V : List Cel} {b off cap bv ba bw be g r : Nat} {es : Array Value} {W W' : World} (h : BH w0 V b off cap bv ba bw be g es W) (hb : W.grownBy W' (some r)) (hr : w0.heap.size ≤ r) (hM : bv < r ∧ ba < r ∧ bw < r ∧ be < r ∧ g < r) : BH w0 V b off cap bv ba bw be g es W' :=
  { h with
    hv := (hb.block _ (heap_lt h.hv) (fun e => by have := Option.some.inj e; omega)).trans h.hv
    ha := (hb.block _ (heap_lt h.ha) (fun e => by have := Option.some.inj e; omega)).trans h.ha
    hw := (hb.block _ (heap_lt h.hw) (fun e => by have := Option.some.inj e; omega)).trans h.hw
    he := (hb.block _ (heap_lt h.he) (fun e => by have := Option.some.inj e; omega)).trans h.he
    hg := (hb.block _ (heap_lt h.hg) (fun e => by have := Option.some.inj e; omega)).trans h.hg
    bel := h.bel.grown hb h.bel.size (fun k hk => by have := Option.some.inj hk; omega) }
theorem grown_new {W w w' : World} {g r : Nat} (h : W.grownBy w (some g)) (hb : w.grownBy w' (some r)) (hr : W.heap.size ≤ r) : W.grownBy w' (some g) :=
  ⟨hb.os.trans h.os, hb.tape.trans h.tape, hb.output.trans h.output, Nat.le_trans h.size hb.size, fun i hi hne => (hb.block i (Nat.lt_of_lt_of_le hi h.size) (fun e => by have := Option.some.inj e; omega)).trans (h.block i hi hne)⟩
theorem fill_next {V : List Cel} {k u p n : Nat} {es esr es5 : Array Value} (hp : p = k + 1 + u) (h : (∀ i, i < k + 1 ∨ k + 1 + u ≤ i → esr[i]? = es[i]?) ∧ ∀ i, k + 1 ≤ i → i < k + 1 + u → esr[i]? = some (.int .i64 (endI V i 16)))
    (h5 : (∀ i, i < p ∨ p + n ≤ i → es5[i]? = esr[i]?) ∧ ∀ i, p ≤ i → i < p + n → es5[i]? = some (.int .i64 (endI V i 16))) :
    (∀ i, i < k + 1 ∨ k + 1 + (u + n) ≤ i → es5[i]? = es[i]?) ∧ ∀ i, k + 1 ≤ i → i < k + 1 + (u + n) → es5[i]? = some (.int .i64 (endI V i 16)) := by
  subst hp
  refine ⟨fun i hi => ?_, fun i h1 h2 => ?_⟩
  · rw [h5.1 i (by omega)]
    exact h.1 i (by omega)
  · by_cases hi : i < k + 1 + u
    · rw [h5.1 i (by omega)]; exact h.2 i h1 hi
    · exact h5.2 i (by omega) (by omega)
theorem amongB_app (nm : List (List UInt8)) (x : List UInt8) : amongB (nm ++ [[]]) x = (amongB nm x || x.isEmpty) := by
  unfold amongB
  rw [List.any_append]
  cases x <;> simp
set_option maxRecDepth 100000 in
set_option maxHeartbeats 1000000 in
theorem bw_list (w0 : World) (V : List Cel) (b off cap bv ba bw be g : Nat) (es : Array Value) (W : World) (k d : Nat) (hB : BH w0 V b off cap bv ba bw be g es W) (kk : Nat) (nx tx : ByteArray) (nu : Int) (m : Nat)
    (hk : k < V.length) (hl : V.length ≤ 100000) (hd : d ≤ 16)
    (c0 : W.cell? ⟨b, off + k * 5, none⟩ = some (.int .u8 (kk : Int))) (c1 : W.cell? ⟨b, off + k * 5 + 1, none⟩ = some (.string nx)) (c2 : W.cell? ⟨b, off + k * 5 + 2, none⟩ = some (.string tx)) (c3 : W.cell? ⟨b, off + k * 5 + 3, none⟩ = some (.int .i64 nu)) (c4 : W.cell? ⟨b, off + k * 5 + 4, none⟩ = some (.int .i64 (m : Int)))
    (hk7 : kk ≤ 7) (HT : Hid (∀ w : World, Below W.heap.size W w → Calls Tryz.prog (tfun kk) #[.string tx] w fun e w' => e = .returned (.bool true) ∧ Below w.heap.size w w'))
    (HN : Hid (∀ w : World, Calls Tryz.prog (nfun kk) #[.int .i64 nu] w fun e w' => e = .returned (.bool true) ∧ Below w.heap.size w w'))
    (hkk : kk = 6) (hcn : cnest kk = true) (hd1 : 0 < d) (hm0 : 0 < m) (hmx : (m : Int) ≤ 9223372036854775807)
    (HROW : Hid (CelRow b off V w0)) (hbl : b < w0.heap.size) (HSM : Hid (∀ c ∈ V, c.name.length ≤ 100000)) (o : Option Nat) (hkids : kidsN (valN (d - 1)) true m [] (V.drop (k + 1)) = o) (hval : valN d (V.drop k) = o.map (1 + ·))
    (HTX : Hid (∀ (W' : World) (x : ByteArray), x.size ≤ 100000 → Below w0.heap.size w0 W' → Calls Tryz.prog 84 #[.string x] W' fun e w' => e = .returned (.int .i64 (chkE x.data.toList)) ∧ Below W'.heap.size W' w'))
    (HIH : Hid (∀ (W' : World) (es' : Array Value) (p : Nat), p < V.length → BH w0 V b off cap bv ba bw be g es' W' → Calls Tryz.prog 83 #[.int .i64 (p : Int), .int .i64 ((d : Int) - 1), .pointer (some ⟨bv, 0, none⟩), .pointer (some ⟨ba, 0, none⟩), .pointer (some ⟨bw, 0, none⟩), .pointer (some ⟨be, 0, none⟩)] W' fun e w' => BEnd V p (d - 1) g es' (endI V p (d - 1)) e W' w')) :
    Calls Tryz.prog 83 #[.int .i64 (k : Int), .int .i64 (d : Int), .pointer (some ⟨bv, 0, none⟩), .pointer (some ⟨ba, 0, none⟩), .pointer (some ⟨bw, 0, none⟩), .pointer (some ⟨be, 0, none⟩)] W fun e w' => BEnd V k d g es (endI V k d) e W w' := by
  have v0 : W.cell? ⟨bv, 0, none⟩ = some (.slice (some ⟨b, off, none⟩) V.length cap) := by rw [Lib.cell_of_heap hB.hv]; rfl
  have HV := Lib.hid hval
  have HK0 := Lib.hid (KS.start hkids)
  have HKK := Lib.hid hkk
  have hd2 : ((d : Int) == 0) = false := by rw [beq_eq_false_iff_ne]; omega
  have t6 : ((kk : Int) == 6) = true := by rw [HKK.out]; rfl
  have t7 : ((kk : Int) == 7) = false := by rw [HKK.out]; rfl
  clear hval hkids hkk
  have lba := heap_lt hB.ha
  have lbv := heap_lt hB.hv
  obtain ⟨a0, a1, a2⟩ := kindsA_get kk hk7
  have k0 : W.cell? ⟨ba, kk * 3, none⟩ = some (.func (.func (tfun kk)) #[] #[]) := by rw [Lib.cell_of_heap hB.ha]; exact a0
  have k1 : W.cell? ⟨ba, kk * 3 + 1, none⟩ = some (.func (.func (nfun kk)) #[] #[]) := by rw [Lib.cell_of_heap hB.ha]; exact a1
  have k2 : W.cell? ⟨ba, kk * 3 + 2, none⟩ = some (.bool (cnest kk)) := by rw [Lib.cell_of_heap hB.ha]; exact a2
  have ht := tfun_ent kk
  have hn := nfun_ent kk
  clear a0 a1 a2
  generalize tfun kk = ft at *
  generalize nfun kk = fn at *
  rw [hcn] at k2
  clear hcn
  have HB := Lib.hid hB
  clear hB
  have HES : Hid (es.size = V.length) := Lib.hid HB.out.size
  have hmm := @run_makeMap Tryz.prog
  go_enter Tryz.func83, Tryz.ntmps83
  go_wp2_with fail
  refine (HT.out _ (((Below.refl _ _).alloc (Nat.le_refl _) _).alloc (by simp) _)).mono ?_; rintro e w1 ⟨rfl, hb⟩
  have hb1 : Below W.heap.size W w1 := (((Below.refl _ _).alloc (Nat.le_refl _) _).alloc (by simp) _).trans (hb.mono (by simp; omega))
  have hc : w1.heap[W.heap.size]? = some (.cells #[.int .u8 (kk : Int), .string nx, .string tx, .int .i64 nu, .int .i64 (m : Int)] 59 (0, 0)) := (hb.block _ (by simp; omega)).trans (heap_old (heap_new _ _ _ rfl))
  have hq : w1.heap[W.heap.size + 1]? = some (.cells #[.func (.func ft) #[] #[], .func (.func fn) #[] #[], .bool true] 123 (0, 0)) := (hb.block _ (by simp)).trans (heap_new _ _ _ (by simp))
  clear hb
  have w1c0 : w1.cell? ⟨W.heap.size, 0, none⟩ = some (.int .u8 (kk : Int)) := by rw [Lib.cell_of_heap hc]; rfl
  have w1c1 : w1.cell? ⟨W.heap.size, 1, none⟩ = some (.string nx) := by rw [Lib.cell_of_heap hc]; rfl
  have w1c2 : w1.cell? ⟨W.heap.size, 2, none⟩ = some (.string tx) := by rw [Lib.cell_of_heap hc]; rfl
  have w1c3 : w1.cell? ⟨W.heap.size, 3, none⟩ = some (.int .i64 nu) := by rw [Lib.cell_of_heap hc]; rfl
  have w1c4 : w1.cell? ⟨W.heap.size, 4, none⟩ = some (.int .i64 (m : Int)) := by rw [Lib.cell_of_heap hc]; rfl
  have w1q0 : w1.cell? ⟨W.heap.size + 1, 0, none⟩ = some (.func (.func ft) #[] #[]) := by rw [Lib.cell_of_heap hq]; rfl
  have w1q1 : w1.cell? ⟨W.heap.size + 1, 1, none⟩ = some (.func (.func fn) #[] #[]) := by rw [Lib.cell_of_heap hq]; rfl
  have w1q2 : w1.cell? ⟨W.heap.size + 1, 2, none⟩ = some (.bool true) := by rw [Lib.cell_of_heap hq]; rfl
  have HC := Lib.hid hc
  have HQ := Lib.hid hq
  have HB1 := Lib.hid hb1
  clear hc hq hb1
  go_wp2_with fail
  refine (HN.out _).mono ?_; rintro e w2 ⟨rfl, hb⟩
  clear w1c0 w1c1 w1c2 w1c3 w1c4 w1q0 w1q1 w1q2
  have hb2 : Below W.heap.size W w2 := HB1.out.trans (hb.mono HB1.out.size)
  have hc : w2.heap[W.heap.size]? = some (.cells #[.int .u8 (kk : Int), .string nx, .string tx, .int .i64 nu, .int .i64 (m : Int)] 59 (0, 0)) := (hb.block _ (heap_lt HC.out)).trans HC.out
  have hq : w2.heap[W.heap.size + 1]? = some (.cells #[.func (.func ft) #[] #[], .func (.func fn) #[] #[], .bool true] 123 (0, 0)) := (hb.block _ (heap_lt HQ.out)).trans HQ.out
  clear hb
  have w2c0 : w2.cell? ⟨W.heap.size, 0, none⟩ = some (.int .u8 (kk : Int)) := by rw [Lib.cell_of_heap hc]; rfl
  have w2c1 : w2.cell? ⟨W.heap.size, 1, none⟩ = some (.string nx) := by rw [Lib.cell_of_heap hc]; rfl
  have w2c2 : w2.cell? ⟨W.heap.size, 2, none⟩ = some (.string tx) := by rw [Lib.cell_of_heap hc]; rfl
  have w2c3 : w2.cell? ⟨W.heap.size, 3, none⟩ = some (.int .i64 nu) := by rw [Lib.cell_of_heap hc]; rfl
  have w2c4 : w2.cell? ⟨W.heap.size, 4, none⟩ = some (.int .i64 (m : Int)) := by rw [Lib.cell_of_heap hc]; rfl
  have w2q0 : w2.cell? ⟨W.heap.size + 1, 0, none⟩ = some (.func (.func ft) #[] #[]) := by rw [Lib.cell_of_heap hq]; rfl
  have w2q1 : w2.cell? ⟨W.heap.size + 1, 1, none⟩ = some (.func (.func fn) #[] #[]) := by rw [Lib.cell_of_heap hq]; rfl
  have w2q2 : w2.cell? ⟨W.heap.size + 1, 2, none⟩ = some (.bool true) := by rw [Lib.cell_of_heap hq]; rfl
  have HC2 := Lib.hid hc
  have HQ2 := Lib.hid hq
  have HB2 := Lib.hid hb2
  clear hc hq hb2 HC HQ HB1
  obtain ⟨wm, hrun, hN, hgr⟩ := (NamesM.made w2).update ⟨#[]⟩ (by decide) (by decide)
  have HNM : Hid (NamesM w2.heap.size ([] ++ [[]]) wm) := Lib.hid hN
  have hz2 := HB2.out.size
  have hgw : W.grownBy wm (some g) := ⟨hgr.os.trans HB2.out.os, hgr.tape.trans HB2.out.tape, hgr.output.trans HB2.out.output, Nat.le_trans hz2 (Nat.le_trans (by simp) hgr.size), fun i hi _ => ((hgr.block i (by simp; omega) (fun e => by have := Option.some.inj e; omega)).trans (Below.heap_alloc _ _ _ (by omega))).trans (HB2.out.block i hi)⟩
  have hbm : BH w0 V b off cap bv ba bw be g es wm := HB.out.below ⟨hgw.os, hgw.tape, hgw.output, hgw.size, fun i hi => ((hgr.block i (by simp; omega) (fun e => by have := Option.some.inj e; omega)).trans (Below.heap_alloc _ _ _ (by omega))).trans (HB2.out.block i hi)⟩
  have hcm : wm.heap[W.heap.size]? = some (.cells #[.int .u8 (kk : Int), .string nx, .string tx, .int .i64 nu, .int .i64 (m : Int)] 59 (0, 0)) := ((hgr.block _ (by have := heap_lt HC2.out; simp; omega) (fun e => by have h1 := Option.some.inj e; have h2 := heap_lt HC2.out; omega)).trans (Below.heap_alloc _ _ _ (heap_lt HC2.out))).trans HC2.out
  have HGW := Lib.hid hgw
  have HBM := Lib.hid hbm
  have HCM := Lib.hid hcm
  have m4 : wm.cell? ⟨W.heap.size, 4, none⟩ = some (.int .i64 (m : Int)) := by rw [Lib.cell_of_heap hcm]; rfl
  clear hgw hbm hcm
  go_wp2_with fail
  clear hrun hmm ht hn m4
  have LM : Hid (bv < w2.heap.size ∧ ba < w2.heap.size ∧ bw < w2.heap.size ∧ be < w2.heap.size ∧ g < w2.heap.size) := Lib.hid ⟨Nat.lt_of_lt_of_le (heap_lt HB.out.hv) hz2, Nat.lt_of_lt_of_le (heap_lt HB.out.ha) hz2, Nat.lt_of_lt_of_le (heap_lt HB.out.hw) hz2, Nat.lt_of_lt_of_le (heap_lt HB.out.he) hz2, Nat.lt_of_lt_of_le (heap_lt HB.out.hg) hz2⟩
  have L0 : w0.heap.size ≤ w2.heap.size := Nat.le_trans HB.out.bel.size hz2
  have lW : W.heap.size < w2.heap.size := heap_lt HC2.out
  have lgW : g < W.heap.size := heap_lt HB.out.hg
  clear hN hgr w2c0 w2c1 w2c2 w2c3 w2c4 w2q0 w2q1 w2q2 HQ2 HC2 HB2 HB hz2
  generalize w2.heap.size = bm at *
  go_loopg [12, 79] m (fun gk nv ct wr => ∃ (j : Nat) (esr : Array Value), ct = .int .i64 j ∧ gk + j = m ∧ Hid (BH w0 V b off cap bv ba bw be g esr wr) ∧ Hid (W.grownBy wr (some g)) ∧
    ((∃ (p u : Nat) (nm : List (List UInt8)), nv = .int .i64 (p : Int) ∧ p ≤ V.length ∧ Hid (p = k + 1 + u) ∧ nm.length ≤ j ∧ j ≤ u ∧ Hid (KS V (d - 1) k true o gk nm u) ∧ Hid (NamesM bm (nm ++ [[]]) wr) ∧ Hid (wr.heap[W.heap.size]? = some (.cells #[.int .u8 (kk : Int), .string nx, .string tx, .int .i64 nu, .int .i64 (m : Int)] 59 (0, 0))) ∧
      Hid ((∀ i, i < k + 1 ∨ k + 1 + u ≤ i → esr[i]? = es[i]?) ∧ ∀ i, k + 1 ≤ i → i < k + 1 + u → esr[i]? = some (.int .i64 (endI V i 16)))) ∨ (nv = .int .i64 (-1) ∧ Hid (o = none))))
  case atStart => exact ⟨0, es, rfl, by omega, HBM, HGW, Or.inl ⟨k + 1, 0, [], by go_num, by omega, Lib.hid rfl, Nat.le_refl _, Nat.le_refl _, HK0, HNM, HCM, Lib.hid ⟨fun i _ => rfl, fun i h1 h2 => by omega⟩⟩⟩
  case round =>
    rename World => wr
    obtain ⟨j, esr, rfl, hj, HBr, HGr, hrel2⟩ := hrel
    rcases hrel2 with ⟨p, u, nm, rfl, hp, HPU, hnm, hju, HK, HN, HC, HF⟩ | ⟨rfl, HO⟩
    · by_cases hg0 : gk = 0
      · subst hg0
        have HO := Lib.hid HK.out.done
        have e0 : wr.cell? ⟨be, 0, none⟩ = some (.slice (some ⟨g, 0, none⟩) V.length V.length) := by rw [Lib.cell_of_heap HBr.out.he]; rfl
        have hks : k < esr.size := by rw [HBr.out.size]; exact hk
        have e1 : wr.cell? ⟨g, k, none⟩ = some (esr[k]) := by rw [Lib.cell_of_heap HBr.out.hg]; exact Array.getElem?_eq_getElem hks
        have e2 : wr.frozen? ⟨g, k, none⟩ = false := Lib.frozen_of_heap HBr.out.hg k
        generalize esr[k] = ek at *
        have hval2 : valN d (V.drop k) = some (1 + u) := by rw [HV.out, HO.out]; rfl
        have HPK : Hid (p = k + (1 + u)) := Lib.hid (by rw [HPU.out]; omega)
        have HFIN : Hid (BEnd V k d g es (endI V k d) (.returned (.int .i64 (p : Int))) W (wr.setCell ⟨g, k, none⟩ (.int .i64 (p : Int)))) := Lib.hid (by
          rw [HPK.out]
          exact bend_yes hval2 hd hk HES.out HBr.out.hg (by rw [HBr.out.size, HES.out]) HGr.out (fun i h => HF.out.1 i (by omega)) (fun i h1 h2 => HF.out.2 i h1 (by omega)))
        clear hval2
        go_wp2_with fail
        go_ret
        exact HFIN.out
      · obtain ⟨g1, rfl⟩ : ∃ g1, gk = g1 + 1 := ⟨gk - 1, by omega⟩
        clear hg0
        have r0 : wr.cell? ⟨bv, 0, none⟩ = some (.slice (some ⟨b, off, none⟩) V.length cap) := by rw [Lib.cell_of_heap HBr.out.hv]; rfl
        by_cases hpl : p < V.length
        · obtain ⟨_, r1, _⟩ := (HROW.out.below HBr.out.bel hbl) p hpl
          have r2 : wr.cell? ⟨W.heap.size, 0, none⟩ = some (.int .u8 (kk : Int)) := by rw [Lib.cell_of_heap HC.out]; rfl
          have hxz : (⟨V[p].name.toArray⟩ : ByteArray).size = V[p].name.length := by show V[p].name.toArray.size = _; simp
          have hxl : (⟨V[p].name.toArray⟩ : ByteArray).data.toList = V[p].name := by simp
          have hxs : (⟨V[p].name.toArray⟩ : ByteArray).size ≤ 100000 := by rw [hxz]; exact HSM.out _ (List.getElem_mem _)
          have HBAD := Lib.hid (fun h => HK.out.bad HPU.out hpl h)
          have HFAIL := Lib.hid (fun h h' => HK.out.fail HPU.out hpl h h')
          have HNEXT := Lib.hid (fun n h h' => HK.out.next (n := n) HPU.out hpl h h')
          rw [← hxl] at HBAD HFAIL HNEXT
          clear hxz hxl
          generalize (⟨V[p].name.toArray⟩ : ByteArray) = x at *
          have hu : u ≤ 100000 := by have := HPU.out; omega
          have hlook := HN.out.lookup x (by unfold maxLen; omega)
          rw [amongB_app] at hlook
          obtain ⟨wn, hrun, hN2, hgr⟩ := HN.out.update x (by unfold maxLen; omega) (by simp; omega)
          rcases empty_z x with ⟨z0, z1, z2, z3⟩ | ⟨z0, z1, z2, z3⟩
          · have hne : x.data.toList.isEmpty = false := by rw [← ByteArray.toList_eq]; exact z2
            have HO := Lib.hid (HBAD.out (by unfold okN; rw [if_pos rfl]; exact hne))
            clear hne hlook hrun hgr hN2
            have HFIN : Hid (BEnd V k d g es (endI V k d) (.returned (.int .i64 (-1))) W wr) := Lib.hid (bend_none (by rw [HV.out, HO.out]; rfl) HBr.out HES.out HGr.out)
            go_wp2_with fail
            go_ret
            exact HFIN.out
          · clear hlook
            have hok : okN true nm x.data.toList = true := by rw [z3]; rfl
            have HB5 : Hid (BH w0 V b off cap bv ba bw be g esr wn) := Lib.hid (HBr.out.other hgr L0 LM.out)
            have q0 : wn.cell? ⟨bw, 0, none⟩ = some (.func (.func 83) #[] #[.pointer (some ⟨bv, 0, none⟩), .pointer (some ⟨ba, 0, none⟩), .pointer (some ⟨bw, 0, none⟩), .pointer (some ⟨be, 0, none⟩)]) := by rw [Lib.cell_of_heap HB5.out.hw]; rfl
            have HGn : Hid (W.grownBy wn (some g)) := Lib.hid (grown_new HGr.out hgr (by omega))
            have HCn : Hid (wn.heap[W.heap.size]? = some (.cells #[.int .u8 (kk : Int), .string nx, .string tx, .int .i64 nu, .int .i64 (m : Int)] 59 (0, 0))) := Lib.hid ((hgr.block _ (heap_lt HC.out) (fun e => by have := Option.some.inj e; omega)).trans HC.out)
            have HNn := Lib.hid hN2
            clear hgr hN2
            cases hv : valN (d - 1) (V.drop p) with
            | none =>
              have HO := Lib.hid (HFAIL.out hok hv)
              have HI : Hid (Calls Tryz.prog 83 #[.int .i64 (p : Int), .int .i64 ((d : Int) - 1), .pointer (some ⟨bv, 0, none⟩), .pointer (some ⟨ba, 0, none⟩), .pointer (some ⟨bw, 0, none⟩), .pointer (some ⟨be, 0, none⟩)] wn fun e w' => BEnd V p (d - 1) g esr (-1) e wn w') := Lib.hid (by
                have := HIH.out wn esr p hpl HB5.out
                rw [endI_none hv] at this
                exact this)
              clear hv hok
              go_wp2_with fail
              refine HI.out.mono ?_; rintro e w5 hbe
              obtain ⟨rfl, hg5, es5, hh5, hs5, hf5⟩ := hbe
              have HB6 := Lib.hid (HB5.out.grown hg5 hh5 hs5)
              have HG6 := Lib.hid (grown_trans HGn.out hg5)
              clear hg5 hh5 hs5 hf5
              go_wp2_with fail
              go_roundg g1
              case measure => omega
              case rel => exact ⟨j + 1, es5, by go_num, by omega, HB6, HG6, Or.inr ⟨rfl, HO⟩⟩
            | some n =>
              have HO := Lib.hid (HNEXT.out n hok hv)
              have HI : Hid (Calls Tryz.prog 83 #[.int .i64 (p : Int), .int .i64 ((d : Int) - 1), .pointer (some ⟨bv, 0, none⟩), .pointer (some ⟨ba, 0, none⟩), .pointer (some ⟨bw, 0, none⟩), .pointer (some ⟨be, 0, none⟩)] wn fun e w' => BEnd V p (d - 1) g esr ((p + n : Nat) : Int) e wn w') := Lib.hid (by
                have := HIH.out wn esr p hpl HB5.out
                rw [endI_some hv] at this
                exact this)
              have hn1 := (valN_le _ _ _ hv).1
              have hn2 := (valN_le _ _ _ hv).2
              rw [List.length_drop] at hn2
              have HV2 := Lib.hid hv
              obtain ⟨p2, hp2⟩ : ∃ p2, p + n = p2 := ⟨_, rfl⟩
              have HP2 : Hid (p2 = k + 1 + (u + n)) := Lib.hid (by rw [← hp2, HPU.out]; omega)
              have hp3 : p2 ≤ V.length := by omega
              rw [hp2] at HI
              clear hv hok hp2 hn2
              go_wp2_with fail
              refine HI.out.mono ?_; rintro e w5 hbe
              obtain ⟨rfl, hg5, es5, hh5, hs5, hf5⟩ := hbe
              have HB6 := Lib.hid (HB5.out.grown hg5 hh5 hs5)
              have HG6 := Lib.hid (grown_trans HGn.out hg5)
              have HF6 := Lib.hid (fill_next HPU.out HF.out (hf5 n HV2.out))
              have HN6 : Hid (NamesM bm ((x.data.toList :: nm) ++ [[]]) w5) := Lib.hid (HNn.out.grown hg5 (fun e => by have h1 := Option.some.inj e; have h2 := LM.out.2.2.2.2; omega))
              have HC6 := Lib.hid ((hg5.block _ (heap_lt HCn.out) (fun e => by have h1 := Option.some.inj e; omega)).trans HCn.out)
              clear hg5 hh5 hs5 hf5
              go_wp2_with fail
              go_roundg g1
              case measure => omega
              case rel => exact ⟨j + 1, es5, by go_num, by omega, HB6, HG6, Or.inl ⟨p2, u + n, x.data.toList :: nm, rfl, hp3, HP2, by simp; omega, by omega, HO, HN6, HC6, HF6⟩⟩
        · have HO := Lib.hid (HK.out.out_ (by have := HPU.out; omega))
          have HFIN : Hid (BEnd V k d g es (endI V k d) (.returned (.int .i64 (-1))) W wr) := Lib.hid (bend_none (by rw [HV.out, HO.out]; rfl) HBr.out HES.out HGr.out)
          go_wp2_with fail
          go_ret
          exact HFIN.out
    · have HFIN : Hid (BEnd V k d g es (endI V k d) (.returned (.int .i64 (-1))) W wr) := Lib.hid (bend_none (by rw [HV.out, HO.out]; rfl) HBr.out HES.out HGr.out)
      by_cases hg0 : gk = 0
      · subst hg0
        go_wp2_with fail
        go_ret
        exact HFIN.out
      · have hlt : j < m := by omega
        go_wp2_with fail
        go_ret
        exact HFIN.out
end Go.Proofs.YtbejhdhhkpllfaaGreatDoor
