/- The walks through the reference's text, among, One (provostref03). -/
import Derived.Test.YteapenemnnhonaaDoorCk
import Derived.Test.YteapenemnnhonaaDoorCr
import Derived.Test.YteapenemnnhonaaDoorRn
import Derived.Test.YteapenemnnhonaaDoorOw
set_option linter.unusedSimpArgs false
set_option linter.unusedVariables false
namespace Go.Proofs.YteapenemnnhonaaDoor
open Go.RowKit
set_option maxRecDepth 100000 in
theorem rtext03_any (s : ByteArray) (hs : s.size ≤ 100000) (w : World) :
    Calls Tryd.prog 43 #[.string s] w fun e w' => e = .returned (.bool (textB s.data.toList)) ∧ Below w.heap.size w w' := by
  have H := Lib.hid (rpoints_any s hs w)
  have hr : textB s.data.toList = (decide (s.size ≤ 16384) && Lib.validD s.data.toList) := by unfold textB; rw [len_z]
  rw [hr]
  clear hr
  generalize Lib.validD s.data.toList = vd at *
  cases vd with
  | true =>
    go_enter Tryd.func43, Tryd.ntmps43
    go_wp2_with fail
    refine H.out.mono ?_; rintro e w1 ⟨v, rfl, _, hb⟩
    go_wp2_with fail
    go_ret
    exact ⟨ret_b (by rw [Bool.eq_iff_iff]; simp; omega), hb⟩
  | false =>
    go_enter Tryd.func43, Tryd.ntmps43
    go_wp2_with fail
    refine H.out.mono ?_; rintro e w1 ⟨v, rfl, _, hb⟩
    go_wp2_with fail
    go_ret
    exact ⟨ret_b (by simp), hb⟩
/-! ### among -/
/-- A slice that reads as texts. -/
def StrSl (v : Value) (l : List ByteArray) (W : World) : Prop := (∃ a cap, v = .slice a 0 cap ∧ l = []) ∨ ∃ b off cap, v = .slice (some ⟨b, off, none⟩) l.length cap ∧ ∀ (j : Nat) x, l[j]? = some x → W.cell? ⟨b, off + j, none⟩ = some (.string x)
theorem OwnS.sl {B : Nat} {v : Value} {l : List ByteArray} {w : World} (h : OwnS B v l w) : StrSl v l w := by
  rcases h.cells with ⟨h1, h2⟩ | ⟨g, cap, h1, h2, h3, h4⟩
  · exact Or.inl ⟨_, _, h1, h2⟩
  · exact Or.inr ⟨g, 0, cap, h1, h4⟩
def amongS (l : List ByteArray) (s : ByteArray) : Bool := l.any fun x => x.toList == s.toList
theorem amongS_B (l : List ByteArray) (s : ByteArray) : amongS l s = amongB (l.map (·.data.toList)) s.data.toList := by
  unfold amongS amongB
  rw [List.any_map]
  congr 1
  funext x
  rw [ByteArray.toList_eq, ByteArray.toList_eq]; rfl
set_option maxRecDepth 100000 in
theorem ramong03_any (l : List ByteArray) (v : Value) (s : ByteArray) (w : World) (hl : l.length ≤ 1000000) (hv : StrSl v l w) :
    Calls Tryd.prog 44 #[v, .string s] w fun e w' => e = .returned (.bool (amongS l s)) ∧ w = w' := by
  rcases hv with ⟨a, cap, rfl, rfl⟩ | ⟨b, off, cap, rfl, hc⟩
  · go_enter Tryd.func44, Tryd.ntmps44
    go_wp2_with fail
    refine wp_loop_rounds 1 ?_; rw [rounds_succ]
    go_wp2_with fail
    go_ret
    exact ⟨rfl, rfl⟩
  · obtain ⟨r, hr⟩ : ∃ r, amongS l s = r := ⟨_, rfl⟩
    have HR : Hid (amongS (l.drop 0) s = r) := Lib.hid hr
    have HC := Lib.hid hc
    rw [hr]
    clear hr hc
    go_enter Tryd.func44, Tryd.ntmps44
    go_wp2_with fail
    go_loop [5] (fun i => ∃ k : Nat, k ≤ l.length ∧ i = .int .i64 k ∧ Hid (amongS (l.drop k) s = r)) (fun i => l.length - (intOf i).toNat)
    case atStart => exact ⟨0, Nat.zero_le _, rfl, HR⟩
    case round =>
      obtain ⟨k, hk, rfl, HS⟩ := hrel
      by_cases hlt : k < l.length
      · have c0 := HC.out k l[k] (List.getElem?_eq_getElem hlt)
        have hstep := HS.out
        rw [List.drop_eq_getElem_cons hlt] at hstep
        unfold amongS at hstep
        rw [List.any_cons] at hstep
        generalize l[k] = x at *
        cases hx : (x.toList == s.toList) with
        | true =>
          rw [hx, Bool.true_or] at hstep
          have HF := Lib.hid hstep
          clear hstep HS
          go_wp2_with fail
          go_ret
          exact ⟨ret_b HF.out, rfl⟩
        | false =>
          rw [hx, Bool.false_or] at hstep
          have HF : Hid (amongS (l.drop (k + 1)) s = r) := Lib.hid hstep
          clear hstep HS
          go_wp2_with fail
          go_round
          case rel => exact ⟨k + 1, by omega, by go_num, HF⟩
          case measure => simp [intOf]; omega
      · have HF : Hid (false = r) := Lib.hid (by rw [← HS.out, List.drop_of_length_le (by omega)]; rfl)
        clear HS
        go_wp2_with fail
        go_ret
        exact ⟨ret_b HF.out, rfl⟩
/-! ### One -/
set_option maxRecDepth 100000 in
theorem rone_0 (nx x : ByteArray) (n m : Int) (w : World) :
    Calls Tryd.prog 42 #[.agg #[.int .u8 0, .string nx, .string x, .int .i64 n, .int .i64 m]] w fun e w' => e = .returned (.bool (x.data.toList.isEmpty && n == 0 && m == 0)) ∧ Below w.heap.size w w' := by
  have hxe : x.data.toList.isEmpty = x.toList.isEmpty := by rw [ByteArray.toList_eq]
  rw [hxe]
  clear hxe
  rcases empty_z x with ⟨z0, z1, z2, z3⟩ | ⟨z0, z1, z2, z3⟩
  · rw [z2]
    clear z0 z3
    go_enter Tryd.func42, Tryd.ntmps42
    go_wp2_with fail
    go_ret
    exact ⟨rfl, (Below.refl _ _).alloc (Nat.le_refl _) _⟩
  · rw [z2]
    clear z0 z3
    cases h0 : (n == 0) with
    | true =>
      go_enter Tryd.func42, Tryd.ntmps42
      go_wp2_with fail
      go_ret
      exact ⟨ret_b (by simp), (Below.refl _ _).alloc (Nat.le_refl _) _⟩
    | false =>
      go_enter Tryd.func42, Tryd.ntmps42
      go_wp2_with fail
      go_ret
      exact ⟨ret_b (by simp), (Below.refl _ _).alloc (Nat.le_refl _) _⟩
set_option maxRecDepth 100000 in
theorem rone_1 (nx x : ByteArray) (n m : Int) (w : World) :
    Calls Tryd.prog 42 #[.agg #[.int .u8 1, .string nx, .string x, .int .i64 n, .int .i64 m]] w fun e w' => e = .returned (.bool (x.data.toList.isEmpty && (n == 0 || n == 1) && m == 0)) ∧ Below w.heap.size w w' := by
  have hxe : x.data.toList.isEmpty = x.toList.isEmpty := by rw [ByteArray.toList_eq]
  rw [hxe]
  clear hxe
  rcases empty_z x with ⟨z0, z1, z2, z3⟩ | ⟨z0, z1, z2, z3⟩
  · rw [z2]
    clear z0 z3
    go_enter Tryd.func42, Tryd.ntmps42
    go_wp2_with fail
    go_ret
    exact ⟨rfl, (Below.refl _ _).alloc (Nat.le_refl _) _⟩
  · rw [z2]
    clear z0 z3
    cases h0 : (n == 0) with
    | true =>
      go_enter Tryd.func42, Tryd.ntmps42
      go_wp2_with fail
      go_ret
      exact ⟨ret_b (by simp), (Below.refl _ _).alloc (Nat.le_refl _) _⟩
    | false =>
      cases h1 : (n == 1) with
      | true =>
        go_enter Tryd.func42, Tryd.ntmps42
        go_wp2_with fail
        go_ret
        exact ⟨ret_b (by simp), (Below.refl _ _).alloc (Nat.le_refl _) _⟩
      | false =>
        go_enter Tryd.func42, Tryd.ntmps42
        go_wp2_with fail
        go_ret
        exact ⟨ret_b (by simp), (Below.refl _ _).alloc (Nat.le_refl _) _⟩
set_option maxRecDepth 100000 in
theorem rone_2 (nx x : ByteArray) (n m : Int) (w : World) :
    Calls Tryd.prog 42 #[.agg #[.int .u8 2, .string nx, .string x, .int .i64 n, .int .i64 m]] w fun e w' => e = .returned (.bool (x.data.toList.isEmpty && m == 0)) ∧ Below w.heap.size w w' := by
  have hxe : x.data.toList.isEmpty = x.toList.isEmpty := by rw [ByteArray.toList_eq]
  rw [hxe]
  clear hxe
  rcases empty_z x with ⟨z0, z1, z2, z3⟩ | ⟨z0, z1, z2, z3⟩
  · rw [z2]
    clear z0 z3
    go_enter Tryd.func42, Tryd.ntmps42
    go_wp2_with fail
    go_ret
    exact ⟨rfl, (Below.refl _ _).alloc (Nat.le_refl _) _⟩
  · rw [z2]
    clear z0 z3
    go_enter Tryd.func42, Tryd.ntmps42
    go_wp2_with fail
    go_ret
    exact ⟨ret_b (by simp), (Below.refl _ _).alloc (Nat.le_refl _) _⟩
set_option maxRecDepth 100000 in
theorem rone_6 (nx x : ByteArray) (n m : Int) (w : World) :
    Calls Tryd.prog 42 #[.agg #[.int .u8 6, .string nx, .string x, .int .i64 n, .int .i64 m]] w fun e w' => e = .returned (.bool (x.data.toList.isEmpty && n == 0 && decide (0 ≤ m))) ∧ Below w.heap.size w w' := by
  have hxe : x.data.toList.isEmpty = x.toList.isEmpty := by rw [ByteArray.toList_eq]
  rw [hxe]
  clear hxe
  rcases empty_z x with ⟨z0, z1, z2, z3⟩ | ⟨z0, z1, z2, z3⟩
  · rw [z2]
    clear z0 z3
    go_enter Tryd.func42, Tryd.ntmps42
    go_wp2_with fail
    go_ret
    exact ⟨rfl, (Below.refl _ _).alloc (Nat.le_refl _) _⟩
  · rw [z2]
    clear z0 z3
    cases h0 : (n == 0) with
    | true =>
      go_enter Tryd.func42, Tryd.ntmps42
      go_wp2_with fail
      go_ret
      exact ⟨ret_b (by simp), (Below.refl _ _).alloc (Nat.le_refl _) _⟩
    | false =>
      go_enter Tryd.func42, Tryd.ntmps42
      go_wp2_with fail
      go_ret
      exact ⟨ret_b (by simp), (Below.refl _ _).alloc (Nat.le_refl _) _⟩
set_option maxRecDepth 100000 in
theorem rone_7 (nx x : ByteArray) (n m : Int) (w : World) :
    Calls Tryd.prog 42 #[.agg #[.int .u8 7, .string nx, .string x, .int .i64 n, .int .i64 m]] w fun e w' => e = .returned (.bool (x.data.toList.isEmpty && n == 0 && decide (0 ≤ m))) ∧ Below w.heap.size w w' := by
  have hxe : x.data.toList.isEmpty = x.toList.isEmpty := by rw [ByteArray.toList_eq]
  rw [hxe]
  clear hxe
  rcases empty_z x with ⟨z0, z1, z2, z3⟩ | ⟨z0, z1, z2, z3⟩
  · rw [z2]
    clear z0 z3
    go_enter Tryd.func42, Tryd.ntmps42
    go_wp2_with fail
    go_ret
    exact ⟨rfl, (Below.refl _ _).alloc (Nat.le_refl _) _⟩
  · rw [z2]
    clear z0 z3
    cases h0 : (n == 0) with
    | true =>
      go_enter Tryd.func42, Tryd.ntmps42
      go_wp2_with fail
      go_ret
      exact ⟨ret_b (by simp), (Below.refl _ _).alloc (Nat.le_refl _) _⟩
    | false =>
      go_enter Tryd.func42, Tryd.ntmps42
      go_wp2_with fail
      go_ret
      exact ⟨ret_b (by simp), (Below.refl _ _).alloc (Nat.le_refl _) _⟩
set_option maxRecDepth 100000 in
theorem rone_3 (nx x : ByteArray) (n m : Int) (tb : Bool) (H : Hid (∀ w, Calls Tryd.prog 43 #[.string x] w fun e w' => e = .returned (.bool tb) ∧ Below w.heap.size w w')) (w : World) :
    Calls Tryd.prog 42 #[.agg #[.int .u8 3, .string nx, .string x, .int .i64 n, .int .i64 m]] w fun e w' => e = .returned (.bool (tb && n == 0 && m == 0)) ∧ Below w.heap.size w w' := by
  cases tb with
  | false =>
    go_enter Tryd.func42, Tryd.ntmps42
    go_wp2_with fail
    refine (H.out _).mono ?_; rintro e w1 ⟨rfl, hb⟩
    have HW : Below w.heap.size w w1 := ((Below.refl _ _).alloc (Nat.le_refl _) _).trans (hb.mono (by simp))
    clear hb
    go_wp2_with fail
    go_ret
    exact ⟨rfl, HW⟩
  | true =>
    have hcel : ∀ w1 : World, Below (w.alloc (.cells #[.int .u8 3, .string nx, .string x, .int .i64 n, .int .i64 m] 33)).heap.size (w.alloc (.cells #[.int .u8 3, .string nx, .string x, .int .i64 n, .int .i64 m] 33)) w1 → w1.cell? ⟨w.heap.size, 3, none⟩ = some (.int .i64 n) ∧ w1.cell? ⟨w.heap.size, 4, none⟩ = some (.int .i64 m) := by
      intro w1 hb
      have hh : w1.heap[w.heap.size]? = some (.cells #[.int .u8 3, .string nx, .string x, .int .i64 n, .int .i64 m] 33 (0, 0)) := (hb.block _ (by simp)).trans (heap_alloc_new w _)
      exact ⟨by rw [Lib.cell_of_heap hh]; rfl, by rw [Lib.cell_of_heap hh]; rfl⟩
    have HCEL := Lib.hid hcel
    clear hcel
    cases h0 : (n == 0)
    all_goals
      go_enter Tryd.func42, Tryd.ntmps42
      go_wp2_with fail
      refine (H.out _).mono ?_; rintro e w1 ⟨rfl, hb⟩
      obtain ⟨d3, d4⟩ := HCEL.out _ hb
      have HW : Below w.heap.size w w1 := ((Below.refl _ _).alloc (Nat.le_refl _) _).trans (hb.mono (by simp))
      clear hb
      go_wp2_with fail
      go_ret
      exact ⟨ret_b (by simp), HW⟩
set_option maxRecDepth 100000 in
theorem rone_4 (nx x : ByteArray) (n m : Int) (tb : Bool) (H : Hid (∀ w, Calls Tryd.prog 57 #[.string x] w fun e w' => e = .returned (.bool tb) ∧ Below w.heap.size w w')) (w : World) :
    Calls Tryd.prog 42 #[.agg #[.int .u8 4, .string nx, .string x, .int .i64 n, .int .i64 m]] w fun e w' => e = .returned (.bool (tb && n == 0 && m == 0)) ∧ Below w.heap.size w w' := by
  cases tb with
  | false =>
    go_enter Tryd.func42, Tryd.ntmps42
    go_wp2_with fail
    refine (H.out _).mono ?_; rintro e w1 ⟨rfl, hb⟩
    have HW : Below w.heap.size w w1 := ((Below.refl _ _).alloc (Nat.le_refl _) _).trans (hb.mono (by simp))
    clear hb
    go_wp2_with fail
    go_ret
    exact ⟨rfl, HW⟩
  | true =>
    have hcel : ∀ w1 : World, Below (w.alloc (.cells #[.int .u8 4, .string nx, .string x, .int .i64 n, .int .i64 m] 33)).heap.size (w.alloc (.cells #[.int .u8 4, .string nx, .string x, .int .i64 n, .int .i64 m] 33)) w1 → w1.cell? ⟨w.heap.size, 3, none⟩ = some (.int .i64 n) ∧ w1.cell? ⟨w.heap.size, 4, none⟩ = some (.int .i64 m) := by
      intro w1 hb
      have hh : w1.heap[w.heap.size]? = some (.cells #[.int .u8 4, .string nx, .string x, .int .i64 n, .int .i64 m] 33 (0, 0)) := (hb.block _ (by simp)).trans (heap_alloc_new w _)
      exact ⟨by rw [Lib.cell_of_heap hh]; rfl, by rw [Lib.cell_of_heap hh]; rfl⟩
    have HCEL := Lib.hid hcel
    clear hcel
    cases h0 : (n == 0)
    all_goals
      go_enter Tryd.func42, Tryd.ntmps42
      go_wp2_with fail
      refine (H.out _).mono ?_; rintro e w1 ⟨rfl, hb⟩
      obtain ⟨d3, d4⟩ := HCEL.out _ hb
      have HW : Below w.heap.size w w1 := ((Below.refl _ _).alloc (Nat.le_refl _) _).trans (hb.mono (by simp))
      clear hb
      go_wp2_with fail
      go_ret
      exact ⟨ret_b (by simp), HW⟩
set_option maxRecDepth 100000 in
theorem rone_5 (nx x : ByteArray) (n m : Int) (tb : Bool) (H : Hid (∀ w, Calls Tryd.prog 57 #[.string x] w fun e w' => e = .returned (.bool tb) ∧ Below w.heap.size w w')) (w : World) :
    Calls Tryd.prog 42 #[.agg #[.int .u8 5, .string nx, .string x, .int .i64 n, .int .i64 m]] w fun e w' => e = .returned (.bool (tb && n == 0 && m == 0)) ∧ Below w.heap.size w w' := by
  cases tb with
  | false =>
    go_enter Tryd.func42, Tryd.ntmps42
    go_wp2_with fail
    refine (H.out _).mono ?_; rintro e w1 ⟨rfl, hb⟩
    have HW : Below w.heap.size w w1 := ((Below.refl _ _).alloc (Nat.le_refl _) _).trans (hb.mono (by simp))
    clear hb
    go_wp2_with fail
    go_ret
    exact ⟨rfl, HW⟩
  | true =>
    have hcel : ∀ w1 : World, Below (w.alloc (.cells #[.int .u8 5, .string nx, .string x, .int .i64 n, .int .i64 m] 33)).heap.size (w.alloc (.cells #[.int .u8 5, .string nx, .string x, .int .i64 n, .int .i64 m] 33)) w1 → w1.cell? ⟨w.heap.size, 3, none⟩ = some (.int .i64 n) ∧ w1.cell? ⟨w.heap.size, 4, none⟩ = some (.int .i64 m) := by
      intro w1 hb
      have hh : w1.heap[w.heap.size]? = some (.cells #[.int .u8 5, .string nx, .string x, .int .i64 n, .int .i64 m] 33 (0, 0)) := (hb.block _ (by simp)).trans (heap_alloc_new w _)
      exact ⟨by rw [Lib.cell_of_heap hh]; rfl, by rw [Lib.cell_of_heap hh]; rfl⟩
    have HCEL := Lib.hid hcel
    clear hcel
    cases h0 : (n == 0)
    all_goals
      go_enter Tryd.func42, Tryd.ntmps42
      go_wp2_with fail
      refine (H.out _).mono ?_; rintro e w1 ⟨rfl, hb⟩
      obtain ⟨d3, d4⟩ := HCEL.out _ hb
      have HW : Below w.heap.size w w1 := ((Below.refl _ _).alloc (Nat.le_refl _) _).trans (hb.mono (by simp))
      clear hb
      go_wp2_with fail
      go_ret
      exact ⟨ret_b (by simp), HW⟩
set_option maxRecDepth 100000 in
theorem rone_more (kk : Nat) (h7 : 7 < kk) (h8 : kk ≤ 255) (nx x : ByteArray) (n m : Int) (w : World) :
    Calls Tryd.prog 42 #[.agg #[.int .u8 (kk : Int), .string nx, .string x, .int .i64 n, .int .i64 m]] w fun e w' => e = .returned (.bool (false)) ∧ Below w.heap.size w w' := by
  have e0 : ((kk : Int) == 0) = false := by rw [beq_eq_false_iff_ne]; omega
  have e1 : ((kk : Int) == 1) = false := by rw [beq_eq_false_iff_ne]; omega
  have e2 : ((kk : Int) == 2) = false := by rw [beq_eq_false_iff_ne]; omega
  have e3 : ((kk : Int) == 3) = false := by rw [beq_eq_false_iff_ne]; omega
  have e4 : ((kk : Int) == 4) = false := by rw [beq_eq_false_iff_ne]; omega
  have e5 : ((kk : Int) == 5) = false := by rw [beq_eq_false_iff_ne]; omega
  have e6 : ((kk : Int) == 6) = false := by rw [beq_eq_false_iff_ne]; omega
  have e7 : ((kk : Int) == 7) = false := by rw [beq_eq_false_iff_ne]; omega
  go_enter Tryd.func42, Tryd.ntmps42
  go_wp2_with fail
  go_ret
  exact ⟨rfl, (Below.refl _ _).alloc (Nat.le_refl _) _⟩
theorem rone03_any (c : Cel) (h1 : c.text.length ≤ 100000) (w : World) :
    Calls Tryd.prog 42 #[.agg (celCells c)] w fun e w' => e = .returned (.bool (oneC c)) ∧ Below w.heap.size w w' := by
  have hk := UInt8.toNat_lt c.kind
  have htz : (⟨c.text.toArray⟩ : ByteArray).size = c.text.length := by show c.text.toArray.size = _; simp
  have htl : (⟨c.text.toArray⟩ : ByteArray).data.toList = c.text := by simp
  rw [one_kind]
  unfold celCells
  have HT : Hid (∀ w, Calls Tryd.prog 43 #[.string ⟨c.text.toArray⟩] w fun e w' => e = .returned (.bool (textB c.text)) ∧ Below w.heap.size w w') := Lib.hid fun w => by
    have := rtext03_any ⟨c.text.toArray⟩ (by omega) w
    rw [htl] at this; exact this
  have HN : Hid (∀ w, Calls Tryd.prog 57 #[.string ⟨c.text.toArray⟩] w fun e w' => e = .returned (.bool (nameB c.text)) ∧ Below w.heap.size w w') := Lib.hid fun w => by
    have := rname_any ⟨c.text.toArray⟩ (by omega) w
    rw [htl] at this
    exact this.mono fun e w' ⟨h1, h2⟩ => ⟨h1, by rw [← h2]; exact Below.refl _ _⟩
  by_cases h7 : c.kind.toNat ≤ 7
  · rw [decide_eq_true h7, Bool.true_and]
    have h8 : c.kind.toNat = 0 ∨ c.kind.toNat = 1 ∨ c.kind.toNat = 2 ∨ c.kind.toNat = 3 ∨ c.kind.toNat = 4 ∨ c.kind.toNat = 5 ∨ c.kind.toNat = 6 ∨ c.kind.toNat = 7 := by omega
    rcases h8 with h | h | h | h | h | h | h | h
    · rw [h]; have := rone_0 ⟨c.name.toArray⟩ ⟨c.text.toArray⟩ c.num c.many w; rw [htl] at this; exact this
    · rw [h]; have := rone_1 ⟨c.name.toArray⟩ ⟨c.text.toArray⟩ c.num c.many w; rw [htl] at this; exact this
    · rw [h]; have := rone_2 ⟨c.name.toArray⟩ ⟨c.text.toArray⟩ c.num c.many w; rw [htl] at this
      have e : (ctext 2 c.text && cnum 2 c.num && if cnest 2 then decide (0 ≤ c.many) else c.many == 0) = (c.text.isEmpty && c.many == 0) := by
        show (c.text.isEmpty && true && c.many == 0) = _
        rw [Bool.and_true]
      rw [e]; exact this
    · rw [h]; exact rone_3 ⟨c.name.toArray⟩ ⟨c.text.toArray⟩ c.num c.many _ HT w
    · rw [h]; exact rone_4 ⟨c.name.toArray⟩ ⟨c.text.toArray⟩ c.num c.many _ HN w
    · rw [h]; exact rone_5 ⟨c.name.toArray⟩ ⟨c.text.toArray⟩ c.num c.many _ HN w
    · rw [h]; have := rone_6 ⟨c.name.toArray⟩ ⟨c.text.toArray⟩ c.num c.many w; rw [htl] at this; exact this
    · rw [h]; have := rone_7 ⟨c.name.toArray⟩ ⟨c.text.toArray⟩ c.num c.many w; rw [htl] at this; exact this
  · rw [decide_eq_false h7, Bool.false_and]
    exact rone_more c.kind.toNat (by omega) (by omega) _ _ _ _ w
end Go.Proofs.YteapenemnnhonaaDoor
