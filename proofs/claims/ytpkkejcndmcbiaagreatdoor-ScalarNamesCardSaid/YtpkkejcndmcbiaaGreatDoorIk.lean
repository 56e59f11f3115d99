/- scalar's names, Of, Name; slices.Index at names; text.Count. -/
import Derived.Test.YtpkkejcndmcbiaaGreatDoorIg
import Derived.Test.YtpkkejcndmcbiaaGreatDoorTc
import Derived.Test.YtpkkejcndmcbiaaGreatDoorShelf
set_option linter.unusedSimpArgs false
set_option linter.unusedVariables false
namespace Go.Proofs.YtpkkejcndmcbiaaGreatDoor
open Go.RowKit Go.Shelf
/-- The first place of a name; -1. -/
def idxS (s : ByteArray) : List ByteArray → Nat → Int
  | [], _ => -1
  | c :: r, i => if s.toList == c.toList then (i : Int) else idxS s r (i + 1)
theorem idxS_le (s : ByteArray) : ∀ (V : List ByteArray) (i : Nat), -1 ≤ idxS s V i ∧ idxS s V i < (i : Int) + V.length
  | [], i => by simp only [idxS, List.length_nil]; omega
  | c :: r, i => by
    have := idxS_le s r (i + 1)
    rw [idxS, List.length_cons]
    split <;> omega
def namesL : List ByteArray := [⟨#[73, 110, 116]⟩, ⟨#[83, 116, 114, 105, 110, 103]⟩, ⟨#[66, 111, 111, 108, 101, 97, 110]⟩, ⟨#[73, 68]⟩, ⟨#[68, 97, 116, 101, 84, 105, 109, 101]⟩, ⟨#[85, 85, 73, 68]⟩, ⟨#[68, 101, 99, 105, 109, 97, 108]⟩, ⟨#[85, 82, 76]⟩]
set_option maxRecDepth 100000 in
set_option maxHeartbeats 4000000 in
theorem sindex_any (s : ByteArray) (V : List ByteArray) (b cap : Nat) (w : World) (hrow : ∀ (k : Nat) (h : k < V.length), w.cell? ⟨b, k, none⟩ = some (.string V[k])) (hl : V.length ≤ 1000) :
    Calls Tryz.prog 15 #[.slice (some ⟨b, 0, none⟩) V.length cap, .string s] w fun e w' => e = .returned (.int .i64 (idxS s V 0)) ∧ w = w' := by
  have HROW := Lib.hid hrow
  obtain ⟨r, hr⟩ : ∃ r, idxS s V 0 = r := ⟨_, rfl⟩
  have HR : Hid (idxS s (V.drop 0) 0 = r) := Lib.hid hr
  rw [hr]
  clear hr hrow
  go_enter Tryz.func15, Tryz.ntmps15
  go_wp2_with fail
  go_loop [8] (fun i => ∃ k : Nat, k ≤ V.length ∧ i = .int .i64 k ∧ Hid (idxS s (V.drop k) k = r)) (fun i => V.length - (intOf i).toNat)
  case atStart => exact ⟨0, Nat.zero_le _, rfl, HR⟩
  case round =>
    obtain ⟨k, hk, rfl, HS⟩ := hrel
    by_cases hlt : k < V.length
    · have hc := HROW.out k hlt
      have hstep := HS.out
      rw [List.drop_eq_getElem_cons hlt, idxS] at hstep
      obtain ⟨t, ht⟩ : ∃ t, (s.toList == (V[k]).toList) = t := ⟨_, rfl⟩
      rw [ht] at hstep
      generalize V[k] = x0 at *
      cases t with
      | true =>
        rw [if_pos rfl] at hstep
        have HF := Lib.hid hstep
        clear hstep HS
        go_wp2_with fail
        go_ret
        exact ⟨ret_i HF.out, rfl⟩
      | false =>
        rw [if_neg Bool.false_ne_true] at hstep
        have HF := Lib.hid hstep
        clear hstep HS
        go_wp2_with fail
        go_round
        case rel => exact ⟨k + 1, by omega, by go_num, HF⟩
        case measure => simp [intOf]; omega
    · have HF : Hid (-1 = r) := Lib.hid (by rw [← HS.out, List.drop_of_length_le (by omega)]; rfl)
      clear HS
      go_wp2_with fail
      go_ret
      exact ⟨ret_i HF.out, rfl⟩
set_option maxRecDepth 100000 in
set_option maxHeartbeats 4000000 in
theorem names_any (w : World) :
    Calls Tryz.prog 16 #[] w fun e w' => e = .returned (.slice (some ⟨w.heap.size, 0, none⟩) 8 8) ∧ w' = (w.alloc (.cells #[.string ⟨#[73, 110, 116]⟩, .string ⟨#[83, 116, 114, 105, 110, 103]⟩, .string ⟨#[66, 111, 111, 108, 101, 97, 110]⟩, .string ⟨#[73, 68]⟩, .string ⟨#[68, 97, 116, 101, 84, 105, 109, 101]⟩, .string ⟨#[85, 85, 73, 68]⟩, .string ⟨#[68, 101, 99, 105, 109, 97, 108]⟩, .string ⟨#[85, 82, 76]⟩] 9 (0, 0))) := by
  go_enter Tryz.func16, Tryz.ntmps16
  go_wp2_with fail
  go_ret
  exact ⟨rfl, rfl⟩
set_option maxRecDepth 100000 in
set_option maxHeartbeats 4000000 in
theorem sof_any (s : ByteArray) (w : World) :
    Calls Tryz.prog 8 #[.string s] w fun e w' => e = .returned (.tuple #[.int .u8 (idxS s namesL 0 + 1), .bool (decide (0 ≤ idxS s namesL 0))]) ∧ Below w.heap.size w w' := by
  have hb := idxS_le s namesL 0
  have HI : Hid (Calls Tryz.prog 15 #[.slice (some ⟨w.heap.size, 0, none⟩) 8 8, .string s] (w.alloc (.cells #[.string ⟨#[73, 110, 116]⟩, .string ⟨#[83, 116, 114, 105, 110, 103]⟩, .string ⟨#[66, 111, 111, 108, 101, 97, 110]⟩, .string ⟨#[73, 68]⟩, .string ⟨#[68, 97, 116, 101, 84, 105, 109, 101]⟩, .string ⟨#[85, 85, 73, 68]⟩, .string ⟨#[68, 101, 99, 105, 109, 97, 108]⟩, .string ⟨#[85, 82, 76]⟩] 9 (0, 0))) fun e w' => e = .returned (.int .i64 (idxS s namesL 0)) ∧ (w.alloc (.cells #[.string ⟨#[73, 110, 116]⟩, .string ⟨#[83, 116, 114, 105, 110, 103]⟩, .string ⟨#[66, 111, 111, 108, 101, 97, 110]⟩, .string ⟨#[73, 68]⟩, .string ⟨#[68, 97, 116, 101, 84, 105, 109, 101]⟩, .string ⟨#[85, 85, 73, 68]⟩, .string ⟨#[68, 101, 99, 105, 109, 97, 108]⟩, .string ⟨#[85, 82, 76]⟩] 9 (0, 0))) = w') := Lib.hid (sindex_any s namesL w.heap.size 8 _ (fun k h => by
    have h8 : k < 8 := h
    have hh : (w.alloc (.cells #[.string ⟨#[73, 110, 116]⟩, .string ⟨#[83, 116, 114, 105, 110, 103]⟩, .string ⟨#[66, 111, 111, 108, 101, 97, 110]⟩, .string ⟨#[73, 68]⟩, .string ⟨#[68, 97, 116, 101, 84, 105, 109, 101]⟩, .string ⟨#[85, 85, 73, 68]⟩, .string ⟨#[68, 101, 99, 105, 109, 97, 108]⟩, .string ⟨#[85, 82, 76]⟩] 9 (0, 0))).heap[w.heap.size]? = some (.cells #[.string ⟨#[73, 110, 116]⟩, .string ⟨#[83, 116, 114, 105, 110, 103]⟩, .string ⟨#[66, 111, 111, 108, 101, 97, 110]⟩, .string ⟨#[73, 68]⟩, .string ⟨#[68, 97, 116, 101, 84, 105, 109, 101]⟩, .string ⟨#[85, 85, 73, 68]⟩, .string ⟨#[68, 101, 99, 105, 109, 97, 108]⟩, .string ⟨#[85, 82, 76]⟩] 9 (0, 0)) := heap_new _ _ _ rfl
    rw [Lib.cell_of_heap hh]
    match k, h8 with
    | 0, _ => rfl | 1, _ => rfl | 2, _ => rfl | 3, _ => rfl | 4, _ => rfl | 5, _ => rfl | 6, _ => rfl | 7, _ => rfl) (by decide))
  obtain ⟨hb1, hb2⟩ := hb
  have hb3 : idxS s namesL 0 < 8 := by simpa [namesL] using hb2
  clear hb2
  generalize idxS s namesL 0 = r at *
  go_enter Tryz.func8, Tryz.ntmps8
  go_wp2_with fail
  refine (names_any w).mono ?_; rintro e w1 ⟨rfl, rfl⟩
  go_wp2_with fail
  refine HI.out.mono ?_; rintro e w1 ⟨rfl, rfl⟩
  go_wp2_with fail
  go_ret2
  exact ⟨rfl, (Below.refl _ _).alloc (Nat.le_refl _) _⟩
set_option maxRecDepth 100000 in
set_option maxHeartbeats 4000000 in
theorem sname_1 (w : World) :
    Calls Tryz.prog 9 #[.int .u8 1] w fun e w' => e = .returned (.tuple #[.string ⟨#[73, 110, 116]⟩, .int .i64 0]) ∧ Below w.heap.size w w' := by
  go_enter Tryz.func9, Tryz.ntmps9
  go_wp2_with fail
  refine (names_any w).mono ?_; rintro e w1 ⟨rfl, rfl⟩
  go_wp2_with fail
  refine (names_any _).mono ?_; rintro e w1 ⟨rfl, rfl⟩
  go_wp2_with fail
  go_ret2
  exact ⟨rfl, ((Below.refl _ _).alloc (Nat.le_refl _) _).alloc (by simp) _⟩
set_option maxRecDepth 100000 in
set_option maxHeartbeats 4000000 in
theorem sname_2 (w : World) :
    Calls Tryz.prog 9 #[.int .u8 2] w fun e w' => e = .returned (.tuple #[.string ⟨#[83, 116, 114, 105, 110, 103]⟩, .int .i64 0]) ∧ Below w.heap.size w w' := by
  go_enter Tryz.func9, Tryz.ntmps9
  go_wp2_with fail
  refine (names_any w).mono ?_; rintro e w1 ⟨rfl, rfl⟩
  go_wp2_with fail
  refine (names_any _).mono ?_; rintro e w1 ⟨rfl, rfl⟩
  go_wp2_with fail
  go_ret2
  exact ⟨rfl, ((Below.refl _ _).alloc (Nat.le_refl _) _).alloc (by simp) _⟩
set_option maxRecDepth 100000 in
set_option maxHeartbeats 4000000 in
theorem sname_3 (w : World) :
    Calls Tryz.prog 9 #[.int .u8 3] w fun e w' => e = .returned (.tuple #[.string ⟨#[66, 111, 111, 108, 101, 97, 110]⟩, .int .i64 0]) ∧ Below w.heap.size w w' := by
  go_enter Tryz.func9, Tryz.ntmps9
  go_wp2_with fail
  refine (names_any w).mono ?_; rintro e w1 ⟨rfl, rfl⟩
  go_wp2_with fail
  refine (names_any _).mono ?_; rintro e w1 ⟨rfl, rfl⟩
  go_wp2_with fail
  go_ret2
  exact ⟨rfl, ((Below.refl _ _).alloc (Nat.le_refl _) _).alloc (by simp) _⟩
set_option maxRecDepth 100000 in
set_option maxHeartbeats 4000000 in
theorem sname_4 (w : World) :
    Calls Tryz.prog 9 #[.int .u8 4] w fun e w' => e = .returned (.tuple #[.string ⟨#[73, 68]⟩, .int .i64 0]) ∧ Below w.heap.size w w' := by
  go_enter Tryz.func9, Tryz.ntmps9
  go_wp2_with fail
  refine (names_any w).mono ?_; rintro e w1 ⟨rfl, rfl⟩
  go_wp2_with fail
  refine (names_any _).mono ?_; rintro e w1 ⟨rfl, rfl⟩
  go_wp2_with fail
  go_ret2
  exact ⟨rfl, ((Below.refl _ _).alloc (Nat.le_refl _) _).alloc (by simp) _⟩
set_option maxRecDepth 100000 in
set_option maxHeartbeats 4000000 in
theorem sname_5 (w : World) :
    Calls Tryz.prog 9 #[.int .u8 5] w fun e w' => e = .returned (.tuple #[.string ⟨#[68, 97, 116, 101, 84, 105, 109, 101]⟩, .int .i64 0]) ∧ Below w.heap.size w w' := by
  go_enter Tryz.func9, Tryz.ntmps9
  go_wp2_with fail
  refine (names_any w).mono ?_; rintro e w1 ⟨rfl, rfl⟩
  go_wp2_with fail
  refine (names_any _).mono ?_; rintro e w1 ⟨rfl, rfl⟩
  go_wp2_with fail
  go_ret2
  exact ⟨rfl, ((Below.refl _ _).alloc (Nat.le_refl _) _).alloc (by simp) _⟩
set_option maxRecDepth 100000 in
set_option maxHeartbeats 4000000 in
theorem sname_6 (w : World) :
    Calls Tryz.prog 9 #[.int .u8 6] w fun e w' => e = .returned (.tuple #[.string ⟨#[85, 85, 73, 68]⟩, .int .i64 0]) ∧ Below w.heap.size w w' := by
  go_enter Tryz.func9, Tryz.ntmps9
  go_wp2_with fail
  refine (names_any w).mono ?_; rintro e w1 ⟨rfl, rfl⟩
  go_wp2_with fail
  refine (names_any _).mono ?_; rintro e w1 ⟨rfl, rfl⟩
  go_wp2_with fail
  go_ret2
  exact ⟨rfl, ((Below.refl _ _).alloc (Nat.le_refl _) _).alloc (by simp) _⟩
set_option maxRecDepth 100000 in
set_option maxHeartbeats 4000000 in
theorem sname_7 (w : World) :
    Calls Tryz.prog 9 #[.int .u8 7] w fun e w' => e = .returned (.tuple #[.string ⟨#[68, 101, 99, 105, 109, 97, 108]⟩, .int .i64 0]) ∧ Below w.heap.size w w' := by
  go_enter Tryz.func9, Tryz.ntmps9
  go_wp2_with fail
  refine (names_any w).mono ?_; rintro e w1 ⟨rfl, rfl⟩
  go_wp2_with fail
  refine (names_any _).mono ?_; rintro e w1 ⟨rfl, rfl⟩
  go_wp2_with fail
  go_ret2
  exact ⟨rfl, ((Below.refl _ _).alloc (Nat.le_refl _) _).alloc (by simp) _⟩
set_option maxRecDepth 100000 in
set_option maxHeartbeats 4000000 in
theorem sname_8 (w : World) :
    Calls Tryz.prog 9 #[.int .u8 8] w fun e w' => e = .returned (.tuple #[.string ⟨#[85, 82, 76]⟩, .int .i64 0]) ∧ Below w.heap.size w w' := by
  go_enter Tryz.func9, Tryz.ntmps9
  go_wp2_with fail
  refine (names_any w).mono ?_; rintro e w1 ⟨rfl, rfl⟩
  go_wp2_with fail
  refine (names_any _).mono ?_; rintro e w1 ⟨rfl, rfl⟩
  go_wp2_with fail
  go_ret2
  exact ⟨rfl, ((Below.refl _ _).alloc (Nat.le_refl _) _).alloc (by simp) _⟩
set_option maxRecDepth 100000 in
set_option maxHeartbeats 4000000 in
theorem sname_low (w : World) :
    Calls Tryz.prog 9 #[.int .u8 0] w fun e w' => e = .returned (.tuple #[.string ⟨#[]⟩, .int .i64 2]) ∧ Below w.heap.size w w' := by
  go_enter Tryz.func9, Tryz.ntmps9
  go_wp2_with fail
  go_ret2
  exact ⟨rfl, Below.refl _ _⟩
set_option maxRecDepth 100000 in
set_option maxHeartbeats 4000000 in
theorem sname_high (k : Int) (h1 : 9 ≤ k) (h2 : k ≤ 255) (w : World) :
    Calls Tryz.prog 9 #[.int .u8 k] w fun e w' => e = .returned (.tuple #[.string ⟨#[]⟩, .int .i64 2]) ∧ Below w.heap.size w w' := by
  have hk1 : decide (k < 1) = false := by simp; omega
  have hk2 : decide (8 < k) = true := by simp; omega
  go_enter Tryz.func9, Tryz.ntmps9
  go_wp2_with fail
  refine (names_any w).mono ?_; rintro e w1 ⟨rfl, rfl⟩
  go_wp2_with fail
  go_ret2
  exact ⟨rfl, ((Below.refl _ _).alloc (Nat.le_refl _) _)⟩
set_option maxRecDepth 100000 in
set_option maxHeartbeats 4000000 in
theorem tcount_no (s : ByteArray) (e0 : Int) (h0 : (e0 != 0) = true) (w : World) (H : Hid (DoesU w 22 #[.string s] (.int .i64 e0))) :
    Calls Tryz.prog 17 #[.string s] w fun e w' => e = .returned (.tuple #[.int .i64 0, .int .i64 e0]) ∧ Below w.heap.size w w' := by
  go_enter Tryz.func17, Tryz.ntmps17
  go_wp2_with fail
  refine (H.out w (Below.refl _ _)).mono ?_; rintro e w1 ⟨rfl, hb⟩
  go_wp2_with fail
  go_ret2
  exact ⟨rfl, hb⟩
set_option maxRecDepth 100000 in
set_option maxHeartbeats 4000000 in
theorem tcount_go (s : ByteArray) (hs : s.size ≤ 1000000) (w : World) (H : Hid (DoesU w 22 #[.string s] (.int .i64 0))) :
    Calls Tryz.prog 17 #[.string s] w fun e w' => e = .returned (.tuple #[.int .i64 (Lib.runeCount s), .int .i64 0]) ∧ Below w.heap.size w w' := by
  go_enter Tryz.func17, Tryz.ntmps17
  go_wp2_with fail
  refine (H.out w (Below.refl _ _)).mono ?_; rintro e w1 ⟨rfl, hb⟩
  go_wp2_with fail
  refine (Tryz.utf8_RuneCountInString s w1 (by omega)).mono ?_; rintro e w2 ⟨rfl, pos, rfl⟩
  go_wp2_with fail
  go_ret2
  exact ⟨rfl, hb.trans (by unfold World.iter; exact ((Below.refl _ _).alloc (Nat.le_refl _) _).mono hb.size)⟩
end Go.Proofs.YtpkkejcndmcbiaaGreatDoor
