/- The sets that address.Check and plain make: each under a name, by what it tells of a byte and of a text. -/
import Derived.Test.YtcocjmbhbddgiaaGreatDoorAo
set_option linter.unusedSimpArgs false
set_option linter.unusedVariables false
namespace Go.Proofs.YtcocjmbhbddgiaaGreatDoor
open Go.RowKit
theorem set_letters : ∃ A : Value, A = (.agg #[.int .u64 ((0 : Nat) : Int), .int .u64 ((576460743847706622 : Nat) : Int), .int .u64 ((0 : Nat) : Int), .int .u64 ((0 : Nat) : Int)]) ∧
    Hid (∀ (V : World) (b : Nat), V.cell? ⟨b, 0, none⟩ = some (.string ⟨#[97, 98, 99, 100, 101, 102, 103, 104, 105, 106, 107, 108, 109, 110, 111, 112, 113, 114, 115, 116, 117, 118, 119, 120, 121, 122]⟩) → V.cell? ⟨b, 1, none⟩ = some (.string ⟨#[65, 66, 67, 68, 69, 70, 71, 72, 73, 74, 75, 76, 77, 78, 79, 80, 81, 82, 83, 84, 85, 86, 87, 88, 89, 90]⟩) → b < V.heap.size → Calls Tryz.prog 31 #[.slice (some ⟨b, 0, none⟩) 2 2] V fun e w' => e = .returned A ∧ Below V.heap.size V w') ∧
    Hid (∀ (V : World) (c : UInt8), Calls Tryz.prog 32 #[A, .int .u8 (c.toNat : Int)] V fun e w' => e = .returned (.bool (isLet c)) ∧ Below V.heap.size V w') ∧
    Hid (∀ (V : World) (s : ByteArray), s.size ≤ 1000000 → Calls Tryz.prog 34 #[.string s, A] V fun e w' => e = .returned (.bool (madeB isLet s.data.toList)) ∧ Below V.heap.size V w') := by
  refine ⟨(.agg #[.int .u64 ((0 : Nat) : Int), .int .u64 ((576460743847706622 : Nat) : Int), .int .u64 ((0 : Nat) : Int), .int .u64 ((0 : Nat) : Int)]), rfl, Lib.hid ?_, Lib.hid ?_, Lib.hid ?_⟩
  · intro V b c0 c1 hb
    refine of_any [⟨#[97, 98, 99, 100, 101, 102, 103, 104, 105, 106, 107, 108, 109, 110, 111, 112, 113, 114, 115, 116, 117, 118, 119, 120, 121, 122]⟩, ⟨#[65, 66, 67, 68, 69, 70, 71, 72, 73, 74, 75, 76, 77, 78, 79, 80, 81, 82, 83, 84, 85, 86, 87, 88, 89, 90]⟩] b 2 rfl (by decide) (by intro s h; simp only [List.mem_cons, List.not_mem_nil, or_false] at h; rcases h with rfl | rfl <;> decide) V ?_ hb 0 576460743847706622 0 0 (Lib.hid fold_letters)
    intro i h
    match i, h with
    | 0, _ => exact c0
    | 1, _ => exact c1
    | j + 2, h => exact absurd h (by simp)
  · intro V c
    rw [← has_letters c]
    exact has_any 0 576460743847706622 0 0 (by decide) (by decide) (by decide) (by decide) c.toNat (UInt8.toNat_lt c) V
  · intro V s hs
    exact made_any byteOf_is s hs 0 576460743847706622 0 0 (by decide) (by decide) (by decide) (by decide) isLet (Lib.hid has_letters) V
theorem set_scheme : ∃ A : Value, A = (.agg #[.int .u64 ((288063250384289792 : Nat) : Int), .int .u64 ((576460743847706622 : Nat) : Int), .int .u64 ((0 : Nat) : Int), .int .u64 ((0 : Nat) : Int)]) ∧
    Hid (∀ (V : World) (b : Nat), V.cell? ⟨b, 0, none⟩ = some (.string ⟨#[97, 98, 99, 100, 101, 102, 103, 104, 105, 106, 107, 108, 109, 110, 111, 112, 113, 114, 115, 116, 117, 118, 119, 120, 121, 122]⟩) → V.cell? ⟨b, 1, none⟩ = some (.string ⟨#[65, 66, 67, 68, 69, 70, 71, 72, 73, 74, 75, 76, 77, 78, 79, 80, 81, 82, 83, 84, 85, 86, 87, 88, 89, 90]⟩) → V.cell? ⟨b, 2, none⟩ = some (.string ⟨#[48, 49, 50, 51, 52, 53, 54, 55, 56, 57]⟩) → V.cell? ⟨b, 3, none⟩ = some (.string ⟨#[43, 45, 46]⟩) → b < V.heap.size → Calls Tryz.prog 31 #[.slice (some ⟨b, 0, none⟩) 4 4] V fun e w' => e = .returned A ∧ Below V.heap.size V w') ∧
    Hid (∀ (V : World) (c : UInt8), Calls Tryz.prog 32 #[A, .int .u8 (c.toNat : Int)] V fun e w' => e = .returned (.bool (okS c)) ∧ Below V.heap.size V w') ∧
    Hid (∀ (V : World) (s : ByteArray), s.size ≤ 1000000 → Calls Tryz.prog 34 #[.string s, A] V fun e w' => e = .returned (.bool (madeB okS s.data.toList)) ∧ Below V.heap.size V w') := by
  refine ⟨(.agg #[.int .u64 ((288063250384289792 : Nat) : Int), .int .u64 ((576460743847706622 : Nat) : Int), .int .u64 ((0 : Nat) : Int), .int .u64 ((0 : Nat) : Int)]), rfl, Lib.hid ?_, Lib.hid ?_, Lib.hid ?_⟩
  · intro V b c0 c1 c2 c3 hb
    refine of_any [⟨#[97, 98, 99, 100, 101, 102, 103, 104, 105, 106, 107, 108, 109, 110, 111, 112, 113, 114, 115, 116, 117, 118, 119, 120, 121, 122]⟩, ⟨#[65, 66, 67, 68, 69, 70, 71, 72, 73, 74, 75, 76, 77, 78, 79, 80, 81, 82, 83, 84, 85, 86, 87, 88, 89, 90]⟩, ⟨#[48, 49, 50, 51, 52, 53, 54, 55, 56, 57]⟩, ⟨#[43, 45, 46]⟩] b 4 rfl (by decide) (by intro s h; simp only [List.mem_cons, List.not_mem_nil, or_false] at h; rcases h with rfl | rfl | rfl | rfl <;> decide) V ?_ hb 288063250384289792 576460743847706622 0 0 (Lib.hid fold_scheme)
    intro i h
    match i, h with
    | 0, _ => exact c0
    | 1, _ => exact c1
    | 2, _ => exact c2
    | 3, _ => exact c3
    | j + 4, h => exact absurd h (by simp)
  · intro V c
    rw [← has_scheme c]
    exact has_any 288063250384289792 576460743847706622 0 0 (by decide) (by decide) (by decide) (by decide) c.toNat (UInt8.toNat_lt c) V
  · intro V s hs
    exact made_any byteOf_is s hs 288063250384289792 576460743847706622 0 0 (by decide) (by decide) (by decide) (by decide) okS (Lib.hid has_scheme) V
theorem set_user : ∃ A : Value, A = (.agg #[.int .u64 ((3458623578763689984 : Nat) : Int), .int .u64 ((5188146764422578174 : Nat) : Int), .int .u64 ((0 : Nat) : Int), .int .u64 ((0 : Nat) : Int)]) ∧
    Hid (∀ (V : World) (b : Nat), V.cell? ⟨b, 0, none⟩ = some (.string ⟨#[97, 98, 99, 100, 101, 102, 103, 104, 105, 106, 107, 108, 109, 110, 111, 112, 113, 114, 115, 116, 117, 118, 119, 120, 121, 122, 65, 66, 67, 68, 69, 70, 71, 72, 73, 74, 75, 76, 77, 78, 79, 80, 81, 82, 83, 84, 85, 86, 87, 88, 89, 90, 48, 49, 50, 51, 52, 53, 54, 55, 56, 57, 45, 46, 95, 126]⟩) → V.cell? ⟨b, 1, none⟩ = some (.string ⟨#[33, 36, 38, 39, 40, 41, 42, 43, 44, 59, 61]⟩) → V.cell? ⟨b, 2, none⟩ = some (.string ⟨#[58]⟩) → b < V.heap.size → Calls Tryz.prog 31 #[.slice (some ⟨b, 0, none⟩) 3 3] V fun e w' => e = .returned A ∧ Below V.heap.size V w') ∧
    Hid (∀ (V : World) (c : UInt8), Calls Tryz.prog 32 #[A, .int .u8 (c.toNat : Int)] V fun e w' => e = .returned (.bool ((mayB [58]) c)) ∧ Below V.heap.size V w') ∧
    Hid (∀ (V : World) (s : ByteArray), s.size ≤ 1000000 → Calls Tryz.prog 34 #[.string s, A] V fun e w' => e = .returned (.bool (madeB (mayB [58]) s.data.toList)) ∧ Below V.heap.size V w') := by
  refine ⟨(.agg #[.int .u64 ((3458623578763689984 : Nat) : Int), .int .u64 ((5188146764422578174 : Nat) : Int), .int .u64 ((0 : Nat) : Int), .int .u64 ((0 : Nat) : Int)]), rfl, Lib.hid ?_, Lib.hid ?_, Lib.hid ?_⟩
  · intro V b c0 c1 c2 hb
    refine of_any [⟨#[97, 98, 99, 100, 101, 102, 103, 104, 105, 106, 107, 108, 109, 110, 111, 112, 113, 114, 115, 116, 117, 118, 119, 120, 121, 122, 65, 66, 67, 68, 69, 70, 71, 72, 73, 74, 75, 76, 77, 78, 79, 80, 81, 82, 83, 84, 85, 86, 87, 88, 89, 90, 48, 49, 50, 51, 52, 53, 54, 55, 56, 57, 45, 46, 95, 126]⟩, ⟨#[33, 36, 38, 39, 40, 41, 42, 43, 44, 59, 61]⟩, ⟨#[58]⟩] b 3 rfl (by decide) (by intro s h; simp only [List.mem_cons, List.not_mem_nil, or_false] at h; rcases h with rfl | rfl | rfl <;> decide) V ?_ hb 3458623578763689984 5188146764422578174 0 0 (Lib.hid fold_user)
    intro i h
    match i, h with
    | 0, _ => exact c0
    | 1, _ => exact c1
    | 2, _ => exact c2
    | j + 3, h => exact absurd h (by simp)
  · intro V c
    rw [← has_user c]
    exact has_any 3458623578763689984 5188146764422578174 0 0 (by decide) (by decide) (by decide) (by decide) c.toNat (UInt8.toNat_lt c) V
  · intro V s hs
    exact made_any byteOf_is s hs 3458623578763689984 5188146764422578174 0 0 (by decide) (by decide) (by decide) (by decide) (mayB [58]) (Lib.hid has_user) V
theorem set_host : ∃ A : Value, A = (.agg #[.int .u64 ((3170393202611978240 : Nat) : Int), .int .u64 ((5188146764422578174 : Nat) : Int), .int .u64 ((0 : Nat) : Int), .int .u64 ((0 : Nat) : Int)]) ∧
    Hid (∀ (V : World) (b : Nat), V.cell? ⟨b, 0, none⟩ = some (.string ⟨#[97, 98, 99, 100, 101, 102, 103, 104, 105, 106, 107, 108, 109, 110, 111, 112, 113, 114, 115, 116, 117, 118, 119, 120, 121, 122, 65, 66, 67, 68, 69, 70, 71, 72, 73, 74, 75, 76, 77, 78, 79, 80, 81, 82, 83, 84, 85, 86, 87, 88, 89, 90, 48, 49, 50, 51, 52, 53, 54, 55, 56, 57, 45, 46, 95, 126]⟩) → V.cell? ⟨b, 1, none⟩ = some (.string ⟨#[33, 36, 38, 39, 40, 41, 42, 43, 44, 59, 61]⟩) → b < V.heap.size → Calls Tryz.prog 31 #[.slice (some ⟨b, 0, none⟩) 2 2] V fun e w' => e = .returned A ∧ Below V.heap.size V w') ∧
    Hid (∀ (V : World) (c : UInt8), Calls Tryz.prog 32 #[A, .int .u8 (c.toNat : Int)] V fun e w' => e = .returned (.bool ((mayB []) c)) ∧ Below V.heap.size V w') ∧
    Hid (∀ (V : World) (s : ByteArray), s.size ≤ 1000000 → Calls Tryz.prog 34 #[.string s, A] V fun e w' => e = .returned (.bool (madeB (mayB []) s.data.toList)) ∧ Below V.heap.size V w') := by
  refine ⟨(.agg #[.int .u64 ((3170393202611978240 : Nat) : Int), .int .u64 ((5188146764422578174 : Nat) : Int), .int .u64 ((0 : Nat) : Int), .int .u64 ((0 : Nat) : Int)]), rfl, Lib.hid ?_, Lib.hid ?_, Lib.hid ?_⟩
  · intro V b c0 c1 hb
    refine of_any [⟨#[97, 98, 99, 100, 101, 102, 103, 104, 105, 106, 107, 108, 109, 110, 111, 112, 113, 114, 115, 116, 117, 118, 119, 120, 121, 122, 65, 66, 67, 68, 69, 70, 71, 72, 73, 74, 75, 76, 77, 78, 79, 80, 81, 82, 83, 84, 85, 86, 87, 88, 89, 90, 48, 49, 50, 51, 52, 53, 54, 55, 56, 57, 45, 46, 95, 126]⟩, ⟨#[33, 36, 38, 39, 40, 41, 42, 43, 44, 59, 61]⟩] b 2 rfl (by decide) (by intro s h; simp only [List.mem_cons, List.not_mem_nil, or_false] at h; rcases h with rfl | rfl <;> decide) V ?_ hb 3170393202611978240 5188146764422578174 0 0 (Lib.hid fold_host)
    intro i h
    match i, h with
    | 0, _ => exact c0
    | 1, _ => exact c1
    | j + 2, h => exact absurd h (by simp)
  · intro V c
    rw [← has_host c]
    exact has_any 3170393202611978240 5188146764422578174 0 0 (by decide) (by decide) (by decide) (by decide) c.toNat (UInt8.toNat_lt c) V
  · intro V s hs
    exact made_any byteOf_is s hs 3170393202611978240 5188146764422578174 0 0 (by decide) (by decide) (by decide) (by decide) (mayB []) (Lib.hid has_host) V
theorem set_path : ∃ A : Value, A = (.agg #[.int .u64 ((3458764316252045312 : Nat) : Int), .int .u64 ((5188146764422578175 : Nat) : Int), .int .u64 ((0 : Nat) : Int), .int .u64 ((0 : Nat) : Int)]) ∧
    Hid (∀ (V : World) (b : Nat), V.cell? ⟨b, 0, none⟩ = some (.string ⟨#[97, 98, 99, 100, 101, 102, 103, 104, 105, 106, 107, 108, 109, 110, 111, 112, 113, 114, 115, 116, 117, 118, 119, 120, 121, 122, 65, 66, 67, 68, 69, 70, 71, 72, 73, 74, 75, 76, 77, 78, 79, 80, 81, 82, 83, 84, 85, 86, 87, 88, 89, 90, 48, 49, 50, 51, 52, 53, 54, 55, 56, 57, 45, 46, 95, 126]⟩) → V.cell? ⟨b, 1, none⟩ = some (.string ⟨#[33, 36, 38, 39, 40, 41, 42, 43, 44, 59, 61]⟩) → V.cell? ⟨b, 2, none⟩ = some (.string ⟨#[58, 64, 47]⟩) → b < V.heap.size → Calls Tryz.prog 31 #[.slice (some ⟨b, 0, none⟩) 3 3] V fun e w' => e = .returned A ∧ Below V.heap.size V w') ∧
    Hid (∀ (V : World) (c : UInt8), Calls Tryz.prog 32 #[A, .int .u8 (c.toNat : Int)] V fun e w' => e = .returned (.bool ((mayB [58, 64, 47]) c)) ∧ Below V.heap.size V w') ∧
    Hid (∀ (V : World) (s : ByteArray), s.size ≤ 1000000 → Calls Tryz.prog 34 #[.string s, A] V fun e w' => e = .returned (.bool (madeB (mayB [58, 64, 47]) s.data.toList)) ∧ Below V.heap.size V w') := by
  refine ⟨(.agg #[.int .u64 ((3458764316252045312 : Nat) : Int), .int .u64 ((5188146764422578175 : Nat) : Int), .int .u64 ((0 : Nat) : Int), .int .u64 ((0 : Nat) : Int)]), rfl, Lib.hid ?_, Lib.hid ?_, Lib.hid ?_⟩
  · intro V b c0 c1 c2 hb
    refine of_any [⟨#[97, 98, 99, 100, 101, 102, 103, 104, 105, 106, 107, 108, 109, 110, 111, 112, 113, 114, 115, 116, 117, 118, 119, 120, 121, 122, 65, 66, 67, 68, 69, 70, 71, 72, 73, 74, 75, 76, 77, 78, 79, 80, 81, 82, 83, 84, 85, 86, 87, 88, 89, 90, 48, 49, 50, 51, 52, 53, 54, 55, 56, 57, 45, 46, 95, 126]⟩, ⟨#[33, 36, 38, 39, 40, 41, 42, 43, 44, 59, 61]⟩, ⟨#[58, 64, 47]⟩] b 3 rfl (by decide) (by intro s h; simp only [List.mem_cons, List.not_mem_nil, or_false] at h; rcases h with rfl | rfl | rfl <;> decide) V ?_ hb 3458764316252045312 5188146764422578175 0 0 (Lib.hid fold_path)
    intro i h
    match i, h with
    | 0, _ => exact c0
    | 1, _ => exact c1
    | 2, _ => exact c2
    | j + 3, h => exact absurd h (by simp)
  · intro V c
    rw [← has_path c]
    exact has_any 3458764316252045312 5188146764422578175 0 0 (by decide) (by decide) (by decide) (by decide) c.toNat (UInt8.toNat_lt c) V
  · intro V s hs
    exact made_any byteOf_is s hs 3458764316252045312 5188146764422578175 0 0 (by decide) (by decide) (by decide) (by decide) (mayB [58, 64, 47]) (Lib.hid has_path) V
theorem set_query : ∃ A : Value, A = (.agg #[.int .u64 ((12682136353106821120 : Nat) : Int), .int .u64 ((5188146764422578175 : Nat) : Int), .int .u64 ((0 : Nat) : Int), .int .u64 ((0 : Nat) : Int)]) ∧
    Hid (∀ (V : World) (b : Nat), V.cell? ⟨b, 0, none⟩ = some (.string ⟨#[97, 98, 99, 100, 101, 102, 103, 104, 105, 106, 107, 108, 109, 110, 111, 112, 113, 114, 115, 116, 117, 118, 119, 120, 121, 122, 65, 66, 67, 68, 69, 70, 71, 72, 73, 74, 75, 76, 77, 78, 79, 80, 81, 82, 83, 84, 85, 86, 87, 88, 89, 90, 48, 49, 50, 51, 52, 53, 54, 55, 56, 57, 45, 46, 95, 126]⟩) → V.cell? ⟨b, 1, none⟩ = some (.string ⟨#[33, 36, 38, 39, 40, 41, 42, 43, 44, 59, 61]⟩) → V.cell? ⟨b, 2, none⟩ = some (.string ⟨#[58, 64, 47, 63]⟩) → b < V.heap.size → Calls Tryz.prog 31 #[.slice (some ⟨b, 0, none⟩) 3 3] V fun e w' => e = .returned A ∧ Below V.heap.size V w') ∧
    Hid (∀ (V : World) (c : UInt8), Calls Tryz.prog 32 #[A, .int .u8 (c.toNat : Int)] V fun e w' => e = .returned (.bool ((mayB [58, 64, 47, 63]) c)) ∧ Below V.heap.size V w') ∧
    Hid (∀ (V : World) (s : ByteArray), s.size ≤ 1000000 → Calls Tryz.prog 34 #[.string s, A] V fun e w' => e = .returned (.bool (madeB (mayB [58, 64, 47, 63]) s.data.toList)) ∧ Below V.heap.size V w') := by
  refine ⟨(.agg #[.int .u64 ((12682136353106821120 : Nat) : Int), .int .u64 ((5188146764422578175 : Nat) : Int), .int .u64 ((0 : Nat) : Int), .int .u64 ((0 : Nat) : Int)]), rfl, Lib.hid ?_, Lib.hid ?_, Lib.hid ?_⟩
  · intro V b c0 c1 c2 hb
    refine of_any [⟨#[97, 98, 99, 100, 101, 102, 103, 104, 105, 106, 107, 108, 109, 110, 111, 112, 113, 114, 115, 116, 117, 118, 119, 120, 121, 122, 65, 66, 67, 68, 69, 70, 71, 72, 73, 74, 75, 76, 77, 78, 79, 80, 81, 82, 83, 84, 85, 86, 87, 88, 89, 90, 48, 49, 50, 51, 52, 53, 54, 55, 56, 57, 45, 46, 95, 126]⟩, ⟨#[33, 36, 38, 39, 40, 41, 42, 43, 44, 59, 61]⟩, ⟨#[58, 64, 47, 63]⟩] b 3 rfl (by decide) (by intro s h; simp only [List.mem_cons, List.not_mem_nil, or_false] at h; rcases h with rfl | rfl | rfl <;> decide) V ?_ hb 12682136353106821120 5188146764422578175 0 0 (Lib.hid fold_query)
    intro i h
    match i, h with
    | 0, _ => exact c0
    | 1, _ => exact c1
    | 2, _ => exact c2
    | j + 3, h => exact absurd h (by simp)
  · intro V c
    rw [← has_query c]
    exact has_any 12682136353106821120 5188146764422578175 0 0 (by decide) (by decide) (by decide) (by decide) c.toNat (UInt8.toNat_lt c) V
  · intro V s hs
    exact made_any byteOf_is s hs 12682136353106821120 5188146764422578175 0 0 (by decide) (by decide) (by decide) (by decide) (mayB [58, 64, 47, 63]) (Lib.hid has_query) V
theorem set_free : ∃ A : Value, A = (.agg #[.int .u64 ((288054454291267584 : Nat) : Int), .int .u64 ((5188146764422578174 : Nat) : Int), .int .u64 ((0 : Nat) : Int), .int .u64 ((0 : Nat) : Int)]) ∧
    Hid (∀ (V : World) (b : Nat), V.cell? ⟨b, 0, none⟩ = some (.string ⟨#[97, 98, 99, 100, 101, 102, 103, 104, 105, 106, 107, 108, 109, 110, 111, 112, 113, 114, 115, 116, 117, 118, 119, 120, 121, 122, 65, 66, 67, 68, 69, 70, 71, 72, 73, 74, 75, 76, 77, 78, 79, 80, 81, 82, 83, 84, 85, 86, 87, 88, 89, 90, 48, 49, 50, 51, 52, 53, 54, 55, 56, 57, 45, 46, 95, 126]⟩) → b < V.heap.size → Calls Tryz.prog 31 #[.slice (some ⟨b, 0, none⟩) 1 1] V fun e w' => e = .returned A ∧ Below V.heap.size V w') ∧
    Hid (∀ (V : World) (c : UInt8), Calls Tryz.prog 32 #[A, .int .u8 (c.toNat : Int)] V fun e w' => e = .returned (.bool (isFree c)) ∧ Below V.heap.size V w') ∧
    Hid (∀ (V : World) (s : ByteArray), s.size ≤ 1000000 → Calls Tryz.prog 34 #[.string s, A] V fun e w' => e = .returned (.bool (madeB isFree s.data.toList)) ∧ Below V.heap.size V w') := by
  refine ⟨(.agg #[.int .u64 ((288054454291267584 : Nat) : Int), .int .u64 ((5188146764422578174 : Nat) : Int), .int .u64 ((0 : Nat) : Int), .int .u64 ((0 : Nat) : Int)]), rfl, Lib.hid ?_, Lib.hid ?_, Lib.hid ?_⟩
  · intro V b c0 hb
    refine of_any [⟨#[97, 98, 99, 100, 101, 102, 103, 104, 105, 106, 107, 108, 109, 110, 111, 112, 113, 114, 115, 116, 117, 118, 119, 120, 121, 122, 65, 66, 67, 68, 69, 70, 71, 72, 73, 74, 75, 76, 77, 78, 79, 80, 81, 82, 83, 84, 85, 86, 87, 88, 89, 90, 48, 49, 50, 51, 52, 53, 54, 55, 56, 57, 45, 46, 95, 126]⟩] b 1 rfl (by decide) (by intro s h; simp only [List.mem_cons, List.not_mem_nil, or_false] at h; rcases h with rfl <;> decide) V ?_ hb 288054454291267584 5188146764422578174 0 0 (Lib.hid fold_free)
    intro i h
    match i, h with
    | 0, _ => exact c0
    | j + 1, h => exact absurd h (by simp)
  · intro V c
    rw [← has_free c]
    exact has_any 288054454291267584 5188146764422578174 0 0 (by decide) (by decide) (by decide) (by decide) c.toNat (UInt8.toNat_lt c) V
  · intro V s hs
    exact made_any byteOf_is s hs 288054454291267584 5188146764422578174 0 0 (by decide) (by decide) (by decide) (by decide) isFree (Lib.hid has_free) V
end Go.Proofs.YtcocjmbhbddgiaaGreatDoor
