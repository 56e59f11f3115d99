/- The walk through byteOf (address). -/
import Derived.Test.YtcocjmbhbddgiaaGreatDoorAn
import Derived.Shelf.Strings.SlTrimAscii
set_option linter.unusedSimpArgs false
set_option linter.unusedVariables false
namespace Go.Proofs.YtcocjmbhbddgiaaGreatDoor
open Go.RowKit
theorem sparse2_any (a b : UInt8) (ha : isHex a = true) (hb : isHex b = true) (w : World) :
    Calls Tryz.prog 67 #[.string ⟨#[a, b]⟩, .int .i64 16, .int .i64 8] w fun e w' => e = .returned (.tuple #[.int .u64 (16 * hexI a.toNat + hexI b.toNat), .nilIface]) ∧ Below w.heap.size w w' := by
  have H := Lib.hid (fun w => parse2_any a b ha hb ⟨#[a, b]⟩ rfl w)
  clear ha hb
  generalize 16 * hexI a.toNat + hexI b.toNat = n at *
  generalize (⟨#[a, b]⟩ : ByteArray) = s at *
  go_enter Tryz.func67, Tryz.ntmps67
  go_wp2_with fail
  refine (H.out _).mono ?_; rintro e w1 ⟨rfl, hb⟩
  go_wp2_with fail
  go_ret2
  exact ⟨rfl, hb⟩
def hexSet : List UInt8 := [48, 49, 50, 51, 52, 53, 54, 55, 56, 57, 97, 98, 99, 100, 101, 102, 65, 66, 67, 68, 69, 70]
theorem hexSet_iff (c : UInt8) : hexSet.contains c = isHex c := by
  refine all_bytes (f := fun c => hexSet.contains c) (g := isHex) ?_ c
  decide +kernel
theorem trimhex_any (s : ByteArray) (hs : s.size ≤ 1000000) (w : World) :
    Calls Tryz.prog 35 #[.string s, .string ⟨#[48, 49, 50, 51, 52, 53, 54, 55, 56, 57, 97, 98, 99, 100, 101, 102, 65, 66, 67, 68, 69, 70]⟩] w fun e w' => e = .returned (.string ⟨(Lib.trimS s.data.toList hexSet).toArray⟩) ∧ Below w.heap.size w w' :=
  Any.strings_Trim_laid Tryz.lays160 (by kernel_rfl) s ⟨#[48, 49, 50, 51, 52, 53, 54, 55, 56, 57, 97, 98, 99, 100, 101, 102, 65, 66, 67, 68, 69, 70]⟩ w (by omega) (by decide) (ascii_of_all (by decide))
theorem trimhex_nil (l : List UInt8) : Lib.trimS l hexSet = [] ↔ l.all isHex = true := by
  rw [trimS_nil, show (hexSet.contains ·) = isHex from funext hexSet_iff]
theorem sub2 (s : ByteArray) (h : 2 < s.size) : s.extract 1 3 = ⟨#[s[1], s[2]]⟩ := by
  apply ByteArray.ext
  apply Array.ext'
  rw [ByteArray.data_extract, Array.toList_extract, List.extract_eq_take_drop]
  have hl : s.data.toList.length = s.size := len_size s
  rw [List.drop_eq_getElem_cons (by omega), List.drop_eq_getElem_cons (by omega)]
  rfl
set_option maxRecDepth 100000 in
set_option maxHeartbeats 2000000 in
theorem byteOf_yes (s : ByteArray) (hs : s.size ≤ 1000000) (h3 : 2 < s.size) (he : esc s.data.toList = true) (w : World) :
    Calls Tryz.prog 40 #[.string s] w fun e w' => e = .returned (.tuple #[.int .u8 (16 * hexI s[1].toNat + hexI s[2].toNat), .bool true]) ∧ Below w.heap.size w w' := by
  have e0 := esc_at s 0 h3
  rw [List.drop_zero, he] at e0
  have e1 := sub2 s h3
  have hq : ((s[0].toNat : Int) == 37) = true := by
    cases q : ((s[0].toNat : Int) == 37)
    · rw [q] at e0; simp at e0
    · rfl
  rw [hq] at e0
  simp only [Bool.true_and, Nat.zero_add] at e0
  have ha : isHex s[1] = true := by
    cases q : isHex s[1]
    · rw [q] at e0; simp at e0
    · rfl
  have hb : isHex s[2] = true := by
    cases q : isHex s[2]
    · rw [q] at e0; simp at e0
    · rfl
  have HT : Hid (∀ w, Calls Tryz.prog 35 #[.string (s.extract 1 3), .string ⟨#[48, 49, 50, 51, 52, 53, 54, 55, 56, 57, 97, 98, 99, 100, 101, 102, 65, 66, 67, 68, 69, 70]⟩] w fun e w' => e = .returned (.string ⟨#[]⟩) ∧ Below w.heap.size w w') := Lib.hid (fun w => by
    have := trimhex_any (s.extract 1 3) (by rw [ByteArray.size_extract]; omega) w
    rw [(trimhex_nil _).2 (by rw [e1]; simp [ha, hb])] at this
    exact this)
  have HP := Lib.hid (fun w => sparse2_any s[1] s[2] ha hb w)
  rw [← e1] at HP
  have hv : 0 ≤ 16 * hexI s[1].toNat + hexI s[2].toNat ∧ 16 * hexI s[1].toNat + hexI s[2].toNat ≤ 255 := by
    have q1 := hexI_hex s[1]
    have q2 := hexI_hex s[2]
    rw [ha] at q1
    rw [hb] at q2
    simp at q1 q2
    omega
  obtain ⟨v1, v2⟩ := hv
  clear e0 e1 he ha hb
  have hq : (s[0].toNat : Int) = 37 := by simpa using hq
  generalize 16 * hexI s[1].toNat + hexI s[2].toNat = n at *
  go_enter Tryz.func40, Tryz.ntmps40
  go_wp2_with fail
  refine (HT.out _).mono ?_; rintro e w1 ⟨rfl, hb1⟩
  go_wp2_with fail
  refine (HP.out _).mono ?_; rintro e w2 ⟨rfl, hb2⟩
  go_wp2_with fail
  go_ret2
  exact ⟨rfl, hb1.trans (hb2.mono hb1.size)⟩
set_option maxRecDepth 100000 in
set_option maxHeartbeats 2000000 in
theorem byteOf_no (s : ByteArray) (hs : s.size ≤ 1000000) (he : esc s.data.toList = false) (w : World) :
    Calls Tryz.prog 40 #[.string s] w fun e w' => e = .returned (.tuple #[.int .u8 0, .bool false]) ∧ Below w.heap.size w w' := by
  by_cases h3 : 2 < s.size
  · have e0 := esc_at s 0 h3
    rw [List.drop_zero, he] at e0
    have e1 := sub2 s h3
    cases hq : ((s[0].toNat : Int) == 37)
    · clear e0 e1 he
      have hq : ¬ (s[0].toNat : Int) = 37 := by simpa using hq
      go_enter Tryz.func40, Tryz.ntmps40
      go_wp2_with fail
      go_ret2
      exact ⟨rfl, Below.refl _ _⟩
    · rw [hq] at e0
      simp only [Bool.true_and, Nat.zero_add] at e0
      obtain ⟨t, ht⟩ : ∃ t : ByteArray, (⟨(Lib.trimS (s.extract 1 3).data.toList hexSet).toArray⟩ : ByteArray) = t := ⟨_, rfl⟩
      have hne : ¬ t.toList = [] := by
        rw [← ht, ByteArray.toList_eq]
        intro q
        have := (trimhex_nil _).1 q
        rw [e1] at this
        simp only [List.all_cons, List.all_nil, Bool.and_true] at this
        rw [this] at e0
        cases e0
      have hne2 : t.toList.isEmpty = false := by
        cases q : t.toList
        · exact absurd q hne
        · rfl
      have HT := Lib.hid (fun w => trimhex_any (s.extract 1 3) (by rw [ByteArray.size_extract]; omega) w)
      rw [ht] at HT
      clear e0 e1 he ht
      have hq : (s[0].toNat : Int) = 37 := by simpa using hq
      go_enter Tryz.func40, Tryz.ntmps40
      go_wp2_with fail
      refine (HT.out _).mono ?_; rintro e w1 ⟨rfl, hb1⟩
      go_wp2_with fail
      go_ret2
      exact ⟨rfl, hb1⟩
  · clear he
    go_enter Tryz.func40, Tryz.ntmps40
    go_wp2_with fail
    go_ret2
    exact ⟨rfl, Below.refl _ _⟩
theorem byteOf_is : Hid (∀ (s : ByteArray) (w : World), s.size ≤ 1000000 → Calls Tryz.prog 40 #[.string s] w fun e w' => (∃ n : Int, e = .returned (.tuple #[.int .u8 n, .bool (esc s.data.toList)])) ∧ Below w.heap.size w w') := Lib.hid (by
  intro s w hs
  cases he : esc s.data.toList with
  | true =>
    have h3 : 2 < s.size := by
      by_cases q : 2 < s.size
      · exact q
      · have := esc_far s 0 q
        rw [List.drop_zero, he] at this
        cases this
    exact (byteOf_yes s hs h3 he w).mono fun e w' ⟨h1, h2⟩ => ⟨⟨_, h1⟩, h2⟩
  | false => exact (byteOf_no s hs he w).mono fun e w' ⟨h1, h2⟩ => ⟨⟨_, h1⟩, h2⟩)
end Go.Proofs.YtcocjmbhbddgiaaGreatDoor
