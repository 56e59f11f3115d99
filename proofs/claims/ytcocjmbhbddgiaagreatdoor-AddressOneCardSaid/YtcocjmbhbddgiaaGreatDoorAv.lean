/- strings.IndexAny at the two bytes "/?": every string. -/
import Derived.Test.YtcocjmbhbddgiaaGreatDoorAu
import Derived.Lib.IndexAny
import Derived.Lib.OthersKept
import Derived.Deep.LoopGhost
set_option linter.unusedSimpArgs false
set_option linter.unusedVariables false
namespace Go.Proofs.YtcocjmbhbddgiaaGreatDoor
open Go.RowKit
theorem decode_width (s : ByteArray) (i : Nat) (h : i < s.size) : (1 < (Utf8.decode s i).2 → 128 ≤ (s.get! (i + 1)).toNat) ∧ (2 < (Utf8.decode s i).2 → 128 ≤ (s.get! (i + 2)).toNat) ∧ (3 < (Utf8.decode s i).2 → 128 ≤ (s.get! (i + 3)).toNat) ∧ (Utf8.decode s i).2 ≤ 4 ∧ i + (Utf8.decode s i).2 ≤ s.size := by
  simp only [Utf8.decode]
  repeat' split
  all_goals simp_all [Utf8.runeError]
  all_goals omega
theorem get_bang (s : ByteArray) (j : Nat) (h : j < s.size) : s.get! j = s[j]'h := by
  simp [ByteArray.get!, getElem!_pos, h]
  rfl
theorem noAny_span (s : ByteArray) (i : Nat) (h : i < s.size) (ha : 128 ≤ (s[i]'h).toNat) (hn : Lib.NoAny s.data.toList [47, 63] i) : Lib.NoAny s.data.toList [47, 63] (i + (Utf8.decode s i).2) := by
  obtain ⟨w1, w2, w3, w4, w5⟩ := decode_width s i h
  intro j b hj hb
  by_cases hji : j < i
  · exact hn j b hji hb
  · have hjs : j < s.size := by omega
    have hbj : s[j]'hjs = b := by
      have : s.data.toList[j]? = some (s[j]'hjs) := by
        rw [List.getElem?_eq_getElem (by rw [Array.length_toList]; exact hjs)]; rfl
      rw [this] at hb
      exact Option.some.inj hb
    have h128 : 128 ≤ b.toNat := by
      rw [← hbj]
      obtain ⟨k, rfl⟩ : ∃ k, j = i + k := ⟨j - i, by omega⟩
      have hk : k = 0 ∨ k = 1 ∨ k = 2 ∨ k = 3 := by omega
      rcases hk with rfl | rfl | rfl | rfl
      · exact ha
      · have := w1 (by omega); rw [get_bang _ _ hjs] at this; exact this
      · have := w2 (by omega); rw [get_bang _ _ hjs] at this; exact this
      · have := w3 (by omega); rw [get_bang _ _ hjs] at this; exact this
    cases q : ([47, 63] : List UInt8).contains b
    · rfl
    · rw [List.contains_iff_mem] at q
      simp only [List.mem_cons, List.not_mem_nil, or_false] at q
      rcases q with q | q <;> (rw [q] at h128; exact absurd h128 (by decide))
/-- The string's iterator stands at a place; nothing older has turned. -/
def It (s : ByteArray) (B i : Nat) (w W : World) : Prop := W.heap[B]? = some (.stringIter s i) ∧ B < W.heap.size ∧ Below B w W
theorem It.start (s : ByteArray) (w : World) : It s w.heap.size 0 w (w.iter s 0) := by
  refine ⟨heap_alloc_new w _, ?_, ?_⟩
  · unfold World.iter; simp
  · unfold World.iter; exact (Below.refl _ _).alloc (Nat.le_refl _) _
theorem It.step {s : ByteArray} {B i : Nat} {w W : World} (h : It s B i w W) (j : Nat) : It s B j w (W.iterAt B s j) :=
  ⟨Lib.iterAt_heap W B s i j h.1, by rw [Lib.iterAt_size]; exact h.2.1, Lib.below_iterAt h.2.2 (Nat.le_refl _) s j⟩
theorem It.below {s : ByteArray} {B i : Nat} {w W w1 : World} (h : It s B i w W) (hB : B = w.heap.size) (hb : Below W.heap.size W w1) : It s B i w w1 :=
  ⟨(hb.block _ h.2.1).trans h.1, Nat.lt_of_lt_of_le h.2.1 hb.size, h.2.2.trans (hb.mono (Nat.le_of_lt h.2.1))⟩
theorem contains_has (l : List UInt8) (c : UInt8) (k : Int) (h : Lib.indexByte l c = k) (hk : 0 ≤ k) : l.contains c = true := by
  have := contains_one l c
  rw [h] at this
  rw [← this]
  simpa using hk
set_option maxRecDepth 100000 in
theorem any_short (s : ByteArray) (h8 : s.size ≤ 8) (w : World) :
    Calls Tryz.prog 14 #[.string s, .string ⟨#[47, 63]⟩] w fun e w' => e = .returned (.int .i64 (Lib.indexAny s.data.toList [47, 63])) ∧ Below w.heap.size w w' := by
  have h8z : decide ((8 : Int) < (s.size : Int)) = false := decide_eq_false (by omega)
  have HU := Lib.hid (fun (n : Int) (w : World) => Any.strings_shouldUseASCIISet { Tryz.lays153 with } n w)
  obtain ⟨r, hr⟩ : ∃ r, Lib.indexAny s.data.toList [47, 63] = r := ⟨_, rfl⟩
  have HR := Lib.hid hr
  rw [hr]
  clear hr
  go_enter Tryz.func14, Tryz.ntmps14
  go_wp2_with fail
  refine (HU.out _ _).mono ?_; rintro e w1 ⟨rfl, rfl⟩
  go_wp2_with fail
  have HS := It.start s w1
  obtain ⟨W, hW⟩ : ∃ W, w1.iter s 0 = W := ⟨_, rfl⟩
  rw [hW] at HS
  rw [hW]
  have HS2 := Lib.hid HS
  clear hW HS
  go_loopg [9, 10] s.size (fun g _ _ wx => ∃ i : Nat, i + g = s.size ∧ Hid (It s w1.heap.size i w1 wx) ∧ Hid (Lib.NoAny s.data.toList [47, 63] i))
  case atStart => exact ⟨0, by omega, HS2, Lib.hid (Lib.NoAny.zero _ _)⟩
  case round =>
    rename World => wo
    obtain ⟨i, hig, HT, HN⟩ := hrel
    by_cases hi : i < s.size
    · have hnx := fun ty => Lib.run_next_any_at (P := Tryz.prog) wo w1.heap.size s i ty HT.out.1 hi
      by_cases ha : (s[i]'hi).toNat < 128
      · rw [decode_ascii s i hi ha] at hnx
        obtain ⟨x, hx⟩ : ∃ x : UInt8, s[i]'hi = x := ⟨_, rfl⟩
        simp only [hx] at hnx ha
        have hxl : s.data.toList[i]? = some x := by
          rw [← hx, List.getElem?_eq_getElem (by rw [Array.length_toList]; exact hi)]; rfl
        have HL := Lib.hid hxl
        have HI := Lib.hid (fun w => Tryz.strings_IndexRune_ascii ⟨#[47, 63]⟩ (x.toNat : Int) w (by omega) (by omega))
        have hback : ((x.toNat : Int)).toNat.toUInt8 = x := by simp
        rw [hback, show (⟨#[47, 63]⟩ : ByteArray).data.toList = [47, 63] from rfl] at HI
        clear hx hxl hback
        have HT2 := Lib.hid (HT.out.step (i + 1))
        have hcon := contains_one [47, 63] x
        cases hin : ([47, 63] : List UInt8).contains x with
        | false =>
          rw [hin] at hcon
          have hlt : Lib.indexByte [47, 63] x < 0 := by simpa using hcon
          have HN2 := Lib.hid (HN.out.succ HL.out hin)
          clear hcon hin
          generalize Lib.indexByte [47, 63] x = q at *
          obtain ⟨g, rfl⟩ : ∃ g, gk = g + 1 := ⟨gk - 1, by omega⟩
          go_wp2_with fail
          refine (HI.out _).mono ?_; rintro e w2 ⟨rfl, rfl⟩
          go_wp2_with fail
          go_roundg g
          case measure => omega
          case rel => exact ⟨i + 1, by omega, HT2, HN2⟩
        | true =>
          rw [hin] at hcon
          have hge : 0 ≤ Lib.indexByte [47, 63] x := by simpa using hcon
          have HF : Hid ((i : Int) = r) := Lib.hid (by rw [← HR.out]; exact (Lib.indexAny_hit HN.out HL.out hin).symm)
          clear hcon hin
          generalize Lib.indexByte [47, 63] x = q at *
          go_wp2_with fail
          refine (HI.out _).mono ?_; rintro e w2 ⟨rfl, rfl⟩
          go_wp2_with fail
          go_ret
          exact ⟨ret_i HF.out, HT2.out.2.2⟩
      · have hd := decode_high s i hi (by omega)
        have hle := decode_le s i
        have hwd := (decode_width s i hi).2.2.2.2
        have HN2 := Lib.hid (noAny_span s i hi (by omega) HN.out)
        have HT2 := Lib.hid (HT.out.step (i + (Utf8.decode s i).2))
        clear HN ha
        obtain ⟨d1, d2⟩ := hd
        generalize (Utf8.decode s i).1 = c at *
        generalize (Utf8.decode s i).2 = k at *
        have HI := Lib.hid (fun w => rune_none (c : Int) (by omega) (by omega) w)
        obtain ⟨g, rfl⟩ : ∃ g, gk = g + k := ⟨gk - k, by omega⟩
        go_wp2_with fail
        refine (HI.out _).mono ?_; rintro e w2 ⟨rfl, hb⟩
        have HT3 := Lib.hid (HT2.out.below rfl hb)
        clear hb
        go_wp2_with fail
        go_roundg g
        case measure => omega
        case rel => exact ⟨i + k, by omega, HT3, HN2⟩
    · obtain rfl : i = s.size := by omega
      have hnx := fun ty => Lib.run_next_end_at (P := Tryz.prog) wo w1.heap.size s s.size ty HT.out.1 (Nat.lt_irrefl _)
      have HF : Hid ((-1 : Int) = r) := Lib.hid (by rw [← HR.out]; exact (Lib.indexAny_none (by rw [len_size]; exact HN.out)).symm)
      go_wp2_with fail
      go_ret
      exact ⟨ret_i HF.out, HT.out.2.2⟩
theorem any_any (s : ByteArray) (hs : s.size ≤ 1000000) (w : World) :
    Calls Tryz.prog 14 #[.string s, .string ⟨#[47, 63]⟩] w fun e w' => e = .returned (.int .i64 (Lib.indexAny s.data.toList [47, 63])) ∧ Below w.heap.size w w' := by
  rcases Nat.lt_or_ge 8 s.size with h | h
  · refine (Tryz.strings_IndexAny_long (fun _ => by kernel_rfl) s ⟨#[47, 63]⟩ w (by decide) h (by omega) (by decide) (ascii_of_all (by decide))).mono ?_
    rintro e w' ⟨he, rfl⟩
    exact ⟨he, ((Below.refl _ _).alloc (Nat.le_refl _) _).alloc (by simp) _⟩
  · exact any_short s h w
end Go.Proofs.YtcocjmbhbddgiaaGreatDoor
