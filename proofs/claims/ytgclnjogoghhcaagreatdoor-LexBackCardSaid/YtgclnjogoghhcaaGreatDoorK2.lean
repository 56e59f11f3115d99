/- Walks and plain laws of this proof, joined from smaller texts (2). -/
import Derived.Shelf.Strings.SlTrimAscii
import Derived.Lib.IndexAny
import Derived.Lib.OthersKept
import Derived.Deep.LoopGhost
import Derived.Test.YtgclnjogoghhcaaGreatDoorShelf
import Derived.IntWalk
import Derived.LoopTactic
import Derived.Deep.QuietTactic
import Derived.BigQuiet
import Derived.Deep.RegionHeld3
import Derived.Outline
import Derived.Test.YtgclnjogoghhcaaGreatDoorShelh
import Derived.Lib.MapLaws
import Derived.Laws.EntriesVeiled
import Derived.Maps.AppendAt
import Derived.Laws.OwnMore
import Derived.Laws.AppendOwnNone
import Derived.StillTailTactics
import Derived.Test.YtgclnjogoghhcaaGreatDoorRows
import Derived.WalkKit
import Derived.WalkSpells
import Derived.Handy
import Derived.Lib.Hide
import Derived.Deep.Light
import Derived.Deep.RegionWith
import Derived.Deep.Draws
import Derived.Test.YtgclnjogoghhcaaGreatDoorK1
set_option linter.unusedSimpArgs false
set_option linter.unusedVariables false
namespace Go.Proofs.YtgclnjogoghhcaaGreatDoor
open Go.Lib
/-- Is a rune one of those that count for nothing? -/
def setC (r : Nat) : Bool := r == 32 || r == 9 || r == 13 || r == 10 || r == 44 || r == 65279
theorem decode_high (c : UInt8) (r : List UInt8) (h : 128 ≤ c.toNat) : 128 ≤ (decodeL (c :: r)).1 := by
  by_cases hv : (decodeL (c :: r)).1 = 65533 ∧ (decodeL (c :: r)).2 = 1
  · omega
  · obtain ⟨g1, g2, g3, g4⟩ := one_decode (c :: r) (by simp) hv
    unfold oneB at g1
    simp only [Bool.and_eq_true, decide_eq_true_eq, beq_iff_eq] at g1
    rw [g2] at g1
    by_cases hp : (decodeL (c :: r)).1 < 128
    · exfalso
      have he := g1.2.2
      obtain ⟨j, hj⟩ : ∃ j, (decodeL (c :: r)).2 = j + 1 := ⟨(decodeL (c :: r)).2 - 1, by omega⟩
      rw [hj, List.take_succ_cons] at he
      unfold encN at he
      rw [if_pos hp] at he
      injection he with he _
      rw [← he, ofN _ (by omega)] at h
      omega
    · omega
theorem bom_decode (l : List UInt8) : (bomL.isPrefixOf l = true → decodeL l = (65279, 3)) ∧ ((decodeL l).1 = 65279 → bomL.isPrefixOf l = true) := by
  have he : encN 65279 = bomL := by decide +kernel
  constructor
  · intro h
    obtain ⟨z, rfl⟩ := List.isPrefixOf_iff_prefix.1 h
    have := decode_enc 65279 (by decide) z
    rw [he] at this
    exact this
  · intro h
    have hne : l ≠ [] := by
      intro e
      subst e
      exact absurd h (by decide +kernel)
    obtain ⟨g1, g2, g3, g4⟩ := one_decode l hne (fun hh => by rw [h] at hh; exact absurd hh.1 (by decide))
    unfold oneB at g1
    simp only [Bool.and_eq_true, decide_eq_true_eq, beq_iff_eq] at g1
    rw [g2, h] at g1
    have h2 := g1.2.2
    rw [he] at h2
    exact List.isPrefixOf_iff_prefix.2 ⟨l.drop (decodeL l).2, by rw [h2, List.take_append_drop]⟩
/-- One step of the trimming. -/
theorem hid_rune (c : UInt8) (r : List UInt8) : hid0 (c :: r) = if setC (decodeL (c :: r)).1 then hid0 ((c :: r).drop (decodeL (c :: r)).2) else c :: r := by
  rw [hid_cons]
  by_cases h128 : c.toNat < 128
  · rw [decode_ascii c r h128]
    have hpre : bomL.isPrefixOf (c :: r) = false := by
      have : ((239 : UInt8) == c) = false := beq_eq_false_iff_ne.2 (fun e => by rw [← e] at h128; exact absurd h128 (by decide))
      simp [bomL, List.isPrefixOf, this]
    have hs : setC c.toNat = hidC c := by
      have hall := (by decide +kernel : ∀ i : Fin 256, i.val < 128 → (setC (UInt8.ofNat i.val).toNat = hidC (UInt8.ofNat i.val))) ⟨c.toNat, UInt8.toNat_lt c⟩ h128
      simpa only [UInt8.ofNat_toNat] using hall
    rw [hpre, hs]
    simp only [Bool.false_eq_true, if_false, List.drop_succ_cons, List.drop_zero]
  · have hc : hidC c = false := by
      have hall := (by decide +kernel : ∀ i : Fin 256, ¬ i.val < 128 → hidC (UInt8.ofNat i.val) = false) ⟨c.toNat, UInt8.toNat_lt c⟩ h128
      simpa only [UInt8.ofNat_toNat] using hall
    rw [hc]
    simp only [Bool.false_eq_true, if_false]
    have hh := decode_high c r (by omega)
    obtain ⟨b1, b2⟩ := bom_decode (c :: r)
    by_cases hb : bomL.isPrefixOf (c :: r) = true
    · rw [if_pos hb, b1 hb, if_pos (by decide)]
    · rw [if_neg hb, if_neg]
      intro hs
      unfold setC at hs
      simp only [Bool.or_eq_true, beq_iff_eq] at hs
      rcases hs with ((((e | e) | e) | e) | e) | e
      · omega
      · omega
      · omega
      · omega
      · omega
      · exact hb (b2 e)
end Go.Proofs.YtgclnjogoghhcaaGreatDoor
namespace Go.Proofs.YtgclnjogoghhcaaGreatDoor
open Go.RowKit
theorem holds_one (l : List UInt8) (c : UInt8) : decide (0 ≤ Lib.indexByte l c) = l.contains c := by
  rcases ib_cases c l with ⟨h1, k, h2⟩ | ⟨h1, h2⟩
  · rw [h1, h2]; simp
  · rw [h1, h2]; rfl
theorem decode_width (s : ByteArray) (i : Nat) (h : i < s.size) : (1 < (Utf8.decode s i).2 → 128 ≤ (s.get! (i + 1)).toNat) ∧ (2 < (Utf8.decode s i).2 → 128 ≤ (s.get! (i + 2)).toNat) ∧ (3 < (Utf8.decode s i).2 → 128 ≤ (s.get! (i + 3)).toNat) ∧ (Utf8.decode s i).2 ≤ 4 ∧ i + (Utf8.decode s i).2 ≤ s.size := by
  simp only [Utf8.decode]
  repeat' split
  all_goals simp_all [Utf8.runeError]
  all_goals omega
theorem get_bang (s : ByteArray) (j : Nat) (h : j < s.size) : s.get! j = s[j]'h := by
  simp [ByteArray.get!, getElem!_pos, h]
  rfl
theorem noAny_span (s : ByteArray) (i : Nat) (h : i < s.size) (ha : 128 ≤ (s[i]'h).toNat) (hn : Lib.NoAny s.data.toList [13, 10] i) : Lib.NoAny s.data.toList [13, 10] (i + (Utf8.decode s i).2) := by
  obtain ⟨w1, w2, w3, w4, w5⟩ := decode_width s i h
  intro j b hj hb
  by_cases hji : j < i
  · exact hn j b hji hb
  · have hjs : j < s.size := by omega
    have hbj : s[j]'hjs = b := by
      have : s.data.toList[j]? = some (s[j]'hjs) := by
        rw [List.getElem?_eq_getElem (by rw [Array.length_toList]; exact hjs)]; rfl
      rw [this] at hb
      exact Option.some.inj hb
    have h128 : 128 ≤ b.toNat := by
      rw [← hbj]
      obtain ⟨k, rfl⟩ : ∃ k, j = i + k := ⟨j - i, by omega⟩
      have hk : k = 0 ∨ k = 1 ∨ k = 2 ∨ k = 3 := by omega
      rcases hk with rfl | rfl | rfl | rfl
      · exact ha
      · have := w1 (by omega); rw [get_bang _ _ hjs] at this; exact this
      · have := w2 (by omega); rw [get_bang _ _ hjs] at this; exact this
      · have := w3 (by omega); rw [get_bang _ _ hjs] at this; exact this
    cases q : ([13, 10] : List UInt8).contains b
    · rfl
    · rw [List.contains_iff_mem] at q
      simp only [List.mem_cons, List.not_mem_nil, or_false] at q
      rcases q with q | q <;> (rw [q] at h128; exact absurd h128 (by decide))
/-- The string's iterator stands at a place; nothing older has turned. -/
def It (s : ByteArray) (B i : Nat) (w W : World) : Prop := W.heap[B]? = some (.stringIter s i) ∧ B < W.heap.size ∧ Below B w W
theorem It.start (s : ByteArray) (w : World) : It s w.heap.size 0 w (w.iter s 0) := by
  refine ⟨heap_alloc_new w _, ?_, ?_⟩
  · unfold World.iter; simp
  · unfold World.iter; exact (Below.refl _ _).alloc (Nat.le_refl _) _
theorem It.step {s : ByteArray} {B i : Nat} {w W : World} (h : It s B i w W) (j : Nat) : It s B j w (W.iterAt B s j) :=
  ⟨Lib.iterAt_heap W B s i j h.1, by rw [Lib.iterAt_size]; exact h.2.1, Lib.below_iterAt h.2.2 (Nat.le_refl _) s j⟩
theorem It.below {s : ByteArray} {B i : Nat} {w W w1 : World} (h : It s B i w W) (hB : B = w.heap.size) (hb : Below W.heap.size W w1) : It s B i w w1 :=
  ⟨(hb.block _ h.2.1).trans h.1, Nat.lt_of_lt_of_le h.2.1 hb.size, h.2.2.trans (hb.mono (Nat.le_of_lt h.2.1))⟩
set_option maxRecDepth 100000 in
theorem any_short (s : ByteArray) (h8 : s.size ≤ 8) (w : World) :
    Calls Tryz.prog 30 #[.string s, .string ⟨#[13, 10]⟩] w fun e w' => e = .returned (.int .i64 (Lib.indexAny s.data.toList [13, 10])) ∧ Below w.heap.size w w' := by
  have h8z : decide ((8 : Int) < (s.size : Int)) = false := decide_eq_false (by omega)
  have HU := Lib.hid (fun (n : Int) (w : World) => Any.strings_shouldUseASCIISet { Tryz.lays153 with } n w)
  obtain ⟨r, hr⟩ : ∃ r, Lib.indexAny s.data.toList [13, 10] = r := ⟨_, rfl⟩
  have HR := Lib.hid hr
  rw [hr]
  clear hr
  go_enter Tryz.func30, Tryz.ntmps30
  go_wp2_with fail
  refine (HU.out _ _).mono ?_; rintro e w1 ⟨rfl, rfl⟩
  go_wp2_with fail
  have HS := It.start s w1
  obtain ⟨W, hW⟩ : ∃ W, w1.iter s 0 = W := ⟨_, rfl⟩
  rw [hW] at HS
  rw [hW]
  have HS2 := Lib.hid HS
  clear hW HS
  go_loopg [9, 10] s.size (fun g _ _ wx => ∃ i : Nat, i + g = s.size ∧ Hid (It s w1.heap.size i w1 wx) ∧ Hid (Lib.NoAny s.data.toList [13, 10] i))
  case atStart => exact ⟨0, by omega, HS2, Lib.hid (Lib.NoAny.zero _ _)⟩
  case round =>
    rename World => wo
    obtain ⟨i, hig, HT, HN⟩ := hrel
    by_cases hi : i < s.size
    · have hnx := fun ty => Lib.run_next_any_at (P := Tryz.prog) wo w1.heap.size s i ty HT.out.1 hi
      by_cases ha : (s[i]'hi).toNat < 128
      · rw [Go.decode_ascii s i hi ha] at hnx
        obtain ⟨x, hx⟩ : ∃ x : UInt8, s[i]'hi = x := ⟨_, rfl⟩
        simp only [hx] at hnx ha
        have hxl : s.data.toList[i]? = some x := by
          rw [← hx, List.getElem?_eq_getElem (by rw [Array.length_toList]; exact hi)]; rfl
        have HL := Lib.hid hxl
        have HI := Lib.hid (fun w => Tryz.strings_IndexRune_ascii ⟨#[13, 10]⟩ (x.toNat : Int) w (by omega) (by omega))
        have hback : ((x.toNat : Int)).toNat.toUInt8 = x := by simp
        rw [hback, show (⟨#[13, 10]⟩ : ByteArray).data.toList = [13, 10] from rfl] at HI
        clear hx hxl hback
        have HT2 := Lib.hid (HT.out.step (i + 1))
        have hcon := holds_one [13, 10] x
        cases hin : ([13, 10] : List UInt8).contains x with
        | false =>
          rw [hin] at hcon
          have hlt : Lib.indexByte [13, 10] x < 0 := by simpa using hcon
          have HN2 := Lib.hid (HN.out.succ HL.out hin)
          clear hcon hin
          generalize Lib.indexByte [13, 10] x = q at *
          obtain ⟨g, rfl⟩ : ∃ g, gk = g + 1 := ⟨gk - 1, by omega⟩
          go_wp2_with fail
          refine (HI.out _).mono ?_; rintro e w2 ⟨rfl, rfl⟩
          go_wp2_with fail
          go_roundg g
          case measure => omega
          case rel => exact ⟨i + 1, by omega, HT2, HN2⟩
        | true =>
          rw [hin] at hcon
          have hge : 0 ≤ Lib.indexByte [13, 10] x := by simpa using hcon
          have HF : Hid ((i : Int) = r) := Lib.hid (by rw [← HR.out]; exact (Lib.indexAny_hit HN.out HL.out hin).symm)
          clear hcon hin
          generalize Lib.indexByte [13, 10] x = q at *
          go_wp2_with fail
          refine (HI.out _).mono ?_; rintro e w2 ⟨rfl, rfl⟩
          go_wp2_with fail
          go_ret
          exact ⟨ret_i HF.out, HT2.out.2.2⟩
      · have hd := Go.decode_high s i hi (by omega)
        have hle := decode_le s i
        have hwd := (decode_width s i hi).2.2.2.2
        have HN2 := Lib.hid (noAny_span s i hi (by omega) HN.out)
        have HT2 := Lib.hid (HT.out.step (i + (Utf8.decode s i).2))
        clear HN ha
        obtain ⟨d1, d2⟩ := hd
        generalize (Utf8.decode s i).1 = c at *
        generalize (Utf8.decode s i).2 = k at *
        have HI := Lib.hid (fun w => rune_none (c : Int) (by omega) (by omega) w)
        obtain ⟨g, rfl⟩ : ∃ g, gk = g + k := ⟨gk - k, by omega⟩
        go_wp2_with fail
        refine (HI.out _).mono ?_; rintro e w2 ⟨rfl, hb⟩
        have HT3 := Lib.hid (HT2.out.below rfl hb)
        clear hb
        go_wp2_with fail
        go_roundg g
        case measure => omega
        case rel => exact ⟨i + k, by omega, HT3, HN2⟩
    · obtain rfl : i = s.size := by omega
      have hnx := fun ty => Lib.run_next_end_at (P := Tryz.prog) wo w1.heap.size s s.size ty HT.out.1 (Nat.lt_irrefl _)
      have HF : Hid ((-1 : Int) = r) := Lib.hid (by rw [← HR.out]; exact (Lib.indexAny_none (by rw [len_z]; exact HN.out)).symm)
      go_wp2_with fail
      go_ret
      exact ⟨ret_i HF.out, HT.out.2.2⟩
theorem any_any (s : ByteArray) (hs : s.size ≤ 1000000) (w : World) :
    Calls Tryz.prog 30 #[.string s, .string ⟨#[13, 10]⟩] w fun e w' => e = .returned (.int .i64 (Lib.indexAny s.data.toList [13, 10])) ∧ Below w.heap.size w w' := by
  rcases Nat.lt_or_ge 8 s.size with h | h
  · refine (Tryz.strings_IndexAny_long (fun _ => by kernel_rfl) s ⟨#[13, 10]⟩ w (by decide) h (by omega) (by decide) (ascii_of_all (by decide))).mono ?_
    rintro e w' ⟨he, rfl⟩
    exact ⟨he, ((Below.refl _ _).alloc (Nat.le_refl _) _).alloc (by simp) _⟩
  · exact any_short s h w
end Go.Proofs.YtgclnjogoghhcaaGreatDoor
namespace Go.Proofs.YtgclnjogoghhcaaGreatDoor
open Go.RowKit
def fr (ms l : List UInt8) : List UInt8 := l.takeWhile (ms.contains ·)
theorem fr_take (ms l : List UInt8) : l.take (fr ms l).length = fr ms l := by
  unfold fr
  induction l with
  | nil => rfl
  | cons a l ih =>
    rw [List.takeWhile_cons]
    split
    · simp only [List.length_cons, List.take_succ_cons]; rw [ih]
    · rfl
set_option maxRecDepth 100000 in
set_option maxHeartbeats 1000000 in
theorem front_any (s ms : ByteArray) (hs : s.size ≤ 1000000) (w : World) :
    Calls Tryz.prog 22 #[.string s, .string ms] w fun e w' => e = .returned (.string ⟨(fr ms.data.toList s.data.toList).toArray⟩) ∧ w = w' := by
  obtain ⟨R, hR⟩ : ∃ R, (fr ms.data.toList s.data.toList).length = R := ⟨_, rfl⟩
  have ht := fr_take ms.data.toList s.data.toList
  rw [hR] at ht
  have HT := Lib.hid ht
  have HR : Hid (0 + (fr ms.data.toList (s.data.toList.drop 0)).length = R) := Lib.hid (by rw [List.drop_zero, Nat.zero_add]; exact hR)
  rw [← ht]
  clear hR ht
  go_enter Tryz.func22, Tryz.ntmps22
  go_wp2_with fail
  go_loop [8] (fun i => ∃ k : Nat, k ≤ s.size ∧ i = .int .i64 k ∧ Hid (k + (fr ms.data.toList (s.data.toList.drop k)).length = R)) (fun i => s.size - (intOf i).toNat)
  case atStart => exact ⟨0, Nat.zero_le _, rfl, HR⟩
  case round =>
    obtain ⟨k, hk, rfl, HK⟩ := hrel
    by_cases hlt : k < s.size
    · have hd := drop_at s k hlt
      have H1 : ∀ w, Calls Tryz.prog 21 #[.string ms, .int .u8 (s[k].toNat : Int)] w fun e w' => e = .returned (.int .i64 (Lib.indexByte ms.data.toList s[k])) ∧ w = w' := fun w => by
        have := Tryz.strings_IndexByte ms (s[k].toNat : Int) w
        rw [show ((s[k].toNat : Int)).toNat.toUInt8 = s[k] by simp] at this
        exact this.mono fun e w' ⟨h1, h2⟩ => ⟨h1, h2.symm⟩
      have hf : fr ms.data.toList (s.data.toList.drop k) = if ms.data.toList.contains s[k] then s[k] :: fr ms.data.toList (s.data.toList.drop (k + 1)) else [] := by
        rw [hd]; unfold fr; rw [List.takeWhile_cons]
      rcases ib_cases s[k] ms.data.toList with ⟨g1, n, g2⟩ | ⟨g1, g2⟩
      · rw [g1] at hf
        rw [g2] at H1
        have HK2 : Hid (k + 1 + (fr ms.data.toList (s.data.toList.drop (k + 1))).length = R) := Lib.hid (by have := HK.out; rw [hf] at this; simp at this; omega)
        have HI := Lib.hid H1
        have hn : ¬ (n : Int) < 0 := by omega
        clear hf H1 g1 g2 hd
        go_wp2_with fail
        refine (HI.out _).mono ?_; rintro e w1 ⟨rfl, rfl⟩
        go_wp2_with fail
        go_round
        case rel => exact ⟨k + 1, by omega, by go_num, HK2⟩
        case measure => simp [intOf]; omega
      · rw [g1] at hf
        rw [g2] at H1
        have HK2 : Hid (k = R) := Lib.hid (by have := HK.out; rw [hf] at this; simpa using this)
        have HI := Lib.hid H1
        have b1 : (k : Int) ≤ s.size := by omega
        have b2 : (0 : Int) ≤ k := by omega
        have HX : Hid (s.extract 0 k = ⟨(s.data.toList.take R).toArray⟩) := Lib.hid (by
          rw [← HK2.out]
          apply ByteArray.ext
          apply Array.ext'
          rw [ByteArray.data_extract, Array.toList_extract, List.extract_eq_take_drop]
          simp)
        clear hf H1 g1 g2 hd
        go_wp2_with fail
        refine (HI.out _).mono ?_; rintro e w1 ⟨rfl, rfl⟩
        go_wp2_with fail
        go_ret
        exact ⟨congrArg (fun z : ByteArray => Ending.returned (Value.string z)) HX.out, rfl⟩
    · have HX : Hid (s = ⟨(s.data.toList.take R).toArray⟩) := Lib.hid (by
        have := HK.out
        rw [List.drop_of_length_le (by rw [Array.length_toList]; exact Nat.le_of_not_lt hlt)] at this
        have hRs : s.size ≤ R := by simp [fr] at this; omega
        rw [List.take_of_length_le (by rw [Array.length_toList]; exact hRs)])
      go_wp2_with fail
      go_ret
      exact ⟨congrArg (fun z : ByteArray => Ending.returned (Value.string z)) HX.out, rfl⟩
end Go.Proofs.YtgclnjogoghhcaaGreatDoor
namespace Go.Proofs.YtgclnjogoghhcaaGreatDoor
open Go.RowKit
theorem fr_all (ms l : List UInt8) : (fr ms l == l) = l.all (ms.contains ·) := by
  unfold fr
  induction l with
  | nil => rfl
  | cons a l ih =>
    rw [List.takeWhile_cons, List.all_cons]
    cases ms.contains a with
    | true => simpa using ih
    | false => rfl
set_option maxRecDepth 100000 in
set_option maxHeartbeats 1000000 in
theorem lname_any (s : ByteArray) (hs : s.size ≤ 1000000) (w : World) :
    Calls Tryz.prog 13 #[.string s] w fun e w' => e = .returned (.bool (nameB s.data.toList)) ∧ w = w' := by
  rcases empty_z s with ⟨h0, h1, h2, h3⟩ | ⟨h0, h1, h2, h3⟩
  · have hr : nameB s.data.toList = (!isDig s[0] && (fr nameMs s.data.toList == s.data.toList)) := by
      rw [fr_all, show (nameMs.contains ·) = nameC from funext name_ms]
      have := head_z s h0
      rw [this]; rfl
    have H1 : ∀ w, Calls Tryz.prog 21 #[.string ⟨#[48, 49, 50, 51, 52, 53, 54, 55, 56, 57]⟩, .int .u8 (s[0].toNat : Int)] w fun e w' => e = .returned (.int .i64 (if isDig s[0] then ((s[0].toNat - 48 : Nat) : Int) else -1)) ∧ w = w' := fun w => by
      have := Tryz.strings_IndexByte ⟨#[48, 49, 50, 51, 52, 53, 54, 55, 56, 57]⟩ (s[0].toNat : Int) w
      rw [show ((s[0].toNat : Int)).toNat.toUInt8 = s[0] by simp, ib_dig] at this
      exact this.mono fun e w' ⟨h1, h2⟩ => ⟨h1, h2.symm⟩
    have H2 := Lib.hid (fun w => front_any s ⟨nameMs.toArray⟩ hs w)
    obtain ⟨r, hr2⟩ : ∃ r, nameB s.data.toList = r := ⟨_, rfl⟩
    rw [hr2]
    rw [hr2] at hr
    obtain ⟨F, hF⟩ : ∃ F : ByteArray, (⟨(fr (⟨nameMs.toArray⟩ : ByteArray).data.toList s.data.toList).toArray⟩ : ByteArray) = F := ⟨_, rfl⟩
    rw [hF] at H2
    have hc : (F.toList == s.toList) = (fr nameMs s.data.toList == s.data.toList) := by rw [← hF, ByteArray.toList_eq, ByteArray.toList_eq]
    rw [← hc] at hr
    have HR := Lib.hid hr
    unfold nameMs at H2
    clear hr hr2 hF hc
    cases hd : isDig s[0] with
    | true =>
      rw [hd] at H1 HR
      simp only [if_true] at H1
      have HI := Lib.hid H1
      have HF : Hid (false = r) := Lib.hid (by rw [HR.out]; rfl)
      clear H1 HR hd
      generalize s[0].toNat - 48 = n at *
      have hn : ¬ (n : Int) < 0 := by omega
      go_enter Tryz.func13, Tryz.ntmps13
      go_wp2_with fail
      refine (HI.out _).mono ?_; rintro e w1 ⟨rfl, rfl⟩
      go_wp2_with fail
      go_ret
      exact ⟨ret_b HF.out, rfl⟩
    | false =>
      rw [hd] at H1 HR
      simp only [Bool.false_eq_true, if_false] at H1
      have HI := Lib.hid H1
      have HF : Hid ((F.toList == s.toList) = r) := Lib.hid (by rw [HR.out]; rfl)
      clear H1 HR hd
      go_enter Tryz.func13, Tryz.ntmps13
      go_wp2_with fail
      refine (HI.out _).mono ?_; rintro e w1 ⟨rfl, rfl⟩
      go_wp2_with fail
      refine (H2.out _).mono ?_; rintro e w1 ⟨rfl, rfl⟩
      go_wp2_with fail
      go_ret
      exact ⟨ret_b HF.out, rfl⟩
  · have hr : nameB s.data.toList = false := by rw [h3]; rfl
    rw [hr]
    clear h0 h3 hr
    go_enter Tryz.func13, Tryz.ntmps13
    go_wp2_with fail
    go_ret
    exact ⟨rfl, rfl⟩
theorem dig_ms (c : UInt8) : ([48, 49, 50, 51, 52, 53, 54, 55, 56, 57] : List UInt8).contains c = isDig c := by
  have := all256' (f := fun c => ([48, 49, 50, 51, 52, 53, 54, 55, 56, 57] : List UInt8).contains c == isDig c) (by decide +kernel) c
  simpa using this
set_option maxRecDepth 100000 in
set_option maxHeartbeats 1000000 in
theorem lnumber_any (s : ByteArray) (hs : s.size ≤ 1000000) (w : World) :
    Calls Tryz.prog 25 #[.string s] w fun e w' => e = .returned (.bool (okDigits (body s.data.toList))) ∧ w = w' := by
  have H1 : ∀ w, Calls Tryz.prog 37 #[.string s, .string ⟨#[45]⟩] w fun e w' => e = .returned (.string ⟨(body s.data.toList).toArray⟩) ∧ w = w' := fun w => by
    have := Tryz.strings_TrimPrefix s ⟨#[45]⟩ w
    rw [show (⟨#[45]⟩ : ByteArray).data.toList = [45] from rfl, trimPrefix_dash] at this
    exact this.mono fun e w' ⟨h1, h2⟩ => ⟨h1, h2.symm⟩
  have hbl : (body s.data.toList).length ≤ s.size := by
    have := len_z s
    unfold body
    split
    · rw [List.length_tail]; omega
    · omega
  obtain ⟨B, hB⟩ : ∃ B : ByteArray, (⟨(body s.data.toList).toArray⟩ : ByteArray) = B := ⟨_, rfl⟩
  have hBl : body s.data.toList = B.data.toList := by rw [← hB]
  rw [hB] at H1
  rw [hBl] at hbl ⊢
  rw [len_z] at hbl
  have HI := Lib.hid H1
  clear H1 hB hBl
  obtain ⟨r, hr⟩ : ∃ r, okDigits B.data.toList = r := ⟨_, rfl⟩
  rw [hr]
  rcases empty_z B with ⟨h0, h1, h2, h3⟩ | ⟨h0, h1, h2, h3⟩
  · have H2 := Lib.hid (fun w => front_any B ⟨#[48, 49, 50, 51, 52, 53, 54, 55, 56, 57]⟩ (by omega) w)
    have hz := head_z B h0
    have hall := fr_all [48, 49, 50, 51, 52, 53, 54, 55, 56, 57] B.data.toList
    rw [show ((([48, 49, 50, 51, 52, 53, 54, 55, 56, 57] : List UInt8)).contains ·) = isDig from funext dig_ms] at hall
    obtain ⟨F, hF⟩ : ∃ F : ByteArray, (⟨(fr (⟨#[48, 49, 50, 51, 52, 53, 54, 55, 56, 57]⟩ : ByteArray).data.toList B.data.toList).toArray⟩ : ByteArray) = F := ⟨_, rfl⟩
    rw [hF] at H2
    have hc : (F.toList == B.toList) = B.data.toList.all isDig := by rw [← hall, ← hF, ByteArray.toList_eq, ByteArray.toList_eq]
    have hne : B.data.toList.isEmpty = false := by rw [hz]; rfl
    have hhd : B.data.toList.head? = some B[0] := by rw [hz]; rfl
    have hone : (B.toList == [48]) = (B[0] == 48 && decide (B.size = 1)) := by
      rw [ByteArray.toList_eq]
      have hl := len_z B
      rw [hz] at hl ⊢
      simp only [List.length_cons] at hl
      rw [Bool.eq_iff_iff]
      simp only [beq_iff_eq, List.cons.injEq, Bool.and_eq_true, decide_eq_true_eq]
      constructor
      · rintro ⟨a, b⟩; rw [b] at hl; exact ⟨a, by simp at hl; omega⟩
      · rintro ⟨a, b⟩; exact ⟨a, List.eq_nil_of_length_eq_zero (by omega)⟩
    unfold okDigits digitsB at hr
    rw [hne, hhd, ← hc, len_z] at hr
    clear hz hall hF hc hne hhd
    cases ha : (F.toList == B.toList) with
    | false =>
      have HF : Hid (false = r) := Lib.hid (by rw [← hr, ha]; rfl)
      clear hr hone
      go_enter Tryz.func25, Tryz.ntmps25
      go_wp2_with fail
      refine (HI.out _).mono ?_; rintro e w1 ⟨rfl, rfl⟩
      go_wp2_with fail
      refine (H2.out _).mono ?_; rintro e w1 ⟨rfl, rfl⟩
      go_wp2_with fail
      go_ret
      exact ⟨ret_b HF.out, rfl⟩
    | true =>
      rw [ha] at hr
      by_cases h48 : B[0] = 48
      · have HF : Hid ((B.toList == [48]) = r) := Lib.hid (by
          rw [← hr, hone, h48]
          have : decide (B.size = 1) = !decide (1 < B.size) := by rw [Bool.eq_iff_iff]; simp; omega
          rw [this]; simp)
        have e1 : ((B[0].toNat : Int) != 48) = false := by rw [h48]; rfl
        have e2 : ((B[0].toNat : Int) == 48) = true := by rw [h48]; rfl
        clear hr hone h48
        go_enter Tryz.func25, Tryz.ntmps25
        go_wp2_with fail
        refine (HI.out _).mono ?_; rintro e w1 ⟨rfl, rfl⟩
        go_wp2_with fail
        refine (H2.out _).mono ?_; rintro e w1 ⟨rfl, rfl⟩
        go_wp2_with fail
        go_ret
        exact ⟨ret_b HF.out, rfl⟩
      · have HF : Hid (true = r) := Lib.hid (by
          rw [← hr]
          have : (some B[0] == some (48 : UInt8)) = false := by simpa using h48
          rw [this]; rfl)
        have e0 : ¬ (B[0].toNat : Int) = 48 := fun e => h48 (UInt8.toNat_inj.1 (by show B[0].toNat = 48; omega))
        have e1 : ((B[0].toNat : Int) != 48) = true := by simpa using e0
        have e2 : ((B[0].toNat : Int) == 48) = false := by simpa using e0
        clear hr hone h48 e0
        go_enter Tryz.func25, Tryz.ntmps25
        go_wp2_with fail
        refine (HI.out _).mono ?_; rintro e w1 ⟨rfl, rfl⟩
        go_wp2_with fail
        refine (H2.out _).mono ?_; rintro e w1 ⟨rfl, rfl⟩
        go_wp2_with fail
        go_ret
        exact ⟨ret_b HF.out, rfl⟩
  · have HF : Hid (false = r) := Lib.hid (by rw [← hr, h3]; rfl)
    clear hr h3 h0
    go_enter Tryz.func25, Tryz.ntmps25
    go_wp2_with fail
    refine (HI.out _).mono ?_; rintro e w1 ⟨rfl, rfl⟩
    go_wp2_with fail
    go_ret
    exact ⟨ret_b HF.out, rfl⟩
end Go.Proofs.YtgclnjogoghhcaaGreatDoor
namespace Go.Proofs.YtgclnjogoghhcaaGreatDoor
open Go.RowKit
/-- A token's value. -/
def tokV (k : UInt8) (x : List UInt8) (p : Int) : Value := .agg #[.int .u8 (k.toNat : Int), .string ⟨x.toArray⟩, .int .i64 p]
theorem while_le (p : UInt8 → Bool) : ∀ l : List UInt8, (l.takeWhile p).length ≤ l.length
  | [] => Nat.le_refl _
  | c :: l => by
    rw [List.takeWhile_cons]
    split
    · have := while_le p l; simp only [List.length_cons]; omega
    · exact Nat.zero_le _
theorem fr_name (l : List UInt8) : fr nameMs l = l.takeWhile nameC := by
  unfold fr
  rw [show (nameMs.contains ·) = nameC from funext name_ms]
theorem tcells {b : Nat} {W : World} {v0 v1 v2 : Value} (h : W.heap[b]? = some (.cells #[v0, v1, v2] 30 (0, 0))) :
    (W.cell? ⟨b, 0, none⟩ = some v0 ∧ W.cell? ⟨b, 1, none⟩ = some v1 ∧ W.cell? ⟨b, 2, none⟩ = some v2) ∧
    (W.frozen? ⟨b, 0, none⟩ = false ∧ W.frozen? ⟨b, 1, none⟩ = false ∧ W.frozen? ⟨b, 2, none⟩ = false) ∧ b < W.heap.size := by
  refine ⟨⟨?_, ?_, ?_⟩, ⟨Lib.frozen_of_heap h 0, Lib.frozen_of_heap h 1, Lib.frozen_of_heap h 2⟩, (Array.getElem?_eq_some_iff.1 h).1⟩
  all_goals (rw [Lib.cell_of_heap h]; rfl)
theorem cells_new (w : World) (A : Obj) (v0 v1 v2 : Value) : ((w.alloc A).alloc (.cells #[v0, v1, v2] 30)).heap[w.heap.size + 1]? = some (.cells #[v0, v1, v2] 30 (0, 0)) := by
  have := heap_alloc_new (w.alloc A) (.cells #[v0, v1, v2] 30 (0, 0))
  rw [show (w.alloc A).heap.size = w.heap.size + 1 from by simp] at this
  exact this
/-- What a reader tells: the token, how many bytes. -/
def tellV (k : UInt8) (o : Option (List UInt8)) : Value := match o with
  | some a => .tuple #[tokV k a 0, .int .i64 (a.length : Int)]
  | none => .tuple #[tokV 0 [] 0, .int .i64 0]
set_option maxRecDepth 100000 in
set_option maxHeartbeats 1000000 in
theorem nread_any (s : ByteArray) (hs : s.size ≤ 1000000) (w : World) :
    Calls Tryz.prog 79 #[.agg #[], .string s] w fun e w' => e = .returned (tellV 1 (nameT s.data.toList)) ∧ Below w.heap.size w w' := by
  have H1 := Lib.hid (fun w => front_any s ⟨nameMs.toArray⟩ hs w)
  obtain ⟨F, hF⟩ : ∃ F : List UInt8, fr nameMs s.data.toList = F := ⟨_, rfl⟩
  have hF2 : nameT s.data.toList = if nameB F then some F else none := by unfold nameT; rw [← hF, fr_name]
  have hle : F.length ≤ s.size := by rw [← hF, ← len_z s]; unfold fr; exact while_le _ _
  rw [show fr (⟨nameMs.toArray⟩ : ByteArray).data.toList s.data.toList = F from hF] at H1
  have H2 := Lib.hid (fun w => lname_any ⟨F.toArray⟩ (by show F.toArray.size ≤ 1000000; rw [List.size_toArray]; omega) w)
  rw [show (⟨F.toArray⟩ : ByteArray).data.toList = F from rfl] at H2
  have hz : ((⟨F.toArray⟩ : ByteArray).size : Int) = (F.length : Int) := by show (F.toArray.size : Int) = _; rw [List.size_toArray]
  have hz2 : (⟨F.toArray⟩ : ByteArray).size ≤ 1000000 := by omega
  have hV : tellV 1 (nameT s.data.toList) = if nameB F then .tuple #[tokV 1 F 0, .int .i64 (F.length : Int)] else .tuple #[tokV 0 [] 0, .int .i64 0] := by
    rw [hF2]; unfold tellV; cases nameB F <;> rfl
  rw [hV]
  unfold nameMs at H1
  clear hF hF2 hV
  cases hb : nameB F with
  | true =>
    rw [hb] at H2
    rw [if_pos rfl]
    obtain ⟨V, hV⟩ : ∃ V, Value.tuple #[tokV 1 F 0, .int .i64 (F.length : Int)] = V := ⟨_, rfl⟩
    rw [hV]
    have HV := Lib.hid hV
    clear hV hb
    go_enter Tryz.func79, Tryz.ntmps79
    go_wp2_with fail
    refine (H1.out _).mono ?_; rintro e w1 ⟨rfl, rfl⟩
    go_wp2_with fail
    refine (H2.out _).mono ?_; rintro e w1 ⟨rfl, rfl⟩
    go_wp2_with fail
    obtain ⟨⟨c0, c1, c2⟩, ⟨g0, g1, g2⟩, hz⟩ := tcells (cells_new w (.cells #[] 46) (.int .u8 1) (.string ⟨F.toArray⟩) (.int .i64 0))
    refine bodyPost_ret (v := .tuple #[.agg #[(.int .u8 1), .string ⟨F.toArray⟩, .int .i64 0], .int .i64 (F.length : Int)]) (by simp [results, Tryz.results79, go_sem, *]) rfl ⟨by rw [← HV.out]; rfl, ((Below.refl _ _).alloc (Nat.le_refl _) _).alloc (by simp) _⟩
  | false =>
    rw [hb] at H2
    rw [if_neg (by decide)]
    obtain ⟨V, hV⟩ : ∃ V, Value.tuple #[tokV 0 [] 0, .int .i64 0] = V := ⟨_, rfl⟩
    rw [hV]
    have HV := Lib.hid hV
    clear hV hb
    go_enter Tryz.func79, Tryz.ntmps79
    go_wp2_with fail
    refine (H1.out _).mono ?_; rintro e w1 ⟨rfl, rfl⟩
    go_wp2_with fail
    refine (H2.out _).mono ?_; rintro e w1 ⟨rfl, rfl⟩
    go_wp2_with fail
    obtain ⟨⟨c0, c1, c2⟩, ⟨g0, g1, g2⟩, hz⟩ := tcells (cells_new w (.cells #[] 46) (.int .u8 0) (.string ⟨#[]⟩) (.int .i64 0))
    refine bodyPost_ret (v := .tuple #[.agg #[(.int .u8 0), .string ⟨#[]⟩, .int .i64 0], .int .i64 0]) (by simp [results, Tryz.results79, go_sem, *]) rfl ⟨by rw [← HV.out]; rfl, ((Below.refl _ _).alloc (Nat.le_refl _) _).alloc (by simp) _⟩
theorem marks_ib (c : UInt8) : ((Lib.indexByte (⟨#[33, 36, 38, 40, 41, 58, 61, 64, 91, 93, 123, 124, 125]⟩ : ByteArray).data.toList c < 0) ↔ marksL.contains c = false) := by
  have := all256' (f := fun c => decide ((Lib.indexByte (⟨#[33, 36, 38, 40, 41, 58, 61, 64, 91, 93, 123, 124, 125]⟩ : ByteArray).data.toList c < 0) ↔ marksL.contains c = false)) (by decide +kernel) c
  exact of_decide_eq_true this
set_option maxRecDepth 100000 in
set_option maxHeartbeats 1000000 in
theorem pread17_any (s : ByteArray) (h0 : 0 < s.size) (hs : s.size ≤ 1000000) (w : World) :
    Calls Tryz.prog 140 #[.agg #[], .string s] w fun e w' => e = .returned (tellV 4 (punT s.data.toList)) ∧ Below w.heap.size w w' := by
  obtain ⟨p, hp⟩ : ∃ p, ([46, 46, 46] : List UInt8).isPrefixOf s.data.toList = p := ⟨_, rfl⟩
  have H1 : Hid (∀ w, Calls Tryz.prog 29 #[.string s, .string ⟨#[46, 46, 46]⟩] w fun e w' => e = .returned (.bool p) ∧ w = w') := Lib.hid (fun w => (Tryz.strings_HasPrefix s ⟨#[46, 46, 46]⟩ w).mono fun e w' ⟨h1, h2⟩ => ⟨h1.trans (by rw [← hp]; rfl), h2.symm⟩)
  obtain ⟨ix, hix⟩ : ∃ ix, Lib.indexByte (⟨#[33, 36, 38, 40, 41, 58, 61, 64, 91, 93, 123, 124, 125]⟩ : ByteArray).data.toList s[0] = ix := ⟨_, rfl⟩
  have H2 : Hid (∀ w, Calls Tryz.prog 21 #[.string ⟨#[33, 36, 38, 40, 41, 58, 61, 64, 91, 93, 123, 124, 125]⟩, .int .u8 (s[0].toNat : Int)] w fun e w' => e = .returned (.int .i64 ix) ∧ w = w') := Lib.hid (fun w => by
    have := Tryz.strings_IndexByte ⟨#[33, 36, 38, 40, 41, 58, 61, 64, 91, 93, 123, 124, 125]⟩ (s[0].toNat : Int) w
    rw [show ((s[0].toNat : Int)).toNat.toUInt8 = s[0] by simp, hix] at this
    exact this.mono fun e w' ⟨h1, h2⟩ => ⟨h1, h2.symm⟩)
  have hm := marks_ib s[0]
  rw [hix] at hm
  have hP : punT s.data.toList = if p then (some [46, 46, 46] : Option (List UInt8)) else if marksL.contains s[0] then some [s[0]] else none := by
    unfold punT
    rw [hp, head_z s h0]
  rw [hP]
  cases p with
  | true =>
    have h3 : 3 ≤ s.size := by
      have := (List.isPrefixOf_iff_prefix.1 hp).length_le
      rw [len_z] at this; exact this
    have hx : s.extract 0 3 = ⟨#[46, 46, 46]⟩ := by
      obtain ⟨z, hz⟩ := List.isPrefixOf_iff_prefix.1 hp
      apply bytes_ext'
      rw [ByteArray.data_extract, Array.toList_extract, ← hz]
      rfl
    rw [if_pos rfl]
    clear hP hm hp H2
    obtain ⟨V, hV⟩ : ∃ V, tellV 4 (some [46, 46, 46]) = V := ⟨_, rfl⟩
    rw [hV]
    have HV := Lib.hid hV
    clear hV
    go_enter Tryz.func140, Tryz.ntmps140
    go_wp2_with fail
    refine (H1.out _).mono ?_; rintro e w1 ⟨rfl, rfl⟩
    go_wp2_with fail
    obtain ⟨⟨c0, c1, c2⟩, ⟨g0, g1, g2⟩, hz⟩ := tcells (cells_new w (.cells #[] 49) (.int .u8 4) (.string ⟨#[46, 46, 46]⟩) (.int .i64 0))
    refine bodyPost_ret (v := .tuple #[.agg #[(.int .u8 4), .string ⟨#[46, 46, 46]⟩, .int .i64 0], .int .i64 3]) (by simp [results, Tryz.results140, go_sem, *]) rfl ⟨by rw [← HV.out]; rfl, ((Below.refl _ _).alloc (Nat.le_refl _) _).alloc (by simp) _⟩
  | false =>
    rw [if_neg (by decide)]
    cases hc : marksL.contains s[0] with
    | true =>
      have hx : s.extract 0 1 = ⟨#[s[0]]⟩ := by
        apply bytes_ext'
        rw [ByteArray.data_extract, Array.toList_extract, head_z s h0]
        rfl
      have hge : ¬ ix < 0 := fun h => by have := hm.1 h; rw [hc] at this; cases this
      rw [if_pos rfl]
      clear hP hm hp hix
      obtain ⟨V, hV⟩ : ∃ V, tellV 4 (some [s[0]]) = V := ⟨_, rfl⟩
      rw [hV]
      have HV := Lib.hid hV
      clear hV
      go_enter Tryz.func140, Tryz.ntmps140
      go_wp2_with fail
      refine (H1.out _).mono ?_; rintro e w1 ⟨rfl, rfl⟩
      go_wp2_with fail
      refine (H2.out _).mono ?_; rintro e w1 ⟨rfl, rfl⟩
      go_wp2_with fail
      obtain ⟨⟨c0, c1, c2⟩, ⟨g0, g1, g2⟩, hz⟩ := tcells (cells_new w (.cells #[] 49) (.int .u8 4) (.string ⟨#[s[0]]⟩) (.int .i64 0))
      refine bodyPost_ret (v := .tuple #[.agg #[(.int .u8 4), .string ⟨#[s[0]]⟩, .int .i64 0], .int .i64 1]) (by simp [results, Tryz.results140, go_sem, *]) rfl ⟨by rw [← HV.out]; rfl, ((Below.refl _ _).alloc (Nat.le_refl _) _).alloc (by simp) _⟩
    | false =>
      have hlt : ix < 0 := hm.2 hc
      rw [if_neg (by decide)]
      clear hP hm hp hix
      obtain ⟨V, hV⟩ : ∃ V, tellV 4 none = V := ⟨_, rfl⟩
      rw [hV]
      have HV := Lib.hid hV
      clear hV
      go_enter Tryz.func140, Tryz.ntmps140
      go_wp2_with fail
      refine (H1.out _).mono ?_; rintro e w1 ⟨rfl, rfl⟩
      go_wp2_with fail
      refine (H2.out _).mono ?_; rintro e w1 ⟨rfl, rfl⟩
      go_wp2_with fail
      obtain ⟨⟨c0, c1, c2⟩, ⟨g0, g1, g2⟩, hz⟩ := tcells (cells_new w (.cells #[] 49) (.int .u8 0) (.string ⟨#[]⟩) (.int .i64 0))
      refine bodyPost_ret (v := .tuple #[.agg #[(.int .u8 0), .string ⟨#[]⟩, .int .i64 0], .int .i64 0]) (by simp [results, Tryz.results140, go_sem, *]) rfl ⟨by rw [← HV.out]; rfl, ((Below.refl _ _).alloc (Nat.le_refl _) _).alloc (by simp) _⟩
end Go.Proofs.YtgclnjogoghhcaaGreatDoor
namespace Go.Proofs.YtgclnjogoghhcaaGreatDoor
open Go.RowKit
theorem dot_ib (c : UInt8) : ((0 ≤ Lib.indexByte (⟨#[95, 97, 98, 99, 100, 101, 102, 103, 104, 105, 106, 107, 108, 109, 110, 111, 112, 113, 114, 115, 116, 117, 118, 119, 120, 121, 122, 65, 66, 67, 68, 69, 70, 71, 72, 73, 74, 75, 76, 77, 78, 79, 80, 81, 82, 83, 84, 85, 86, 87, 88, 89, 90, 46]⟩ : ByteArray).data.toList c) ↔ (isDig c = false ∧ (nameC c || c == 46) = true)) := by
  have := all256' (f := fun c => decide ((0 ≤ Lib.indexByte (⟨#[95, 97, 98, 99, 100, 101, 102, 103, 104, 105, 106, 107, 108, 109, 110, 111, 112, 113, 114, 115, 116, 117, 118, 119, 120, 121, 122, 65, 66, 67, 68, 69, 70, 71, 72, 73, 74, 75, 76, 77, 78, 79, 80, 81, 82, 83, 84, 85, 86, 87, 88, 89, 90, 46]⟩ : ByteArray).data.toList c) ↔ (isDig c = false ∧ (nameC c || c == 46) = true))) (by decide +kernel) c
  exact of_decide_eq_true this
theorem while_drop (p : UInt8 → Bool) : ∀ l : List UInt8, l.dropWhile p = l.drop (l.takeWhile p).length ∧ ∀ c, (l.dropWhile p).head? = some c → p c = false
  | [] => ⟨rfl, fun c h => by cases h⟩
  | a :: l => by
    obtain ⟨h1, h2⟩ := while_drop p l
    rw [List.dropWhile_cons, List.takeWhile_cons]
    cases h : p a with
    | true => rw [if_pos rfl, if_pos rfl, List.length_cons, List.drop_succ_cons]; exact ⟨h1, h2⟩
    | false => exact ⟨rfl, fun c hc => by injection hc with hc; subst hc; exact h⟩
theorem body_sign (l : List UInt8) : body ((if below l then [45] else []) ++ (body l).takeWhile isDig) = (body l).takeWhile isDig := by
  cases hx : below l with
  | true => rfl
  | false =>
    rw [if_neg (by decide), List.nil_append]
    have hb : body l = l := by unfold body; rw [hx]; rfl
    rw [hb]
    cases l with
    | nil => rfl
    | cons c r =>
      have hc : c ≠ 45 := by
        have : below (c :: r) = false := hx
        unfold below at this
        exact beq_eq_false_iff_ne.1 this
      rw [List.takeWhile_cons]
      split
      · unfold body
        rw [show below (c :: r.takeWhile isDig) = false from by unfold below; exact beq_eq_false_iff_ne.2 hc]
        rfl
      · rfl
theorem sign_body (l : List UInt8) : (if below l then ([45] : List UInt8) else []) ++ body l = l := by
  cases l with
  | nil => rfl
  | cons c r =>
    unfold body
    by_cases h : c = 45
    · subst h; rfl
    · rw [show below (c :: r) = false from by unfold below; exact beq_eq_false_iff_ne.2 h]; rfl
set_option maxRecDepth 100000 in
set_option maxHeartbeats 1000000 in
/-- The walk over letters. -/
theorem num_path (s B D : ByteArray) (g n : Nat) (q : Bool) (ix : Int) (o : Option (List UInt8)) (hs : s.size ≤ 1000000) (hB : B.size ≤ 1000000) (eg : (s.size : Int) - (B.size : Int) = (g : Int)) (hg : g ≤ s.size) (en : (g : Int) + (D.size : Int) = (n : Int)) (hn : n ≤ s.size)
    (HT : Hid (∀ w, Calls Tryz.prog 37 #[.string s, .string ⟨#[45]⟩] w fun e w' => e = .returned (.string B) ∧ w = w'))
    (HF : Hid (∀ w, Calls Tryz.prog 22 #[.string (s.extract g s.size), .string ⟨#[48, 49, 50, 51, 52, 53, 54, 55, 56, 57]⟩] w fun e w' => e = .returned (.string D) ∧ w = w'))
    (HN : Hid (∀ w, Calls Tryz.prog 25 #[.string (s.extract 0 n)] w fun e w' => e = .returned (.bool q) ∧ w = w'))
    (HI : ∀ h : n < s.size, Hid (∀ w, Calls Tryz.prog 21 #[.string ⟨#[95, 97, 98, 99, 100, 101, 102, 103, 104, 105, 106, 107, 108, 109, 110, 111, 112, 113, 114, 115, 116, 117, 118, 119, 120, 121, 122, 65, 66, 67, 68, 69, 70, 71, 72, 73, 74, 75, 76, 77, 78, 79, 80, 81, 82, 83, 84, 85, 86, 87, 88, 89, 90, 46]⟩, .int .u8 (s[n].toNat : Int)] w fun e w' => e = .returned (.int .i64 ix) ∧ w = w'))
    (ho : Hid (o = if q = true ∧ ¬ (n < s.size ∧ 0 ≤ ix) then some (s.extract 0 n).data.toList else none)) (hl : ((s.extract 0 n).data.toList.length : Int) = n) (w : World) :
    Calls Tryz.prog 80 #[.agg #[], .string s] w fun e w' => e = .returned (tellV 2 o) ∧ Below w.heap.size w w' := by
  have hx : (⟨(s.extract 0 n).data.toList.toArray⟩ : ByteArray) = s.extract 0 n := rfl
  cases q with
  | false =>
    have HV : Hid (tellV 2 none = tellV 2 o) := Lib.hid (by rw [ho.out, if_neg (by simp)])
    obtain ⟨V, hV⟩ : ∃ V, tellV 2 o = V := ⟨_, rfl⟩
    rw [hV] at HV ⊢
    clear ho HI hV
    go_enter Tryz.func80, Tryz.ntmps80
    go_wp2_with fail
    refine (HT.out _).mono ?_; rintro e w1 ⟨rfl, rfl⟩
    go_wp2_with fail
    refine (HF.out _).mono ?_; rintro e w1 ⟨rfl, rfl⟩
    go_wp2_with fail
    refine (HN.out _).mono ?_; rintro e w1 ⟨rfl, rfl⟩
    go_wp2_with fail
    obtain ⟨⟨c0, c1, c2⟩, ⟨g0, g1, g2⟩, hz⟩ := tcells (cells_new w (.cells #[] 47) (.int .u8 0) (.string ⟨#[]⟩) (.int .i64 0))
    refine bodyPost_ret (v := .tuple #[.agg #[(.int .u8 0), .string ⟨#[]⟩, .int .i64 0], .int .i64 0]) (by simp [results, Tryz.results80, go_sem, *]) rfl ⟨by rw [← HV.out]; rfl, ((Below.refl _ _).alloc (Nat.le_refl _) _).alloc (by simp) _⟩
  | true =>
    by_cases hlt : n < s.size
    · have HI := HI hlt
      have hlt2 : ((n : Int) < (s.size : Int)) := by omega
      by_cases hix : 0 ≤ ix
      · have HV : Hid (tellV 2 none = tellV 2 o) := Lib.hid (by rw [ho.out, if_neg (by simp [hlt, hix])])
        obtain ⟨V, hV⟩ : ∃ V, tellV 2 o = V := ⟨_, rfl⟩
        rw [hV] at HV ⊢
        clear ho hV
        go_enter Tryz.func80, Tryz.ntmps80
        go_wp2_with fail
        refine (HT.out _).mono ?_; rintro e w1 ⟨rfl, rfl⟩
        go_wp2_with fail
        refine (HF.out _).mono ?_; rintro e w1 ⟨rfl, rfl⟩
        go_wp2_with fail
        refine (HN.out _).mono ?_; rintro e w1 ⟨rfl, rfl⟩
        go_wp2_with fail
        refine (HI.out _).mono ?_; rintro e w1 ⟨rfl, rfl⟩
        go_wp2_with fail
        obtain ⟨⟨c0, c1, c2⟩, ⟨g0, g1, g2⟩, hz⟩ := tcells (cells_new w (.cells #[] 47) (.int .u8 0) (.string ⟨#[]⟩) (.int .i64 0))
        refine bodyPost_ret (v := .tuple #[.agg #[(.int .u8 0), .string ⟨#[]⟩, .int .i64 0], .int .i64 0]) (by simp [results, Tryz.results80, go_sem, *]) rfl ⟨by rw [← HV.out]; rfl, ((Below.refl _ _).alloc (Nat.le_refl _) _).alloc (by simp) _⟩
      · have HV : Hid (tellV 2 (some (s.extract 0 n).data.toList) = tellV 2 o) := Lib.hid (by rw [ho.out, if_pos (by simp [hix])])
        obtain ⟨V, hV⟩ : ∃ V, tellV 2 o = V := ⟨_, rfl⟩
        rw [hV] at HV ⊢
        clear ho hV
        go_enter Tryz.func80, Tryz.ntmps80
        go_wp2_with fail
        refine (HT.out _).mono ?_; rintro e w1 ⟨rfl, rfl⟩
        go_wp2_with fail
        refine (HF.out _).mono ?_; rintro e w1 ⟨rfl, rfl⟩
        go_wp2_with fail
        refine (HN.out _).mono ?_; rintro e w1 ⟨rfl, rfl⟩
        go_wp2_with fail
        refine (HI.out _).mono ?_; rintro e w1 ⟨rfl, rfl⟩
        go_wp2_with fail
        obtain ⟨⟨c0, c1, c2⟩, ⟨g0, g1, g2⟩, hz⟩ := tcells (cells_new w (.cells #[] 47) (.int .u8 2) (.string (s.extract 0 n)) (.int .i64 0))
        refine bodyPost_ret (v := .tuple #[.agg #[(.int .u8 2), .string (s.extract 0 n), .int .i64 0], .int .i64 n]) (by simp [results, Tryz.results80, go_sem, *]) rfl ⟨by rw [← HV.out, ← hl]; rfl, ((Below.refl _ _).alloc (Nat.le_refl _) _).alloc (by simp) _⟩
    · have hlt2 : ¬ ((n : Int) < (s.size : Int)) := by omega
      have HV : Hid (tellV 2 (some (s.extract 0 n).data.toList) = tellV 2 o) := Lib.hid (by rw [ho.out, if_pos (by simp [hlt])])
      obtain ⟨V, hV⟩ : ∃ V, tellV 2 o = V := ⟨_, rfl⟩
      rw [hV] at HV ⊢
      clear ho hV HI
      go_enter Tryz.func80, Tryz.ntmps80
      go_wp2_with fail
      refine (HT.out _).mono ?_; rintro e w1 ⟨rfl, rfl⟩
      go_wp2_with fail
      refine (HF.out _).mono ?_; rintro e w1 ⟨rfl, rfl⟩
      go_wp2_with fail
      refine (HN.out _).mono ?_; rintro e w1 ⟨rfl, rfl⟩
      go_wp2_with fail
      obtain ⟨⟨c0, c1, c2⟩, ⟨g0, g1, g2⟩, hz⟩ := tcells (cells_new w (.cells #[] 47) (.int .u8 2) (.string (s.extract 0 n)) (.int .i64 0))
      refine bodyPost_ret (v := .tuple #[.agg #[(.int .u8 2), .string (s.extract 0 n), .int .i64 0], .int .i64 n]) (by simp [results, Tryz.results80, go_sem, *]) rfl ⟨by rw [← HV.out, ← hl]; rfl, ((Below.refl _ _).alloc (Nat.le_refl _) _).alloc (by simp) _⟩
theorem extract_drop (s : ByteArray) (k : Nat) : (s.extract k s.size).data.toList = s.data.toList.drop k := by
  rw [ByteArray.data_extract, Array.toList_extract, List.extract_eq_take_drop]
  have := len_z s
  rw [List.take_of_length_le]
  rw [List.length_drop]; omega
theorem extract_take (s : ByteArray) (k : Nat) : (s.extract 0 k).data.toList = s.data.toList.take k := by
  rw [ByteArray.data_extract, Array.toList_extract, List.extract_eq_take_drop]
  simp
theorem numread_any (s : ByteArray) (hs : s.size ≤ 1000000) (w : World) :
    Calls Tryz.prog 80 #[.agg #[], .string s] w fun e w' => e = .returned (tellV 2 (numTk s.data.toList)) ∧ Below w.heap.size w w' := by
  obtain ⟨l, hl⟩ : ∃ l, s.data.toList = l := ⟨_, rfl⟩
  have hlen := len_z s
  rw [hl] at hlen
  obtain ⟨sg, hsg⟩ : ∃ sg : List UInt8, (if below l then ([45] : List UInt8) else []) = sg := ⟨_, rfl⟩
  have hsb := sign_body l
  rw [hsg] at hsb
  have hbs := body_sign l
  rw [hsg] at hbs
  obtain ⟨d, hd⟩ : ∃ d, (body l).takeWhile isDig = d := ⟨_, rfl⟩
  rw [hd] at hbs
  have hwd := while_drop isDig (body l)
  rw [hd] at hwd
  have hdl : d.length ≤ (body l).length := by rw [← hd]; exact while_le _ _
  have htk : (body l).take d.length = d := by
    have := List.takeWhile_append_dropWhile (p := isDig) (l := body l)
    rw [hd] at this
    rw [← this, List.take_left]
  have hsl : sg.length + (body l).length = l.length := by rw [← List.length_append, hsb]
  have hdrop : l.drop sg.length = body l := by
    conv => lhs; rw [← hsb]
    exact List.drop_left
  have htake : l.take (sg.length + d.length) = sg ++ d := by
    conv => lhs; rw [← hsb]
    rw [List.take_length_add_append, htk]
  have hdrop2 : l.drop (sg.length + d.length) = (body l).dropWhile isDig := by rw [hwd.1, ← hdrop, List.drop_drop]
  have ex : (s.extract 0 (sg.length + d.length)).data.toList = sg ++ d := by rw [extract_take, hl, htake]
  rw [hl]
  refine num_path s ⟨(body l).toArray⟩ ⟨d.toArray⟩ sg.length (sg.length + d.length) (okDigits d) (if h : sg.length + d.length < s.size then Lib.indexByte (⟨#[95, 97, 98, 99, 100, 101, 102, 103, 104, 105, 106, 107, 108, 109, 110, 111, 112, 113, 114, 115, 116, 117, 118, 119, 120, 121, 122, 65, 66, 67, 68, 69, 70, 71, 72, 73, 74, 75, 76, 77, 78, 79, 80, 81, 82, 83, 84, 85, 86, 87, 88, 89, 90, 46]⟩ : ByteArray).data.toList s[sg.length + d.length] else 0) (numTk l) hs ?_ ?_ ?_ ?_ ?_ ?_ ?_ ?_ ?_ ?_ ?_ w
  · show (body l).toArray.size ≤ 1000000; rw [List.size_toArray]; omega
  · show (s.size : Int) - ((body l).toArray.size : Int) = _; rw [List.size_toArray]; omega
  · omega
  · show (sg.length : Int) + (d.toArray.size : Int) = _; rw [List.size_toArray]; omega
  · omega
  · refine Lib.hid fun w => ?_
    have := Tryz.strings_TrimPrefix s ⟨#[45]⟩ w
    rw [show (⟨#[45]⟩ : ByteArray).data.toList = [45] from rfl, trimPrefix_dash, hl] at this
    exact this.mono fun e w' ⟨h1, h2⟩ => ⟨h1, h2.symm⟩
  · refine Lib.hid fun w => ?_
    have := front_any (s.extract sg.length s.size) ⟨#[48, 49, 50, 51, 52, 53, 54, 55, 56, 57]⟩ (by
      have e := len_z (s.extract sg.length s.size)
      rw [extract_drop, List.length_drop, hl] at e; omega) w
    rw [extract_drop, hl, hdrop] at this
    have hfr : fr (⟨#[48, 49, 50, 51, 52, 53, 54, 55, 56, 57]⟩ : ByteArray).data.toList (body l) = d := by
      rw [← hd]
      unfold fr
      rw [show (((⟨#[48, 49, 50, 51, 52, 53, 54, 55, 56, 57]⟩ : ByteArray).data.toList).contains ·) = isDig from funext dig_ms]
    rw [hfr] at this
    exact this
  · refine Lib.hid fun w => ?_
    have := lnumber_any (s.extract 0 (sg.length + d.length)) (by
      have e := len_z (s.extract 0 (sg.length + d.length))
      rw [ex, List.length_append] at e; omega) w
    rw [ex, hbs] at this
    exact this
  · intro h
    refine Lib.hid fun w => ?_
    rw [dif_pos h]
    have := Tryz.strings_IndexByte ⟨#[95, 97, 98, 99, 100, 101, 102, 103, 104, 105, 106, 107, 108, 109, 110, 111, 112, 113, 114, 115, 116, 117, 118, 119, 120, 121, 122, 65, 66, 67, 68, 69, 70, 71, 72, 73, 74, 75, 76, 77, 78, 79, 80, 81, 82, 83, 84, 85, 86, 87, 88, 89, 90, 46]⟩ (s[sg.length + d.length].toNat : Int) w
    rw [show ((s[sg.length + d.length].toNat : Int)).toNat.toUInt8 = s[sg.length + d.length] by simp] at this
    exact this.mono fun e w' ⟨h1, h2⟩ => ⟨h1, h2.symm⟩
  · refine Lib.hid ?_
    rw [ex]
    unfold numTk
    simp only
    rw [hd, hsg, ← hdrop2]
    by_cases h : sg.length + d.length < s.size
    · rw [dif_pos h]
      have hc := drop_at s _ h
      rw [hl] at hc
      have hnd : isDig s[sg.length + d.length] = false := hwd.2 _ (by rw [← hdrop2, hc]; rfl)
      have hib := dot_ib s[sg.length + d.length]
      rw [hc]
      simp only [List.head?_cons, Option.map_some, Option.getD_some]
      cases okDigits d with
      | false => simp
      | true =>
        rcases Bool.eq_false_or_eq_true (nameC s[sg.length + d.length] || s[sg.length + d.length] == 46) with hq | hq
        · have := hib.2 ⟨hnd, hq⟩
          rw [if_neg (fun hh => hh.2 ⟨h, this⟩)]
          exact if_neg (show ¬ (true && !(nameC s[sg.length + d.length] || s[sg.length + d.length] == 46)) = true from by rw [hq]; decide)
        · have : ¬ 0 ≤ Lib.indexByte (⟨#[95, 97, 98, 99, 100, 101, 102, 103, 104, 105, 106, 107, 108, 109, 110, 111, 112, 113, 114, 115, 116, 117, 118, 119, 120, 121, 122, 65, 66, 67, 68, 69, 70, 71, 72, 73, 74, 75, 76, 77, 78, 79, 80, 81, 82, 83, 84, 85, 86, 87, 88, 89, 90, 46]⟩ : ByteArray).data.toList s[sg.length + d.length] := fun hh => by have := (hib.1 hh).2; rw [hq] at this; cases this
          rw [if_pos ⟨rfl, fun hh => this hh.2⟩]
          exact if_pos (show (true && !(nameC s[sg.length + d.length] || s[sg.length + d.length] == 46)) = true from by rw [hq]; decide)
    · rw [dif_neg h, List.drop_eq_nil_of_le (by omega)]
      cases okDigits d with
      | false => simp
      | true => rw [if_pos (by simp), if_pos ⟨rfl, fun hh => h hh.1⟩]
  · rw [ex, List.length_append]
end Go.Proofs.YtgclnjogoghhcaaGreatDoor
namespace Go.Proofs.YtgclnjogoghhcaaGreatDoor
open Go.RowKit Go.Lib
/-- An operation that yields in every world that meets S is taken first. -/
theorem tky {P : Program} {ops : Array Oper} {Q : Exit → Act → World → Prop} {md : Region.Mode} {S : World → Prop} (i : Nat) (d : Option Tmp) {v : Value} {oi : Oper} {fuel : Nat} {listed : Array Bool} {a : Act} {w : World} (hi' : ops.toList[i]? = some oi)
    (hk : (Region.noSelect ops && Region.free md ops listed i && (Region.ready md ops listed).contains i) = true) (hw : Region.wanted oi (yielded ops a.tmps) = true)
    (hd : oi.dst = d) (hQ : ∀ c a w, Q (.panic c) (a.put d v) w → Q (.panic c) a w) (hy : ∀ w, S w → (execOp a.eval oi).run P w = .ok (.value v) w) (hS : S w)
    (h : wpAnyH P md ops Q S fuel (listed.setIfInBounds i true) (a.put d v) w) : wpAnyH P md ops Q S (fuel + 1) listed a w := by
  have hi : ops[i]? = some oi := by rw [← Array.getElem?_toList]; exact hi'
  subst hd
  simp only [Bool.and_eq_true] at hk
  exact wpAnyH_take hi hk.1.1 hk.1.2 hk.2 hQ (Or.inl ⟨hw, hy⟩) hS h
/-- What is carried out comes up alone. -/
theorem rcons {P : Program} {ops : Array Oper} {Q : Exit → Act → World → Prop} {md : Region.Mode} {S : World → Prop} (i : Nat) {fuel : Nat} {listed : Array Bool} {a : Act} {w : World} {o : Oper} (ho : ops.toList[i]? = some o) (hr : Region.ready md ops listed = [i])
    (h : ∀ K' : Act → World → Prop, Shut (∀ a w, S w → (S w → wpAnyH P md ops Q S fuel (listed.setIfInBounds i true) a w) → K' a w) → if Region.wanted o (yielded ops a.tmps) = true then Oper.wp P o a w K' Q else K' (a.put o.dst undef) w) : wpAnyH P md ops Q S (fuel + 1) listed a w :=
  wpAnyH_ready (rs := [i]) hr (by simp) (AllReadyH.cons (by rw [← Array.getElem?_toList]; exact ho) h AllReadyH.nil)
theorem ext_list (s : ByteArray) (a m : Nat) : (s.extract a (a + m)).toList = (s.data.toList.drop a).take m := by
  rw [ByteArray.toList_eq, ByteArray.data_extract, Array.toList_extract, List.extract_eq_take_drop]
  rw [show a + m - a = m by omega]
/-- What Next answers at a place. -/
def nextV (l : List UInt8) : Value := if wellB l then .tuple #[.int .i64 ((decodeL l).1 : Nat), .int .i64 ((decodeL l).2 : Nat), .int .i64 0] else .tuple #[.int .i64 0, .int .i64 0, .int .i64 10]
end Go.Proofs.YtgclnjogoghhcaaGreatDoor
namespace Go.Proofs.YtgclnjogoghhcaaGreatDoor
open Go.RowKit Go.Lib
theorem int_info : (Tryz.prog.info? 3).map (fun i => (i.zero, i.size, i.bytes)) = some (some (.int .i64 0), 1, 8) := by kernel_rfl
def natCells (l : List Nat) : List Value := l.map fun (n : Nat) => Value.int .i64 (n : Int)
/-- A slice of numbers of the call's own. -/
def OwnI (B : Nat) (v : Value) (l : List Nat) (W : World) : Prop := W.ownsRow B 3 1 v l.length (natCells l)
theorem OwnI.nil (B : Nat) (W : World) : OwnI B (.slice none 0 0) [] W := World.ownsRow_nil W B 3 1
theorem OwnI.below {B : Nat} {v : Value} {l : List Nat} {w w' : World} (h : OwnI B v l w) (hb : Below w.heap.size w w') : OwnI B v l w' := by
  obtain ⟨h1, h2⟩ := h
  refine ⟨h1, ?_⟩
  rcases h2 with h2 | ⟨g, cap, cur, hv, hB, hg, hrest⟩
  · exact Or.inl h2
  · have hlt : g < w.heap.size := (Array.getElem?_eq_some_iff.1 hg).1
    exact Or.inr ⟨g, cap, cur, hv, hB, (hb.block g hlt).trans hg, hrest⟩
theorem OwnI.alloc {B : Nat} {v : Value} {l : List Nat} {w : World} (h : OwnI B v l w) (o : Obj) : OwnI B v l (w.alloc o) := World.ownsRow.alloc h o
theorem OwnI.lt {B : Nat} {v : Value} {l : List Nat} {w : World} (h : OwnI B v l w) : ∀ k, v.ownBlock = some k → B ≤ k := fun k hk => (World.ownsRow.lt h k hk).1
theorem wpList_pushI {ops : Array Oper} {rest : List Oper} {o : Oper} {a : Act} {Q : Exit → Act → World → Prop} {w : World} (hgd : o.guard = none) (s x : Operand)
    (ho : o.op = .call { callee := .builtin .append, args := #[s, x], argTypes := #[136, 136] }) (B : Nat) (v : Value) (l : List Nat) (hs : a.eval s = v) (hown : OwnI B v l w)
    (ad : Addr) (c : Nat) (n : Nat) (hx : a.eval x = .slice (some ad) 1 c) (hnew : w.cell? ad = some (.int .i64 (n : Int))) (hlen : l.length + 1 ≤ 1000000) (hB : B ≤ w.heap.size)
    (h : ∀ v' w', OwnI B v' (l ++ [n]) w' → w.grownBy w' v.ownBlock → wpList Tryz.prog ops Q rest (a.put o.dst v') w') : wpList Tryz.prog ops Q (o :: rest) a w := by
  obtain ⟨i0, hi, hz0, hz1, hz2⟩ := info_parts int_info
  refine wpList_append_own w hgd s x 136 ho B 3 i0 (.int .i64 0) 1 8 Tryz.underlying136 hi hz0 hz1 hz2 rfl (by decide) v l.length (natCells l) hs hown ad 1 c [.int .i64 (n : Int)] hx rfl ?_ ?_ (by unfold maxLen; omega) (by omega) hB ?_
  · intro j u hj
    match j, hj with
    | 0, hj =>
      have e : u = .int .i64 (n : Int) := (Option.some.inj hj).symm
      rw [e]; exact hnew
    | j + 1, hj => cases hj
  · intro u hu; rw [List.mem_singleton] at hu; rw [hu]; rfl
  · intro v' w' h1 h2 _
    refine h v' w' ?_ h2
    unfold OwnI natCells at *
    rw [List.length_append, List.map_append]
    exact h1
theorem new_cell0 (W : World) (T : TypeId) (v : Value) : (W.alloc (.cells #[v] T)).cell? ⟨W.heap.size, 0, none⟩ = some v := by
  rw [Lib.cell_of_heap (heap_alloc_new W _)]; rfl
/-- What a text's check answers. -/
def chkE (l : List UInt8) : Int := if 16384 < l.length then 4 else if validD l then 0 else 10
end Go.Proofs.YtgclnjogoghhcaaGreatDoor
namespace Go.Proofs.YtgclnjogoghhcaaGreatDoor
open Go.RowKit
/-- The library's tables of UTF-8 hold what their text lays. -/
def EnvU (w : World) : Prop := Lib.Utf8Tabs (Tryz.lays196_ren.g 3) (Tryz.lays196_ren.g 4) w
theorem EnvU.below {w w' : World} (h : EnvU w) (hb : Below w.heap.size w w') : EnvU w' := Utf8Tabs_below h hb
set_option maxRecDepth 100000 in
theorem tcheck_any (s : ByteArray) (hs : s.size ≤ 1000000) (w : World) (hE : EnvU w) :
    Calls Tryz.prog 18 #[.string s] w fun e w' => e = .returned (.int .i64 (chkE s.data.toList)) ∧ Below w.heap.size w w' := by
  unfold chkE
  rw [show s.data.toList.length = s.size from by rw [Array.length_toList]; rfl]
  by_cases h : 16384 < s.size
  · rw [if_pos h]
    clear hE
    go_enter Tryz.func18, Tryz.ntmps18
    go_wp2_with fail
    go_ret
    exact ⟨rfl, Below.refl _ _⟩
  · rw [if_neg h]
    have H1 : Calls Tryz.prog 27 #[.string s] w fun e w' => e = .returned (.bool (Lib.validD s.data.toList)) ∧ Below w.heap.size w w' := Any.utf8_ValidString Tryz.lays196 s w (by omega) hE
    have h2 : s.size ≤ 16384 := by omega
    have HI := Lib.hid H1
    clear h hE H1
    generalize Lib.validD s.data.toList = r at *
    cases r
    all_goals
      go_enter Tryz.func18, Tryz.ntmps18
      go_wp2_with fail
      refine HI.out.mono ?_; rintro e w1 ⟨rfl, hb⟩
      go_wp2_with fail
      go_ret
      exact ⟨rfl, hb⟩
end Go.Proofs.YtgclnjogoghhcaaGreatDoor
namespace Go.Proofs.YtgclnjogoghhcaaGreatDoor
open Go.RowKit
/-- All older blocks but one stay. -/
def RK (r : Nat) (W W' : World) : Prop := Below r W W' ∧ ∀ (k : Nat) (o : Obj), W.heap[k]? = some o → k ≠ r → W'.heap[k]? = some o
theorem RK.refl (r : Nat) (W : World) : RK r W W := ⟨Below.refl _ _, fun _ _ h _ => h⟩
theorem RK.trans {r : Nat} {W W' W'' : World} (h : RK r W W') (h' : RK r W' W'') : RK r W W'' := ⟨h.1.trans h'.1, fun k o hk hne => h'.2 k o (h.2 k o hk hne) hne⟩
theorem RK.of_below {r : Nat} {W W' : World} (h : Below W.heap.size W W') (hr : r < W.heap.size) : RK r W W' := ⟨h.mono (Nat.le_of_lt hr), fun k o hk _ => (h.block k (heap_lt hk)).trans hk⟩
theorem pset {b i : Nat} {W : World} {A A' : Array Value} {T : TypeId} (h : W.heap[b]? = some (.cells A T (0, 0))) (v : Value) (hA : A.setIfInBounds i v = A') : (W.setCell ⟨b, i, none⟩ v).heap[b]? = some (.cells A' T (0, 0)) := by
  subst hA
  have hlt : b < W.heap.size := (Array.getElem?_eq_some_iff.1 h).1
  simp only [World.setCell, Array.getElem?_modify]
  simp [h]
theorem RK.set (r i : Nat) (W : World) (v : Value) : RK r W (W.setCell ⟨r, i, none⟩ v) := by
  refine ⟨(Below.refl r W).setCell (p := ⟨r, i, none⟩) (Nat.le_refl _) v, fun k o hk hne => ?_⟩
  rw [Below.heap_setCell _ _ _ _ hne]; exact hk
/-- What look answers. -/
def lookJ (e : Int) (l : List UInt8) : UInt8 := if e ≠ 0 then 0 else l.headD 0
end Go.Proofs.YtgclnjogoghhcaaGreatDoor
namespace Go.Proofs.YtgclnjogoghhcaaGreatDoor
open Go.RowKit
/-- A slice that reads as numbers. -/
def IntSl (v : Value) (l : List Nat) (W : World) : Prop := (∃ a cap, v = .slice a 0 cap ∧ l = []) ∨ ∃ b off cap, v = .slice (some ⟨b, off, none⟩) l.length cap ∧ ∀ (j : Nat) (x : Nat), l[j]? = some x → W.cell? ⟨b, off + j, none⟩ = some (.int .i64 (x : Int))
theorem IntSl.below {v : Value} {l : List Nat} {w w' : World} (h : IntSl v l w) (hb : Below w.heap.size w w') : IntSl v l w' := by
  rcases h with h | ⟨b, off, cap, h1, h2⟩
  · exact Or.inl h
  · exact Or.inr ⟨b, off, cap, h1, fun j x hj => (hb.cell (p := ⟨b, _, none⟩) (lt_of_cell (h2 j x hj))).trans (h2 j x hj)⟩
theorem OwnI.sl {B : Nat} {v : Value} {l : List Nat} {w : World} (h : OwnI B v l w) : IntSl v l w := by
  obtain ⟨h1, h2⟩ := h
  rcases h2 with ⟨h2, h3⟩ | ⟨g, cap, cur, hv, hB, hg, hn, hc, hcs, ht⟩
  · exact Or.inl ⟨_, _, h2, List.eq_nil_of_length_eq_zero h3⟩
  · refine Or.inr ⟨g, 0, cap, hv, ?_⟩
    intro j x hj
    rw [Nat.mul_one] at ht
    have hjl : j < l.length := (List.getElem?_eq_some_iff.1 hj).1
    have e : cur.toList[j]? = some (.int .i64 (x : Int)) := by
      have : (cur.toList.take l.length)[j]? = some (.int .i64 (x : Int)) := by rw [ht]; unfold natCells; rw [List.getElem?_map, hj]; rfl
      rw [List.getElem?_take] at this
      simpa [hjl] using this
    rw [Nat.zero_add]
    refine (Lib.cell_of_heap hg j).trans ?_
    simpa using e
theorem OwnI.rk {B r : Nat} {v : Value} {l : List Nat} {w w' : World} (h : OwnI B v l w) (hk : RK r w w') (hr : r < B) : OwnI B v l w' := by
  obtain ⟨h1, h2⟩ := h
  refine ⟨h1, ?_⟩
  rcases h2 with h2 | ⟨g, cap, cur, hv, hB, hg, hrest⟩
  · exact Or.inl h2
  · exact Or.inr ⟨g, cap, cur, hv, hB, hk.2 g _ hg (by omega), hrest⟩
theorem RK.grown {r : Nat} {w W W' : World} {row : Option Nat} (h : RK r w W) (hg : W.grownBy W' row) (hr : ∀ k, row = some k → w.heap.size ≤ k) (hlt : r < w.heap.size) : RK r w W' := by
  have hs := h.1.size
  refine ⟨h.1.grown hg (by omega) (fun k hk => by have := hr k hk; omega), fun k o hk hne => ?_⟩
  have h1 := h.2 k o hk hne
  have hkl := heap_lt hk
  rw [hg.block k (heap_lt h1) (fun e => by have := hr k e.symm; omega)]
  exact h1
theorem enc_pos (n : Nat) : 0 < (encN n).length ∧ (encN n).length ≤ 4 := by
  unfold encN; repeat' split
  all_goals simp
theorem flat_drop (l : List Nat) (k : Nat) (h : k < l.length) : (l.drop k).flatMap encN = encN l[k] ++ (l.drop (k + 1)).flatMap encN := by
  rw [List.drop_eq_getElem_cons h, List.flatMap_cons]
end Go.Proofs.YtgclnjogoghhcaaGreatDoor
namespace Go.Proofs.YtgclnjogoghhcaaGreatDoor
open Go.RowKit
theorem rune_enc (p : Nat) (h : isPt p = true) : Lib.encodeRune (p : Int) = encN p := by
  unfold isPt at h
  rw [decide_eq_true_eq] at h
  unfold Lib.encodeRune encN
  by_cases h1 : p < 128
  · rw [Lib.encodeRuneZ_one (by omega) (by omega), if_pos h1]
    simp
  · by_cases h2 : p < 2048
    · rw [Lib.encodeRuneZ_two (by omega) (by omega), if_neg h1, if_pos h2]
      have e1 : (192 + (p : Int) / 64).toNat = 192 + p / 64 := by omega
      have e2 : (128 + (p : Int) % 64).toNat = 128 + p % 64 := by omega
      simp only [List.map_cons, List.map_nil, e1, e2]
    · by_cases h3 : p < 65536
      · rw [Lib.encodeRuneZ_three (by omega), if_neg h1, if_neg h2, if_pos h3]
        have e1 : (224 + (p : Int) / 4096).toNat = 224 + p / 4096 := by omega
        have e2 : (128 + (p : Int) / 64 % 64).toNat = 128 + p / 64 % 64 := by omega
        have e3 : (128 + (p : Int) % 64).toNat = 128 + p % 64 := by omega
        simp only [List.map_cons, List.map_nil, e1, e2, e3]
      · rw [Lib.encodeRuneZ_four (by omega) (by omega), if_neg h1, if_neg h2, if_neg h3]
        have e1 : (240 + (p : Int) / 262144).toNat = 240 + p / 262144 := by omega
        have e2 : (128 + (p : Int) / 4096 % 64).toNat = 128 + p / 4096 % 64 := by omega
        have e3 : (128 + (p : Int) / 64 % 64).toNat = 128 + p / 64 % 64 := by omega
        have e4 : (128 + (p : Int) % 64).toNat = 128 + p % 64 := by omega
        simp only [List.map_cons, List.map_nil, e1, e2, e3, e4]
theorem append_rune (B : Nat) (ov : Value) (out : List UInt8) (p : Nat) (hp : isPt p = true) (W : World) (ho : Own B ov out W) (hl : out.length ≤ 1000000) (hB : B ≤ W.heap.size) :
    Calls Tryz.prog 104 #[ov, .int .i32 (p : Int)] W fun e w' => ∃ v', e = .returned v' ∧ Own B v' (out ++ encN p) w' ∧ Below B W w' := by
  have h := hp
  unfold isPt at h
  rw [decide_eq_true_eq] at h
  refine (Tryz.utf8_AppendRune_plain B ov out.length (Lib.byteCells out) (p : Int) (by omega) (by omega) W ho (by omega) hB).mono ?_
  rintro e w' ⟨v', he, hown, o, hg⟩
  refine ⟨v', he, ?_, ?_⟩
  · rw [← Lib.byteCells_encodeRune, rune_enc p hp] at hown
    unfold Own
    rw [List.length_append]
    have hm : Lib.byteCells (out ++ encN p) = Lib.byteCells out ++ Lib.byteCells (encN p) := by simp [Lib.byteCells]
    have hlen : (Lib.byteCells (encN p)).length = (encN p).length := by simp [Lib.byteCells]
    rw [hm, ← hlen]; exact hown
  · exact ((Below.refl B W).alloc hB o).grown hg (by simp; omega) ho.lt
theorem valid_rune (p : Nat) (hp : isPt p = true) (W : World) : Calls Tryz.prog 55 #[.int .i32 (p : Int)] W fun e w' => e = .returned (.bool true) ∧ W = w' := by
  refine (Tryz.utf8_ValidRune (p : Int) W).mono ?_
  rintro e w' ⟨he, hw⟩
  refine ⟨?_, hw.symm⟩
  rw [he]
  unfold isPt at hp
  rw [decide_eq_true_eq] at hp
  unfold Lib.validRune
  rw [decide_eq_true (by omega)]
set_option maxRecDepth 100000 in
set_option maxHeartbeats 1000000 in
theorem tput_any (l : List Nat) (v : Value) (w : World) (hl : l.length ≤ 16384) (hp : ∀ p ∈ l, isPt p = true) (hv : IntSl v l w) :
    Calls Tryz.prog 97 #[v] w fun e w' => e = .returned (.tuple #[.string ⟨(l.flatMap encN).toArray⟩, .int .i64 0]) ∧ Below w.heap.size w w' := by
  rcases hv with ⟨a, cap, rfl, rfl⟩ | ⟨b, off, cap, rfl, hc⟩
  · go_enter Tryz.func97, Tryz.ntmps97
    go_wp2_with fail
    refine wp_loop_rounds 1 ?_; rw [rounds_succ]
    have HC := run_convert_own (Own.nil w.heap.size w)
    go_wp2_with fail
    go_ret2
    exact ⟨rfl, Below.refl _ _⟩
  · obtain ⟨R, hR⟩ : ∃ R, l.flatMap encN = R := ⟨_, rfl⟩
    have HR : Hid ([] ++ (l.drop 0).flatMap encN = R) := Lib.hid (by rw [List.drop_zero, List.nil_append]; exact hR)
    have HCL := Lib.hid hc
    have HPT := Lib.hid hp
    have HAR := Lib.hid (fun ov out p hp W ho hl hB => append_rune w.heap.size ov out p hp W ho hl hB)
    have HVR := Lib.hid (fun p hp W => valid_rune p hp W)
    have hlw : 0 < l.length → b < w.heap.size := fun h => lt_of_cell (hc 0 l[0] (List.getElem?_eq_getElem h))
    have t0 : decide ((16384 : Int) < (l.length : Int)) = false := decide_eq_false (by omega)
    rw [hR]
    clear hR hc hp
    go_enter Tryz.func97, Tryz.ntmps97
    go_wp2_with fail
    clear t0
    go_loopg [4, 12] l.length (fun gk u iv wr => ∃ (k : Nat) (out : List UInt8) (ov : Value), ov = u ∧ iv = .int .i64 (k : Int) ∧ gk + k = l.length ∧ out.length ≤ 4 * k ∧ Hid (Own w.heap.size ov out wr) ∧ Hid (out ++ (l.drop k).flatMap encN = R) ∧ Below w.heap.size w wr)
    case atStart => exact ⟨0, [], _, rfl, rfl, by omega, by simp, Lib.hid (Own.nil _ _), HR, Below.refl _ _⟩
    case round =>
      rename World => wo
      obtain ⟨k, out, ov, rfl, rfl, hg, hout, HO, HQ, hbw⟩ := hrel
      have hsz := hbw.size
      by_cases hlt : k < l.length
      · have c0 : wo.cell? ⟨b, off + k, none⟩ = some (.int .i64 (l[k] : Int)) := (hbw.cell (p := ⟨b, _, none⟩) (hlw (by omega))).trans (HCL.out k l[k] (List.getElem?_eq_getElem hlt))
        have hpk := HPT.out _ (List.getElem_mem hlt)
        have HQ2 : Hid ((out ++ encN l[k]) ++ (l.drop (k + 1)).flatMap encN = R) := Lib.hid (by rw [List.append_assoc, ← flat_drop l k hlt]; exact HQ.out)
        generalize l[k] = p at *
        have HA1 := Lib.hid (HAR.out ov out p hpk wo HO.out (by omega) hsz)
        have HV1 := Lib.hid (HVR.out p hpk)
        have hp2 := hpk
        unfold isPt at hp2
        rw [decide_eq_true_eq] at hp2
        have ep4 := (enc_pos p).2
        have t1 : decide ((p : Int) < 0) = false := decide_eq_false (by omega)
        have t2 : decide ((1114111 : Int) < (p : Int)) = false := decide_eq_false (by omega)
        have t3 : IntKind.i32.wrap (p : Int) = (p : Int) := IntWalk.i32_in _ (by omega)
        generalize (p : Int) = P at *
        clear HQ HO hpk hp2
        go_wp2_with fail
        refine (HV1.out _).mono ?_; rintro e w1 ⟨rfl, rfl⟩
        go_wp2_with fail
        refine HA1.out.mono ?_; rintro e w2 ⟨v', rfl, hown, hb⟩
        have HO3 := Lib.hid hown
        have hbw3 : Below w.heap.size w w2 := hbw.trans hb
        clear hb hown hbw
        go_wp2_with fail
        go_roundg (gk - 1)
        case measure => omega
        case rel => exact ⟨k + 1, out ++ encN p, _, rfl, by go_num, by omega, by simp; omega, HO3, HQ2, hbw3⟩
      · have HC := run_convert_own HO.out
        have HF : Hid (out = R) := Lib.hid (by rw [← HQ.out, List.drop_of_length_le (by omega)]; simp)
        clear HQ
        go_wp2_with fail
        go_ret2
        exact ⟨congrArg (fun x : List UInt8 => Ending.returned (.tuple #[.string ⟨x.toArray⟩, .int .i64 0])) HF.out, hbw⟩
theorem dec_at (s : ByteArray) (a : Nat) (h : a < s.size) : Lib.decodeGo (s.extract a s.size) = Lib.decodeL (s.data.toList.drop a) := by
  have hl : (s.extract a s.size).data.toList = s.data.toList.drop a := by
    have h5 := ext_list s a (s.size - a)
    rw [show a + (s.size - a) = s.size from by omega, ByteArray.toList_eq, List.take_of_length_le (by rw [List.length_drop, Array.length_toList]; show s.data.size - a ≤ s.size - a; exact Nat.le_refl _)] at h5
    exact h5
  have hz : (s.extract a s.size).size ≠ 0 := by simp; omega
  unfold Lib.decodeGo
  rw [if_neg hz]
  have := Lib.decodeL_drop (s.extract a s.size) 0
  rw [List.drop_zero, hl] at this
  exact this.symm
theorem well_three (l : List UInt8) (hne : l ≠ []) (hw : wellB l = true) : ¬ ((Lib.decodeL l).1 = 65533 ∧ (Lib.decodeL l).2 < 3) := by
  obtain ⟨d1, d2, d3, d4⟩ := decode_pt l hne hw
  rintro ⟨h1, h2⟩
  have h3 := congrArg List.length d4
  rw [enc_len _ d1, List.length_take, h1] at h3
  simp at h3
  omega
set_option maxRecDepth 100000 in
theorem told_any (q m : Int) (hq : 0 ≤ q ∧ q ≤ 1114111) (w : World) (b : Bool) (hb : (q == 65533 && decide (m < 3)) = b) :
    Calls Tryz.prog 103 #[.int .i32 q, .int .i64 m] w fun e w' => e = .returned (if b then .tuple #[.int .i64 0, .int .i64 0, .int .i64 10] else .tuple #[.int .i64 q, .int .i64 m, .int .i64 0]) ∧ w = w' := by
  have t3 : IntKind.i64.wrap q = q := IntWalk.i64_in _ (by omega)
  have t4 : 0 ≤ q := hq.1
  cases h1 : q == 65533 with
  | false =>
    rw [h1, Bool.false_and] at hb
    subst hb
    clear hq
    go_enter Tryz.func103, Tryz.ntmps103
    go_wp2_with fail
    go_ret3
    exact ⟨rfl, rfl⟩
  | true =>
    rw [h1, Bool.true_and] at hb
    clear hq
    cases b with
    | true =>
      go_enter Tryz.func103, Tryz.ntmps103
      go_wp2_with fail
      go_ret3
      exact ⟨rfl, rfl⟩
    | false =>
      go_enter Tryz.func103, Tryz.ntmps103
      go_wp2_with fail
      go_ret3
      exact ⟨rfl, rfl⟩
set_option maxRecDepth 100000 in
theorem tnext_any (s : ByteArray) (a : Nat) (ha : a < s.size) (hs : s.size ≤ 1000000) (w : World) (hE : EnvU w) :
    Calls Tryz.prog 96 #[.string s, .int .i64 (a : Int)] w fun e w' => e = .returned (nextV (s.data.toList.drop a)) ∧ Below w.heap.size w w' := by
  have HD : Hid (Calls Tryz.prog 53 #[.string (s.extract a s.size)] w fun e w' => e = .returned (.tuple #[.int .i32 ((Lib.decodeL (s.data.toList.drop a)).1 : Nat), .int .i64 ((Lib.decodeL (s.data.toList.drop a)).2 : Nat)]) ∧ Below w.heap.size w w') := Lib.hid (by
    have := Tryz.utf8_DecodeRuneInString (s.extract a s.size) w hE
    rw [dec_at s a ha] at this
    exact this)
  have hne : s.data.toList.drop a ≠ [] := by
    intro h
    have := congrArg List.length h
    rw [List.length_drop, Array.length_toList] at this
    have h2 : s.data.size = s.size := rfl
    simp at this; omega
  have hrune := Lib.decodeL_rune (s.data.toList.drop a)
  have hwd := Lib.decodeL_width (s.data.toList.drop a)
  obtain ⟨V, hV⟩ : ∃ V, nextV (s.data.toList.drop a) = V := ⟨_, rfl⟩
  have HT : Hid (∀ W, Calls Tryz.prog 103 #[.int .i32 ((Lib.decodeL (s.data.toList.drop a)).1 : Nat), .int .i64 ((Lib.decodeL (s.data.toList.drop a)).2 : Nat)] W fun e w' => (∃ x y z : Int, V = .tuple #[.int .i64 x, .int .i64 y, .int .i64 z] ∧ e = .returned (.tuple #[.int .i64 x, .int .i64 y, .int .i64 z])) ∧ W = w') := Lib.hid fun W => by
    refine (told_any _ _ ⟨by omega, by omega⟩ W _ rfl).mono ?_
    rintro e w' ⟨rfl, rfl⟩
    refine ⟨?_, rfl⟩
    rw [← hV]
    unfold nextV
    cases hw : wellB (s.data.toList.drop a) with
    | true =>
      have h3 := well_three _ hne hw
      have hb : ((((Lib.decodeL (s.data.toList.drop a)).1 : Nat) : Int) == 65533 && decide ((((Lib.decodeL (s.data.toList.drop a)).2 : Nat) : Int) < 3)) = false := by
        rw [Bool.and_eq_false_iff]
        by_cases h4 : (Lib.decodeL (s.data.toList.drop a)).1 = 65533
        · exact Or.inr (decide_eq_false (fun h5 => h3 ⟨h4, by omega⟩))
        · exact Or.inl (beq_eq_false_iff_ne.2 (by omega))
      rw [hb]
      exact ⟨_, _, _, rfl, rfl⟩
    | false =>
      have hw2 := hw
      simp only [wellB, Bool.not_eq_false', decide_eq_true_eq] at hw2
      have hb : ((((Lib.decodeL (s.data.toList.drop a)).1 : Nat) : Int) == 65533 && decide ((((Lib.decodeL (s.data.toList.drop a)).2 : Nat) : Int) < 3)) = true := by
        rw [hw2.1, hw2.2]; rfl
      rw [hb]
      exact ⟨_, _, _, rfl, rfl⟩
  rw [hV]
  clear hV hne hrune hwd hE
  generalize (((Lib.decodeL (s.data.toList.drop a)).1 : Nat) : Int) = x at *
  generalize (((Lib.decodeL (s.data.toList.drop a)).2 : Nat) : Int) = y at *
  have h1 : ¬ (s.size : Int) ≤ (a : Int) := by omega
  have h2 : (a : Int) ≤ (s.size : Int) := by omega
  go_enter Tryz.func96, Tryz.ntmps96
  go_wp2_with fail
  refine HD.out.mono ?_; rintro e w1 ⟨rfl, hb⟩
  have HB := Lib.hid hb
  clear hb
  go_wp2_with fail
  refine (HT.out _).mono ?_; rintro e w2 ⟨⟨x', y', z', rfl, rfl⟩, rfl⟩
  go_wp2_with fail
  go_ret3
  exact ⟨rfl, HB.out⟩
end Go.Proofs.YtgclnjogoghhcaaGreatDoor
namespace Go.Proofs.YtgclnjogoghhcaaGreatDoor
open Go.RowKit
theorem enc_cases (r : Int) (h : 128 ≤ r) :
    (∃ b0 b1 : UInt8, Utf8.encode r = ⟨#[b0, b1]⟩ ∧ 192 ≤ b0.toNat ∧ b0.toNat ≤ 223 ∧ 128 ≤ b1.toNat ∧ b1.toNat ≤ 191 ∧ r ≠ 65279) ∨
    (∃ b0 b1 b2 : UInt8, Utf8.encode r = ⟨#[b0, b1, b2]⟩ ∧ 128 ≤ b1.toNat ∧ b1.toNat ≤ 191 ∧ 128 ≤ b2.toNat ∧ b2.toNat ≤ 191 ∧ (r = 65279 ↔ b0.toNat = 239 ∧ b1.toNat = 187 ∧ b2.toNat = 191)) ∨
    (∃ b0 b1 b2 b3 : UInt8, Utf8.encode r = ⟨#[b0, b1, b2, b3]⟩ ∧ 128 ≤ b1.toNat ∧ b1.toNat ≤ 191 ∧ 128 ≤ b2.toNat ∧ b2.toNat ≤ 191 ∧ 128 ≤ b3.toNat ∧ b3.toNat ≤ 191 ∧ r ≠ 65279) := by
  have hc : ∃ c : Nat, 128 ≤ c ∧ c < 1114112 ∧ (r = 65279 ↔ c = 65279) ∧ Utf8.encode r = (let b (n : Nat) : UInt8 := UInt8.ofNat n
      if c < 0x80 then ⟨#[b c]⟩
      else if c < 0x800 then ⟨#[b (0xC0 + c / 64), b (0x80 + c % 64)]⟩
      else if c < 0x10000 then ⟨#[b (0xE0 + c / 4096), b (0x80 + c / 64 % 64), b (0x80 + c % 64)]⟩
      else ⟨#[b (0xF0 + c / 262144), b (0x80 + c / 4096 % 64), b (0x80 + c / 64 % 64), b (0x80 + c % 64)]⟩) := by
    refine ⟨if Utf8.valid r then r.toNat else Utf8.runeError, ?_, ?_, ?_, rfl⟩
    · split
      · omega
      · decide
    · split
      · rename_i hv
        simp only [Utf8.valid, Bool.or_eq_true, Bool.and_eq_true, decide_eq_true_eq] at hv
        omega
      · decide
    · split
      · omega
      · rename_i hv
        constructor
        · intro e; subst e; exact absurd (by decide) hv
        · intro e; exact absurd e (by decide)
  obtain ⟨c, h1, h2, h3, e⟩ := hc
  rw [e]
  simp only
  split
  · exfalso; omega
  split
  · rename_i h4
    refine Or.inl ⟨_, _, rfl, ?_, ?_, ?_, ?_, by omega⟩ <;> rw [UInt8.toNat_ofNat'] <;> omega
  · rename_i h4
    split
    · rename_i h5
      refine Or.inr (Or.inl ⟨_, _, _, rfl, ?_, ?_, ?_, ?_, ?_⟩)
      · rw [UInt8.toNat_ofNat']; omega
      · rw [UInt8.toNat_ofNat']; omega
      · rw [UInt8.toNat_ofNat']; omega
      · rw [UInt8.toNat_ofNat']; omega
      · rw [h3, UInt8.toNat_ofNat', UInt8.toNat_ofNat', UInt8.toNat_ofNat']; omega
    · rename_i h5
      refine Or.inr (Or.inr ⟨_, _, _, _, rfl, ?_, ?_, ?_, ?_, ?_, ?_, by omega⟩) <;> rw [UInt8.toNat_ofNat'] <;> omega
theorem tail_none (l : List UInt8) (hl : (List.range 256).all (fun n => !decide (128 ≤ n) || !decide (n ≤ 191) || n == 187 || n == 191 || Lib.indexByte l (UInt8.ofNat n) == -1) = true) (y : UInt8) (h1 : 128 ≤ y.toNat) (h2 : y.toNat ≤ 191) (h3 : y ≠ 187) (h4 : y ≠ 191) : Lib.indexByte l y = -1 := by
  have := List.all_eq_true.1 hl y.toNat (List.mem_range.2 (UInt8.toNat_lt y))
  have n3 : y.toNat ≠ 187 := fun e => h3 (by rw [← UInt8.ofNat_toNat (x := y), e]; rfl)
  have n4 : y.toNat ≠ 191 := fun e => h4 (by rw [← UInt8.ofNat_toNat (x := y), e]; rfl)
  simp only [UInt8.ofNat_toNat] at this
  simpa [h1, h2, n3, n4] using this
theorem u8_ne (a b : UInt8) (h : a ≠ b) : ¬ ((b.toNat : Int) = (a.toNat : Int)) := fun e => h (by
  have e2 : a.toNat = b.toNat := by omega
  rw [← UInt8.ofNat_toNat (x := a), ← UInt8.ofNat_toNat (x := b), e2])
set_option maxRecDepth 100000 in
theorem rune_err (w : World) : Calls Tryz.prog 45 #[.string ⟨#[32, 9, 13, 10, 44, 239, 187, 191]⟩, .int .i32 65533] w fun e w' => e = .returned (.int .i64 (-1)) ∧ Below w.heap.size w w' := by
  have n0 := fun (w : World) ty => run_next_ascii (P := Tryz.prog) w ⟨#[32, 9, 13, 10, 44, 239, 187, 191]⟩ 0 ty (by decide) (by decide)
  have n1 := fun (w : World) ty => run_next_ascii (P := Tryz.prog) w ⟨#[32, 9, 13, 10, 44, 239, 187, 191]⟩ 1 ty (by decide) (by decide)
  have n2 := fun (w : World) ty => run_next_ascii (P := Tryz.prog) w ⟨#[32, 9, 13, 10, 44, 239, 187, 191]⟩ 2 ty (by decide) (by decide)
  have n3 := fun (w : World) ty => run_next_ascii (P := Tryz.prog) w ⟨#[32, 9, 13, 10, 44, 239, 187, 191]⟩ 3 ty (by decide) (by decide)
  have n4 := fun (w : World) ty => run_next_ascii (P := Tryz.prog) w ⟨#[32, 9, 13, 10, 44, 239, 187, 191]⟩ 4 ty (by decide) (by decide)
  have hd : Utf8.decode ⟨#[32, 9, 13, 10, 44, 239, 187, 191]⟩ 5 = (65279, 3) := by decide +kernel
  have n5 := fun (w : World) ty => run_next_any (P := Tryz.prog) w ⟨#[32, 9, 13, 10, 44, 239, 187, 191]⟩ 5 ty (by decide)
  rw [hd] at n5
  have n8 := fun (w : World) ty => run_next_end (P := Tryz.prog) w ⟨#[32, 9, 13, 10, 44, 239, 187, 191]⟩ 8 ty (by decide)
  clear hd
  go_enter Tryz.func45, Tryz.ntmps45
  go_wp2_with fail
  refine wp_loop_rounds 7 ?_
  rw [rounds_succ]
  go_wp2_with fail
  rw [rounds_succ]
  go_wp2_with fail
  rw [rounds_succ]
  go_wp2_with fail
  rw [rounds_succ]
  go_wp2_with fail
  rw [rounds_succ]
  go_wp2_with fail
  rw [rounds_succ]
  go_wp2_with fail
  rw [rounds_succ]
  go_wp2_with fail
  go_ret
  refine ⟨rfl, ?_⟩
  unfold World.iter
  exact (Below.refl _ _).alloc (Nat.le_refl _) _
set_option maxRecDepth 100000 in
theorem rune_hid (r : Int) (h : 128 ≤ r) (h2 : r ≤ 2147483647) (w : World) :
    Calls Tryz.prog 45 #[.string ⟨#[32, 9, 13, 10, 44, 239, 187, 191]⟩, .int .i32 r] w fun e w' => e = .returned (.int .i64 (if r = 65279 then 5 else -1)) ∧ Below w.heap.size w w' := by
  by_cases he : r = 65533
  · subst he
    exact rune_err w
  have HV := Lib.hid (fun w => Tryz.utf8_ValidRune r w)
  obtain ⟨vb, hvb⟩ : ∃ b, Lib.validRune r = b := ⟨_, rfl⟩
  rw [hvb] at HV
  cases vb with
  | false =>
    have hne : ¬ r = 65279 := by
      intro e; subst e; exact absurd hvb (by decide)
    rw [if_neg hne]
    have h0 : 0 ≤ r := by omega
    have h1 : ¬ r < 128 := by omega
    clear hvb hne
    go_enter Tryz.func45, Tryz.ntmps45
    go_wp2_with fail
    refine (HV.out _).mono ?_; rintro e w1 ⟨rfl, rfl⟩
    go_wp2_with fail
    go_ret
    exact ⟨rfl, Below.refl _ _⟩
  | true =>
    have HV2 : Hid (∀ w, Calls Tryz.prog 55 #[.int .i32 r] w fun e w' => e = .returned (.bool true) ∧ w = w') := Lib.hid fun w => (HV.out w).mono fun e w' ⟨h1, h2⟩ => ⟨h1, h2.symm⟩
    rcases enc_cases r h with ⟨b0, b1, e, l00, l0, l1, u1, hn⟩ | ⟨b0, b1, b2, e, l1, u1, l2, u2, hn⟩ | ⟨b0, b1, b2, b3, e, l1, u1, l2, u2, l3, u3, hn⟩
    · rw [if_neg hn]
      by_cases y1 : b1 = 187
      · exact rune_2_187_n r h h2 b0 b1 he (Lib.hid e) HV2 (by omega) (by omega) y1 (by omega) w
      by_cases y2 : b1 = 191
      · exact rune_2_191_n r h h2 b0 b1 he (Lib.hid e) HV2 (by omega) (by omega) y2 (by omega) w
      exact rune_2_other r h h2 b0 b1 he (Lib.hid e) HV2 (by omega) (by omega) (Lib.hid (tail_none _ (by decide +kernel) _ l1 u1 y1 y2)) w
    · by_cases y1 : b2 = 187
      · rw [if_neg (fun e => by have := (hn.1 e).2.2; rw [y1] at this; exact absurd this (by decide))]
        exact rune_3_187_n r h h2 b0 b1 b2 he (Lib.hid e) HV2 (by omega) (by omega) y1 (by omega) w
      by_cases y2 : b2 = 191
      · by_cases y3 : b1 = 187
        · by_cases y4 : b0 = 239
          · rw [if_pos (hn.2 ⟨by rw [y4]; rfl, by rw [y3]; rfl, by rw [y2]; rfl⟩)]
            exact rune_3_191_yy r h h2 b0 b1 b2 he (Lib.hid e) HV2 (by omega) (by omega) y2 y3 y4 w
          · rw [if_neg (fun e => y4 (by have := (hn.1 e).1; rw [← UInt8.ofNat_toNat (x := b0), this]; rfl))]
            exact rune_3_191_yn r h h2 b0 b1 b2 he (Lib.hid e) HV2 (by omega) (by omega) y2 y3 (u8_ne _ 239 y4) w
        · rw [if_neg (fun e => y3 (by have := (hn.1 e).2.1; rw [← UInt8.ofNat_toNat (x := b1), this]; rfl))]
          exact rune_3_191_n r h h2 b0 b1 b2 he (Lib.hid e) HV2 (by omega) (by omega) y2 (u8_ne _ 187 y3) w
      rw [if_neg (fun e => y2 (by have := (hn.1 e).2.2; rw [← UInt8.ofNat_toNat (x := b2), this]; rfl))]
      exact rune_3_other r h h2 b0 b1 b2 he (Lib.hid e) HV2 (by omega) (by omega) (Lib.hid (tail_none _ (by decide +kernel) _ l2 u2 y1 y2)) w
    · rw [if_neg hn]
      by_cases y1 : b3 = 187
      · exact rune_4_187_n r h h2 b0 b1 b2 b3 he (Lib.hid e) HV2 (by omega) (by omega) y1 (by omega) w
      by_cases y2 : b3 = 191
      · by_cases y3 : b2 = 187
        · exact rune_4_191_yn r h h2 b0 b1 b2 b3 he (Lib.hid e) HV2 (by omega) (by omega) y2 y3 (by omega) w
        · exact rune_4_191_n r h h2 b0 b1 b2 b3 he (Lib.hid e) HV2 (by omega) (by omega) y2 (u8_ne _ 187 y3) w
      exact rune_4_other r h h2 b0 b1 b2 b3 he (Lib.hid e) HV2 (by omega) (by omega) (Lib.hid (tail_none _ (by decide +kernel) _ l3 u3 y1 y2)) w
theorem set_ascii (c : UInt8) (h : c.toNat < 128) : decide (0 ≤ Lib.indexByte [32, 9, 13, 10, 44, 239, 187, 191] c) = setC c.toNat := by
  have hall := (by decide +kernel : ∀ i : Fin 256, i.val < 128 → decide (0 ≤ Lib.indexByte [32, 9, 13, 10, 44, 239, 187, 191] (UInt8.ofNat i.val)) = setC (UInt8.ofNat i.val).toNat) ⟨c.toNat, UInt8.toNat_lt c⟩ h
  simpa only [UInt8.ofNat_toNat] using hall
set_option maxRecDepth 100000 in
theorem holds_hid (r : Nat) (h : r ≤ 1114111) (w : World) :
    Calls Tryz.prog 54 #[.string ⟨#[32, 9, 13, 10, 44, 239, 187, 191]⟩, .int .i32 (r : Int)] w fun e w' => e = .returned (.bool (setC r)) ∧ Below w.heap.size w w' := by
  have HX : ∃ ix : Int, decide (0 ≤ ix) = setC r ∧ Hid (∀ w, Calls Tryz.prog 45 #[.string ⟨#[32, 9, 13, 10, 44, 239, 187, 191]⟩, .int .i32 (r : Int)] w fun e w' => e = .returned (.int .i64 ix) ∧ Below w.heap.size w w') := by
    by_cases h1 : r < 128
    · have hc : (UInt8.ofNat r).toNat = r := by rw [UInt8.toNat_ofNat']; omega
      refine ⟨Lib.indexByte [32, 9, 13, 10, 44, 239, 187, 191] (UInt8.ofNat r), ?_, Lib.hid fun w => ?_⟩
      · have := set_ascii (UInt8.ofNat r) (by omega)
        rw [hc] at this
        exact this
      · have := Tryz.strings_IndexRune_ascii ⟨#[32, 9, 13, 10, 44, 239, 187, 191]⟩ (r : Int) w (by omega) (by omega)
        exact this.mono fun e w' ⟨h1, h2⟩ => ⟨h1, h2 ▸ Below.refl _ _⟩
    · refine ⟨if (r : Int) = 65279 then 5 else -1, ?_, Lib.hid fun w => rune_hid (r : Int) (by omega) (by omega) w⟩
      by_cases h2 : r = 65279
      · subst h2; rfl
      · rw [if_neg (by omega)]
        unfold setC
        have t1 : (r == 32) = false := beq_eq_false_iff_ne.2 (by omega)
        have t2 : (r == 9) = false := beq_eq_false_iff_ne.2 (by omega)
        have t3 : (r == 13) = false := beq_eq_false_iff_ne.2 (by omega)
        have t4 : (r == 10) = false := beq_eq_false_iff_ne.2 (by omega)
        have t5 : (r == 44) = false := beq_eq_false_iff_ne.2 (by omega)
        have t6 : (r == 65279) = false := beq_eq_false_iff_ne.2 h2
        rw [t1, t2, t3, t4, t5, t6]; rfl
  obtain ⟨ix, h1, HX⟩ := HX
  obtain ⟨b, hb⟩ : ∃ b, setC r = b := ⟨_, rfl⟩
  rw [hb] at h1 ⊢
  cases b with
  | true =>
    have hge : 0 ≤ ix := by simpa using h1
    clear h1 hb
    go_enter Tryz.func54, Tryz.ntmps54
    go_wp2_with fail
    refine (HX.out _).mono ?_; rintro e w1 ⟨rfl, hb⟩
    go_wp2_with fail
    go_ret
    exact ⟨rfl, hb⟩
  | false =>
    have hge : decide (0 ≤ ix) = false := h1
    clear h1 hb
    go_enter Tryz.func54, Tryz.ntmps54
    go_wp2_with fail
    refine (HX.out _).mono ?_; rintro e w1 ⟨rfl, hb⟩
    go_wp2_with fail
    go_ret
    exact ⟨rfl, hb⟩
theorem dec_whole (t : ByteArray) (h : 0 < t.size) : Lib.decodeGo t = Lib.decodeL t.data.toList := by
  have := dec_at t 0 h
  rw [List.drop_zero] at this
  rw [← this]
  have e := extract_drop t 0
  rw [List.drop_zero] at e
  rw [bytes_ext' e]
theorem ret_s {a b : ByteArray} (h : a = b) : Ending.returned (.string a) = .returned (.string b) := by rw [h]
set_option maxRecDepth 100000 in
theorem trimU_any (s : ByteArray) (hs : s.size ≤ 1000000) (w : World) (hE : EnvU w) :
    Calls Tryz.prog 43 #[.string s, .string ⟨#[32, 9, 13, 10, 44, 239, 187, 191]⟩] w fun e w' => e = .returned (.string ⟨(hid0 s.data.toList).toArray⟩) ∧ Below w.heap.size w w' := by
  obtain ⟨r, hr⟩ : ∃ r, hid0 s.data.toList = r := ⟨_, rfl⟩
  rw [hr]
  have HR := Lib.hid hr
  have HE := Lib.hid (fun (W : World) (h : Below w.heap.size w W) => hE.below h)
  clear hr hE
  go_enter Tryz.func43, Tryz.ntmps43
  go_wp2_with fail
  go_loopg [0] s.size (fun g v wx => ∃ t : ByteArray, v = .string t ∧ t.size = g ∧ t.size ≤ 1000000 ∧ Hid (hid0 t.data.toList = r) ∧ Hid (Below w.heap.size w wx))
  case atStart => exact ⟨s, rfl, rfl, hs, HR, Lib.hid (Below.refl _ _)⟩
  case round =>
    rename World => wo
    obtain ⟨t, rfl, htg, ht6, HT, HB⟩ := hrel
    by_cases h0 : 0 < t.size
    · obtain ⟨c, l, hcl⟩ : ∃ c l, t.data.toList = c :: l := by
        cases hx : t.data.toList with
        | nil => have := len_z t; rw [hx] at this; simp at this; omega
        | cons c l => exact ⟨c, l, rfl⟩
      have hwd := Lib.decodeL_width (c :: l)
      have hwl := Lib.decodeL_le (c :: l) (by simp)
      have hrn := Lib.decodeL_rune (c :: l)
      have hhid := hid_rune c l
      rw [← hcl] at hwd hrn hhid hwl
      have hlen := len_z t
      have HD := Lib.hid (Tryz.utf8_DecodeRuneInString t wo (HE.out wo HB.out))
      rw [dec_whole t h0] at HD
      generalize (Lib.decodeL t.data.toList).1 = q at *
      generalize (Lib.decodeL t.data.toList).2 = n at *
      have hn1 : 1 ≤ n := hwd
      have hn2 : n ≤ t.size := by omega
      have HC := Lib.hid (fun W => holds_hid q (by omega) W)
      have hext : (t.extract n t.size).size = t.size - n := by
        have h5 := len_z (t.extract n t.size)
        rw [extract_drop, List.length_drop] at h5
        omega
      obtain ⟨b, hb⟩ : ∃ b, setC q = b := ⟨_, rfl⟩
      rw [hb] at HC hhid
      have HT2 := Lib.hid hhid
      clear hhid hcl hwd hlen hrn hb hwl
      cases b with
      | false =>
        have hF : Hid (t = ⟨r.toArray⟩) := Lib.hid (by
          apply bytes_ext'
          rw [← HT.out, HT2.out]; rfl)
        clear hext
        go_wp2_with fail
        refine HD.out.mono ?_; rintro e w1 ⟨rfl, hb1⟩
        have HB1 := Lib.hid (HB.out.trans (hb1.mono HB.out.size))
        clear hb1
        go_wp2_with fail
        refine (HC.out _).mono ?_; rintro e w2 ⟨rfl, hb2⟩
        have HB2 := Lib.hid (HB1.out.trans (hb2.mono HB1.out.size))
        clear hb2
        go_wp2_with fail
        go_ret
        exact ⟨ret_s hF.out, HB2.out⟩
      | true =>
        have hle : (n : Int) ≤ (t.size : Int) := by omega
        have hF : Hid (hid0 (t.extract n t.size).data.toList = r) := Lib.hid (by
          rw [extract_drop, ← HT.out, HT2.out]; rfl)
        obtain ⟨t2, ht2⟩ : ∃ t2, t.extract n t.size = t2 := ⟨_, rfl⟩
        rw [ht2] at hF hext
        obtain ⟨g, rfl⟩ : ∃ g, gk = g + n := ⟨gk - n, by omega⟩
        have hz2 : t2.size = g := by omega
        have HZ2 := Lib.hid hz2
        have HTG := Lib.hid htg
        clear hext hz2 htg
        go_wp2_with fail
        refine HD.out.mono ?_; rintro e w1 ⟨rfl, hb1⟩
        have HB1 := Lib.hid (HB.out.trans (hb1.mono HB.out.size))
        clear hb1
        go_wp2_with fail
        refine (HC.out _).mono ?_; rintro e w2 ⟨rfl, hb2⟩
        have HB2 := Lib.hid (HB1.out.trans (hb2.mono HB1.out.size))
        clear hb2
        go_wp2_with fail
        go_roundg g
        case measure => omega
        case rel => exact ⟨t2, rfl, HZ2.out, by have := HZ2.out; have := HTG.out; omega, hF, HB2⟩
    · have hF : Hid (t = ⟨r.toArray⟩) := Lib.hid (by
        apply bytes_ext'
        have h5 := len_z t
        have h6 : t.data.toList = [] := List.length_eq_zero_iff.1 (by omega)
        rw [← HT.out, h6]; rfl)
      go_wp2_with fail
      go_ret
      exact ⟨ret_s hF.out, HB.out⟩
set_option maxRecDepth 100000 in
set_option maxHeartbeats 1000000 in
/-- TrimLeft at what lex passes over. -/
theorem trimH_any (s : ByteArray) (hs : s.size ≤ 1000000) (w : World) (hE : EnvU w) :
    Calls Tryz.prog 28 #[.string s, .string ⟨#[32, 9, 13, 10, 44, 239, 187, 191]⟩] w fun e w' => e = .returned (.string ⟨(hid0 s.data.toList).toArray⟩) ∧ Below w.heap.size w w' := by
  rcases empty_z s with ⟨h0, h1, h2, h3⟩ | ⟨h0, h1, h2, h3⟩
  · have HU := Lib.hid (fun W (h : Below w.heap.size w W) => trimU_any s hs W (hE.below h))
    have HN := Lib.hid (fun W => set_none W)
    have hi2 : (Tryz.prog.info? 85).map (·.size) = some (Lib.setCells hidB).size := by rw [Lib.setCells_size]; exact set_size
    have hsc : (storeCells ⟨w.heap.size + 1, 0, none⟩ (Lib.setCells hidB).toList 0).run Tryz.prog ((w.alloc (.cells (Lib.setCells hidB) 85)).alloc (.cells (Array.replicate 256 (.bool false)) 85)) = .ok () ((w.alloc (.cells (Lib.setCells hidB) 85)).alloc (.cells (Lib.setCells hidB) 85)) := by
      have := run_storeCells_new (P := Tryz.prog) (w.alloc (.cells (Lib.setCells hidB) 85)) 85 (Array.replicate 256 (.bool false)) (Lib.setCells hidB) hi2 (by rw [Lib.setCells_size, Array.size_replicate]) (Lib.setCells_one _)
      simpa using this
    have hv116 := set_zero
    clear h3 hE
    go_enter Tryz.func28, Tryz.ntmps28
    go_wp2_with fail
    refine (HN.out _).mono ?_; rintro e w1 ⟨rfl, rfl⟩
    go_wp2_with fail
    (try (rw [Oper.upon_skip]; go_wp2_with fail))
    clear hsc
    refine (HU.out _ (((Below.refl _ _).alloc (Nat.le_refl _) _).alloc (by simp) _)).mono ?_; rintro e w2 ⟨rfl, hb⟩
    go_wp2_with fail
    go_ret
    exact ⟨rfl, (((Below.refl _ _).alloc (Nat.le_refl _) _).alloc (by simp) _).trans (hb.mono (by simp; omega))⟩
  · have hF : (⟨(hid0 s.data.toList).toArray⟩ : ByteArray) = s := by
      have h6 : s.data.toList = [] := List.length_eq_zero_iff.1 (by rw [len_z]; exact h0)
      rw [bytes_ext' h6]; rfl
    rw [hF]
    clear hF h3
    go_enter Tryz.func28, Tryz.ntmps28
    go_wp2_with fail
    go_ret
    exact ⟨rfl, Below.refl _ _⟩
end Go.Proofs.YtgclnjogoghhcaaGreatDoor
namespace Go.Proofs.YtgclnjogoghhcaaGreatDoor
open Go.Lib
/-- What is left, and no line end ahead of it. -/
def Nl (l t : List UInt8) : Prop := ∃ u, l = u ++ t ∧ ∀ c ∈ u, c ≠ 10
theorem Nl.refl (l : List UInt8) : Nl l l := ⟨[], rfl, fun c h => by cases h⟩
theorem Nl.trans {l t v : List UInt8} (h : Nl l t) (h' : Nl t v) : Nl l v := by
  obtain ⟨u, rfl, hu⟩ := h
  obtain ⟨w, rfl, hw⟩ := h'
  refine ⟨u ++ w, by rw [List.append_assoc], fun c hc => ?_⟩
  rcases List.mem_append.1 hc with hc | hc
  · exact hu c hc
  · exact hw c hc
theorem Nl.one {c : UInt8} {r : List UInt8} (h : c ≠ 10) : Nl (c :: r) r := ⟨[c], rfl, fun x hx => by rw [List.mem_singleton] at hx; subst hx; exact h⟩
theorem nl_hex : ∀ (k n : Nat) (l : List UInt8) (m : Nat) (t : List UInt8), hexsJ k n l = some (m, t) → Nl l t
  | 0, n, l, m, t, h => by
    rw [hexsJ] at h
    injection h with h; injection h with h1 h2
    subst h2
    exact Nl.refl l
  | k + 1, n, [], m, t, h => by rw [hexsJ] at h; cases h
  | k + 1, n, c :: r, m, t, h => by
    rw [hexsJ] at h
    cases hd : hexJ c with
    | none => rw [hd] at h; cases h
    | some d =>
      rw [hd] at h
      have hc : c ≠ 10 := by intro e; subst e; rw [show hexJ 10 = none from by decide] at hd; cases hd
      exact (Nl.one hc).trans (nl_hex k _ r m t h)
theorem nl_esc (l : List UInt8) (p : Nat) (t : List UInt8) (h : escJ l = some (p, t)) : Nl l t := by
  cases l with
  | nil => rw [escJ] at h; cases h
  | cons c r =>
    rw [escJ] at h
    cases hl : letJ c with
    | some q =>
      rw [hl] at h
      injection h with h; injection h with h1 h2
      subst h2
      exact Nl.one (by intro e; subst e; rw [show letJ 10 = none from by decide] at hl; cases hl)
    | none =>
      rw [hl] at h
      simp only at h
      split at h
      · cases h
      · rename_i hu
        have hu2 : c = 117 := by simpa using hu
        subst hu2
        have k0 : Nl (117 :: r) r := Nl.one (by decide)
        cases hx : hexsJ 4 0 r with
        | none => rw [hx] at h; cases h
        | some nt =>
          obtain ⟨n, t1⟩ := nt
          rw [hx] at h
          simp only at h
          have k1 := k0.trans (nl_hex 4 0 r n t1 hx)
          split at h
          · cases h
          · split at h
            · unfold lowJ at h
              cases ht : tkJ [92, 117] t1 with
              | none => rw [ht] at h; cases h
              | some t2 =>
                rw [ht] at h
                simp only at h
                have k3 : Nl t1 t2 := by
                  unfold tkJ at ht
                  split at ht
                  · rename_i hp
                    injection ht with ht
                    obtain ⟨z, rfl⟩ := List.isPrefixOf_iff_prefix.1 hp
                    subst ht
                    exact ⟨[92, 117], rfl, by decide⟩
                  · cases ht
                cases hx2 : hexsJ 4 0 t2 with
                | none => rw [hx2] at h; cases h
                | some mt =>
                  obtain ⟨m, t3⟩ := mt
                  rw [hx2] at h
                  simp only at h
                  have k5 := nl_hex 4 0 t2 m t3 hx2
                  split at h
                  · cases h
                  · injection h with h; injection h with h1 h2
                    subst h2
                    exact (k1.trans k3).trans k5
            · injection h with h; injection h with h1 h2
              subst h2
              exact k1
theorem nl_go : ∀ (f : Nat) (l : List UInt8) (P : List Nat) (t : List UInt8), validD l = true → strGo f l = some (P, t) → Nl l t
  | 0, l, P, t, _, h => by rw [strGo] at h; cases h
  | f + 1, [], P, t, _, h => by rw [strGo] at h; cases h
  | f + 1, c :: r, P, t, hv, h => by
    rw [strGo] at h
    split at h
    · rename_i hc
      injection h with h; injection h with h1 h2
      subst h2; subst hc
      exact Nl.one (by decide)
    · split at h
      · cases h
      · rename_i h32
        have hc10 : c ≠ 10 := by intro e; subst e; exact h32 (by decide)
        split at h
        · rename_i hc
          subst hc
          cases he : escJ r with
          | none => rw [he] at h; cases h
          | some pt =>
            obtain ⟨p, t1⟩ := pt
            rw [he] at h
            simp only at h
            cases hg : strGo f t1 with
            | none => rw [hg] at h; cases h
            | some x =>
              obtain ⟨Q, u⟩ := x
              rw [hg] at h
              injection h with h; injection h with h1 h2
              simp only at h2
              subst h2
              have k := (cut_cons 92 r (by decide)).trans (cut_esc r p t1 he).1
              exact ((Nl.one hc10).trans (nl_esc r p t1 he)).trans (nl_go f t1 Q u (k.2 hv) hg)
        · have hs := valid_step (c :: r) (by simp)
          rw [hv] at hs
          have hs2 := hs.symm
          rw [Bool.and_eq_true] at hs2
          obtain ⟨hw, hv2⟩ := hs2
          obtain ⟨d1, d2, d3, d4⟩ := decode_pt (c :: r) (by simp) hw
          cases hg : strGo f ((c :: r).drop (decodeL (c :: r)).2) with
          | none => rw [hg] at h; cases h
          | some x =>
            obtain ⟨Q, u⟩ := x
            rw [hg] at h
            injection h with h; injection h with h1 h2
            simp only at h2
            subst h2
            refine Nl.trans ⟨(c :: r).take (decodeL (c :: r)).2, (List.take_append_drop _ _).symm, fun x hx => ?_⟩ (nl_go f _ Q u hv2 hg)
            rw [← d4] at hx
            by_cases hp : (decodeL (c :: r)).1 < 128
            · have he : encN (decodeL (c :: r)).1 = [UInt8.ofNat (decodeL (c :: r)).1] := by unfold encN; rw [if_pos hp]
              rw [he] at d4 hx
              rw [List.mem_singleton] at hx
              have hk : (decodeL (c :: r)).2 = 1 := by
                have := congrArg List.length d4
                rw [List.length_take] at this
                simp only [List.length_cons, List.length_nil] at this d3
                omega
              rw [hk] at d4
              have : x = c := by rw [hx]; injection d4
              rw [this]; exact hc10
            · intro e
              have := enc_big _ d1 (by omega) x hx
              rw [e] at this
              exact absurd this (by decide)
/-- A text with a line end in it is none. -/
theorem json_line (x : List UInt8) (h : (10 : UInt8) ∈ x) : ∃ e, jsonT (34 :: (x ++ [34])) = .error e := by
  cases hj : jsonT (34 :: (x ++ [34])) with
  | error e => exact ⟨e, rfl⟩
  | ok v =>
    exfalso
    unfold jsonT at hj
    split at hj
    · cases hj
    split at hj
    · cases hj
    rename_i hv
    have hv : validD (34 :: (x ++ [34])) = true := by simpa using hv
    obtain ⟨s, t, h1, _, h3⟩ := read_quote _ v hj
    unfold strJ at h1
    rw [show tkJ [34] (34 :: (x ++ [34])) = some (x ++ [34]) from rfl] at h1
    simp only at h1
    cases hg : strGo (x ++ [34]).length (x ++ [34]) with
    | none => rw [hg] at h1; cases h1
    | some y =>
      obtain ⟨P, u⟩ := y
      rw [hg] at h1
      injection h1 with h1; injection h1 with h1 h2
      simp only at h2
      subst h2
      obtain ⟨w, hw, hno⟩ := nl_go _ _ P u (by rw [valid_cons 34 _ (by decide)] at hv; exact hv) hg
      have hu : u = [] ∨ ∃ z, u = z ++ [34] := by
        rcases List.eq_nil_or_concat u with e | ⟨z, a, e⟩
        · exact Or.inl e
        · right
          subst e
          have := congrArg List.getLast? hw
          simp at this
          exact ⟨z, by simp [this]⟩
      rcases hu with e | ⟨z, e⟩
      · rw [e, List.append_nil] at hw
        exact hno 10 (by rw [← hw]; simp [h]) rfl
      · rw [e] at h3
        have hm : (34 : UInt8) ∈ blJ (z ++ [34]) := by
          unfold blJ
          have : ∀ y : List UInt8, (34 : UInt8) ∈ (y ++ [34]).dropWhile blankJ := by
            intro y
            induction y with
            | nil => decide
            | cons a y ih =>
              rw [List.cons_append, List.dropWhile_cons]
              split
              · exact ih
              · simp
          exact this z
        rw [List.isEmpty_iff.1 h3] at hm
        cases hm
/-- What is valid with a line end and more behind it is valid. -/
theorem valid_left (b : List UInt8) : ∀ (n : Nat) (a : List UInt8), a.length ≤ n → validD (a ++ 10 :: b) = true → validD a = true
  | 0, a, h, _ => by
    have : a = [] := List.length_eq_zero_iff.1 (by omega)
    subst this; rfl
  | n + 1, [], _, _ => rfl
  | n + 1, c :: r, h, hv => by
    have hs := valid_step (c :: r ++ 10 :: b) (by simp)
    rw [hv] at hs
    have hs2 := hs.symm
    rw [Bool.and_eq_true] at hs2
    obtain ⟨hw, hv2⟩ := hs2
    obtain ⟨d1, d2, d3, d4⟩ := decode_pt (c :: r ++ 10 :: b) (by simp) hw
    generalize hk : (decodeL (c :: r ++ 10 :: b)).2 = k at *
    generalize hp : (decodeL (c :: r ++ 10 :: b)).1 = p at *
    have hkl : k ≤ (c :: r).length := by
      by_cases hle : k ≤ (c :: r).length
      · exact hle
      · exfalso
        have hm : (10 : UInt8) ∈ encN p := by
          rw [d4, List.take_append]
          obtain ⟨j, hj⟩ : ∃ j, k - (c :: r).length = j + 1 := ⟨k - (c :: r).length - 1, by omega⟩
          rw [hj, List.take_succ_cons]
          simp
        by_cases h128 : p < 128
        · have he : encN p = [UInt8.ofNat p] := by unfold encN; rw [if_pos h128]
          have := congrArg List.length d4
          rw [he, List.length_take] at this
          simp only [List.length_cons, List.length_nil] at this d3 hle
          omega
        · exact absurd (enc_big p d1 (by omega) 10 hm) (by decide)
    rw [List.take_append_of_le_length hkl] at d4
    rw [List.drop_append_of_le_length hkl] at hv2
    have hr := valid_left b n ((c :: r).drop k) (by rw [List.length_drop]; simp only [List.length_cons] at h ⊢; omega) hv2
    rw [← List.take_append_drop k (c :: r), ← d4, valid_enc p d1]
    exact hr
end Go.Proofs.YtgclnjogoghhcaaGreatDoor
namespace Go.Proofs.YtgclnjogoghhcaaGreatDoor
open Go.Lib
theorem while_app (p : UInt8 → Bool) (hp : p 10 = false) (b : List UInt8) : ∀ l : List UInt8, (l ++ 10 :: b).takeWhile p = l.takeWhile p ∧ (l ++ 10 :: b).dropWhile p = l.dropWhile p ++ 10 :: b
  | [] => by rw [List.nil_append, List.takeWhile_cons, List.dropWhile_cons, hp]; exact ⟨rfl, rfl⟩
  | c :: l => by
    obtain ⟨h1, h2⟩ := while_app p hp b l
    rw [List.cons_append, List.takeWhile_cons, List.dropWhile_cons, List.takeWhile_cons, List.dropWhile_cons, h1, h2]
    cases p c <;> exact ⟨rfl, rfl⟩
theorem pre_app (b : List UInt8) : ∀ (p l : List UInt8), (∀ c ∈ p, c ≠ 10) → p.isPrefixOf (l ++ 10 :: b) = p.isPrefixOf l
  | [], l, _ => by cases l <;> rfl
  | c :: p, [], h => by
    have : (c == 10) = false := beq_eq_false_iff_ne.2 (h c (by simp))
    simp [List.isPrefixOf, this]
  | c :: p, a :: l, h => by
    rw [List.cons_append]
    simp only [List.isPrefixOf]
    rw [pre_app b p l fun x hx => h x (by simp [hx])]
theorem hid_app (b : List UInt8) : ∀ (n : Nat) (l : List UInt8), l.length ≤ n → hid0 (l ++ 10 :: b) = if (hid0 l).isEmpty then hid0 (10 :: b) else hid0 l ++ 10 :: b
  | 0, l, h => by
    have : l = [] := List.length_eq_zero_iff.1 (by omega)
    subst this; rfl
  | n + 1, [], h => rfl
  | n + 1, c :: r, h => by
    simp only [List.length_cons] at h
    have hpre : bomL.isPrefixOf (c :: (r ++ 10 :: b)) = bomL.isPrefixOf (c :: r) := by
      rw [← List.cons_append]; exact pre_app b bomL (c :: r) (by decide)
    rw [List.cons_append, hid_cons, hid_cons c r, hpre]
    by_cases hc : hidC c = true
    · rw [if_pos hc, if_pos hc]; exact hid_app b n r (by omega)
    · rw [if_neg hc, if_neg hc]
      by_cases hb : bomL.isPrefixOf (c :: r) = true
      · rw [if_pos hb, if_pos hb]
        have hlen := (List.isPrefixOf_iff_prefix.1 hb).length_le
        rw [← List.cons_append, List.drop_append_of_le_length (by exact hlen)]
        exact hid_app b n _ (by simp only [List.length_drop, List.length_cons]; omega)
      · rw [if_neg hb, if_neg hb]; rfl
theorem skip_more : ∀ (n f : Nat) (l : List UInt8), l.length ≤ n → l.length < f → skipG f l = skip0 l
  | n, 0, l, h, hf => by omega
  | n, f + 1, l, h, hf => by
    have h0 : (hid0 l).length ≤ l.length := hid_len _ l
    unfold skip0
    simp only [skipG]
    cases hx : hid0 l with
    | nil => rfl
    | cons c r =>
      rw [hx] at h0
      simp only
      split
      · rename_i hc
        split
        · rfl
        · subst hc
          have hd : ((35 :: r).dropWhile lineC).length ≤ r.length := by
            rw [List.dropWhile_cons, if_pos (by decide)]; exact dwhile_len lineC r
          simp only [List.length_cons] at h0
          match n, h with
          | 0, h => omega
          | n + 1, h => rw [skip_more n f _ (by omega) (by omega), skip_more n l.length _ (by omega) (by omega)]
      · rfl
theorem skip_eq (l : List UInt8) : skip0 l = match hid0 l with
    | [] => ([], true)
    | c :: r => if c = 35 then
        (let ln := (c :: r).takeWhile lineC
         if ln.any badC then ((c :: r).drop (ln.takeWhile fun x => !badC x).length, false) else skip0 ((c :: r).dropWhile lineC))
      else (c :: r, true) := by
  have h0 : (hid0 l).length ≤ l.length := hid_len _ l
  conv => lhs; unfold skip0; rw [skipG]
  cases hx : hid0 l with
  | nil => rfl
  | cons c r =>
    rw [hx] at h0
    simp only
    split
    · rename_i hc
      subst hc
      split
      · rfl
      · have hd : ((35 :: r).dropWhile lineC).length ≤ r.length := by
          rw [List.dropWhile_cons, if_pos (by decide)]; exact dwhile_len lineC r
        simp only [List.length_cons] at h0
        exact skip_more _ _ _ (Nat.le_refl _) (by omega)
    · rfl
/-- Ahead of a line end it is skipped alike. -/
theorem skip_app (b : List UInt8) : ∀ (n : Nat) (l : List UInt8), l.length ≤ n → (skip0 l = ([], true)) ∨ skip0 (l ++ 10 :: b) = ((skip0 l).1 ++ 10 :: b, (skip0 l).2)
  | n, l, h => by
    have h0 : (hid0 l).length ≤ l.length := hid_len _ l
    have ha := hid_app b l.length l (Nat.le_refl _)
    rw [skip_eq l, skip_eq (l ++ 10 :: b), ha]
    cases hx : hid0 l with
    | nil => exact Or.inl rfl
    | cons c r =>
      rw [hx] at h0
      rw [if_neg (by simp)]
      simp only [List.cons_append]
      by_cases hc : c = 35
      · subst hc
        rw [if_pos rfl, if_pos rfl]
        obtain ⟨w1, w2⟩ := while_app lineC (by decide) b (35 :: r)
        rw [List.cons_append] at w1 w2
        rw [w1, w2]
        split
        · right
          have hle : (((35 :: r).takeWhile lineC).takeWhile fun x => !badC x).length ≤ (35 :: r).length :=
            Nat.le_trans (while_len _ _) (while_len _ _)
          rw [← List.cons_append, List.drop_append_of_le_length hle]
        · have hd : ((35 :: r).dropWhile lineC).length ≤ r.length := by
            rw [List.dropWhile_cons, if_pos (by decide)]; exact dwhile_len lineC r
          simp only [List.length_cons] at h0
          match n, h with
          | 0, h => omega
          | n + 1, h => exact skip_app b n _ (by omega)
      · rw [if_neg hc, if_neg hc]
        exact Or.inr rfl
theorem scan_app (b : List UInt8) : ∀ (q : Bool) (r : List UInt8), match scanT q r with
    | some x => scanT q (r ++ 10 :: b) = some x
    | none => ∀ x n, scanT q (r ++ 10 :: b) = some (x, n) → (10 : UInt8) ∈ x
  | q, [] => by
    have : scanT q [] = none := by unfold scanT; rfl
    rw [this]
    intro x n h
    rw [List.nil_append, scanT] at h
    rw [show (!q && (10 : UInt8) == 34) = false from by cases q <;> rfl] at h
    simp only [Bool.false_eq_true, if_false] at h
    cases hs : scanT (!q && (10 : UInt8) == 92) b with
    | none => rw [hs] at h; cases h
    | some y =>
      rw [hs] at h
      injection h with h; injection h with h1 h2
      rw [← h1, show ((10 : UInt8) == 9 && !q) = false from by cases q <;> rfl]
      simp
  | q, c :: r => by
    have ih := scan_app b (!q && c == 92) r
    rw [List.cons_append, scanT, scanT]
    by_cases hq : (!q && c == 34) = true
    · rw [if_pos hq, if_pos hq]
    · rw [if_neg hq, if_neg hq]
      cases hs : scanT (!q && c == 92) r with
      | some y =>
        rw [hs] at ih
        simp only at ih
        rw [ih]
        rfl
      | none =>
        rw [hs] at ih
        simp only at ih
        simp only [Option.map_none]
        intro x n h
        cases hs2 : scanT (!q && c == 92) (r ++ 10 :: b) with
        | none => rw [hs2] at h; cases h
        | some y =>
          obtain ⟨z, m⟩ := y
          rw [hs2] at h
          injection h with h; injection h with h1 h2
          rw [← h1]
          exact List.mem_append.2 (Or.inr (ih z m hs2))
theorem name_app (b l : List UInt8) : nameT (l ++ 10 :: b) = nameT l := by
  unfold nameT
  rw [(while_app nameC (by decide) b l).1]
theorem num_app (b : List UInt8) (c : UInt8) (r : List UInt8) : numTk (c :: r ++ 10 :: b) = numTk (c :: r) := by
  have hbl : below (c :: r ++ 10 :: b) = below (c :: r) := rfl
  have hbo : body (c :: r ++ 10 :: b) = body (c :: r) ++ 10 :: b := by
    unfold body
    rw [hbl]
    cases below (c :: r) <;> rfl
  obtain ⟨w1, w2⟩ := while_app isDig (by decide) b (body (c :: r))
  unfold numTk
  rw [hbo, w1, w2, hbl]
  simp only
  have : (((body (c :: r)).dropWhile isDig ++ 10 :: b).head?.map fun c => nameC c || c == 46).getD false = (((body (c :: r)).dropWhile isDig).head?.map fun c => nameC c || c == 46).getD false := by
    cases (body (c :: r)).dropWhile isDig with
    | nil => rfl
    | cons a x => rfl
  rw [this]
theorem txt_app (b : List UInt8) (c : UInt8) (r : List UInt8) : txtT (c :: r ++ 10 :: b) = txtT (c :: r) := by
  have hp := pre_app b [34, 34, 34] (c :: r) (by decide)
  rw [List.cons_append] at hp ⊢
  unfold txtT
  simp only
  rw [hp]
  by_cases hc : c ≠ 34 ∨ ([34, 34, 34] : List UInt8).isPrefixOf (c :: r) = true
  · rw [if_pos hc, if_pos hc]
  · rw [if_neg hc, if_neg hc]
    have hs := scan_app b false r
    cases h1 : scanT false r with
    | some y => rw [h1] at hs; simp only at hs; rw [hs]
    | none =>
      rw [h1] at hs
      simp only at hs
      cases h2 : scanT false (r ++ 10 :: b) with
      | none => rfl
      | some y =>
        obtain ⟨x, n⟩ := y
        obtain ⟨e, he⟩ := json_line x (hs x n h2)
        simp only
        rw [he]
theorem pun_app (b : List UInt8) (c : UInt8) (r : List UInt8) : punT (c :: r ++ 10 :: b) = punT (c :: r) := by
  unfold punT
  rw [pre_app b [46, 46, 46] (c :: r) (by decide)]
  rfl
theorem tok_app (b : List UInt8) (c : UInt8) (r : List UInt8) : tokG (c :: r ++ 10 :: b) = tokG (c :: r) := by
  unfold tokG
  rw [name_app, num_app, txt_app, pun_app]
/-- Ahead of a line end it is read alike. -/
theorem lex_app (b : List UInt8) : ∀ (k a : Nat) (l : List UInt8) (acc : List Tok), (l ++ 10 :: b).length ≤ 16384 → match lexG k a l acc with
    | .error _ => ∃ e, lexG k a (l ++ 10 :: b) acc = .error e
    | .ok R => (∃ e, lexG k a (l ++ 10 :: b) acc = .error e) ∨ ∃ M e N, R = acc ++ (M ++ [e]) ∧ N ≠ [] ∧ lexG k a (l ++ 10 :: b) acc = .ok (acc ++ (M ++ N))
  | k, a, l, acc, hl => by
    have hlen : (skip0 l).1.length ≤ l.length := skip_len _ l
    by_cases h : skip0 l = ([], true)
    · have : lexG k a l acc = .ok (acc ++ [⟨0, [], ((a + l.length : Nat) : Int)⟩]) := by
        unfold lexG
        rw [h]
        simp
      rw [this]
      simp only
      cases hx : lexG k a (l ++ 10 :: b) acc with
      | error e => exact Or.inl ⟨e, rfl⟩
      | ok R =>
        obtain ⟨M, e, m1, _⟩ := lex_ok k a _ acc R hl hx
        exact Or.inr ⟨[], _, M ++ [e], rfl, by simp, by rw [m1]; rfl⟩
    · have h2 := (skip_app b l.length l (Nat.le_refl _)).resolve_left h
      unfold lexG
      cases hx : skip0 l with
      | mk l1 ok =>
        rw [hx] at h h2 hlen
        simp only at h2 hlen
        rw [h2]
        simp only
        have ha : a + ((l ++ 10 :: b).length - (l1 ++ 10 :: b).length) = a + (l.length - l1.length) := by simp only [List.length_append]; omega
        rw [ha]
        cases ok with
        | false => exact ⟨_, rfl⟩
        | true =>
          simp only [Bool.not_true, Bool.false_eq_true, if_false]
          cases l1 with
          | nil =>
            exact absurd rfl h
          | cons c r =>
            rw [show (c :: r ++ 10 :: b).isEmpty = false from rfl, show (c :: r : List UInt8).isEmpty = false from rfl]
            simp only [Bool.false_eq_true, if_false]
            cases k with
            | zero => exact ⟨_, rfl⟩
            | succ k =>
              simp only
              rw [tok_app]
              cases ht : tokG (c :: r) with
              | none => exact ⟨_, rfl⟩
              | some y =>
                obtain ⟨kd, tx, n⟩ := y
                simp only
                simp only [List.length_append, List.length_cons] at hl hlen
                obtain ⟨_, _, _, j4, j5⟩ := tok_may (c :: r) tx kd n 0 (by simp only [List.length_cons]; omega) ht
                rw [List.drop_append_of_le_length j5]
                have ih := lex_app b k (a + (l.length - (c :: r).length) + n) ((c :: r).drop n) (acc ++ [⟨kd, tx, ((a + (l.length - (c :: r).length) : Nat) : Int)⟩]) (by
                  simp only [List.length_append, List.length_cons, List.length_drop]; omega)
                cases hr : lexG k (a + (l.length - (c :: r).length) + n) ((c :: r).drop n) (acc ++ [⟨kd, tx, ((a + (l.length - (c :: r).length) : Nat) : Int)⟩]) with
                | error e => rw [hr] at ih; exact ih
                | ok R =>
                  rw [hr] at ih
                  simp only at ih ⊢
                  rcases ih with ih | ⟨M, e, N, m1, m2, m3⟩
                  · exact Or.inl ih
                  · refine Or.inr ⟨⟨kd, tx, ((a + (l.length - (c :: r).length) : Nat) : Int)⟩ :: M, e, N, ?_, m2, ?_⟩
                    · rw [m1, List.append_assoc]; rfl
                    · rw [m3, List.append_assoc]; rfl
/-- THE LAW. -/
theorem lex_begins (a b : List UInt8) (hl : (a ++ 10 :: b).length ≤ 16384) : match lex0 a with
    | .error _ => ∃ e, lex0 (a ++ 10 :: b) = .error e
    | .ok L => (∃ e, lex0 (a ++ 10 :: b) = .error e) ∨ ∃ M e N, L = M ++ [e] ∧ N ≠ [] ∧ lex0 (a ++ 10 :: b) = .ok (M ++ N) := by
  have hla : a.length ≤ 16384 := by simp only [List.length_append] at hl; omega
  have e1 : lex0 a = if !validD a then .error (10, 0) else lexG 1024 0 a [] := by unfold lex0; rw [if_neg (by omega)]
  have e2 : lex0 (a ++ 10 :: b) = if !validD (a ++ 10 :: b) then .error (10, 0) else lexG 1024 0 (a ++ 10 :: b) [] := by unfold lex0; rw [if_neg (by omega)]
  rw [e1, e2]
  cases hv : validD (a ++ 10 :: b) with
  | false =>
    cases validD a with
    | false => exact ⟨_, rfl⟩
    | true =>
      simp only [Bool.not_true, Bool.false_eq_true, if_false, Bool.not_false, if_true]
      cases lexG 1024 0 a [] with
      | error e => exact ⟨_, rfl⟩
      | ok L => exact Or.inl ⟨_, rfl⟩
  | true =>
    rw [valid_left b a.length a (Nat.le_refl _) hv]
    simp only [Bool.not_true, Bool.false_eq_true, if_false]
    have := lex_app b 1024 0 a [] hl
    cases hx : lexG 1024 0 a [] with
    | error e => rw [hx] at this; exact this
    | ok L =>
      rw [hx] at this
      simpa using this
end Go.Proofs.YtgclnjogoghhcaaGreatDoor
namespace Go.Proofs.YtgclnjogoghhcaaGreatDoor
open Go.RowKit
theorem hid_drop : ∀ (n : Nat) (d : List UInt8), d.length ≤ n → hid0 d = d.drop (d.length - (hid0 d).length)
  | 0, d, h => by
    have : d = [] := List.length_eq_zero_iff.1 (by omega)
    subst this; rfl
  | n + 1, [], h => rfl
  | n + 1, c :: r, h => by
    simp only [List.length_cons] at h
    rw [hid_cons]
    split
    · have ih := hid_drop n r (by omega)
      have hl := hid_len r.length r
      have hl : (hid0 r).length ≤ r.length := hl
      rw [show (c :: r).length - (hid0 r).length = (r.length - (hid0 r).length) + 1 from by rw [List.length_cons]; omega, List.drop_succ_cons]
      exact ih
    · split
      · have hd : ((c :: r).drop 3).length ≤ n := by rw [List.length_drop, List.length_cons]; omega
        have ih := hid_drop n ((c :: r).drop 3) hd
        have hl : (hid0 ((c :: r).drop 3)).length ≤ ((c :: r).drop 3).length := hid_len _ _
        rename_i hp
        have h3 := (List.isPrefixOf_iff_prefix.1 hp).length_le
        have h3 : 3 ≤ (c :: r).length := h3
        conv => lhs; rw [ih]
        rw [List.drop_drop]
        congr 1
        rw [List.length_drop] at hl ⊢
        omega
      · rw [Nat.sub_self, List.drop_zero]
theorem while_mem (p : UInt8 → Bool) (b : UInt8) : ∀ l : List UInt8, b ∈ l.takeWhile p → p b = true
  | [], h => by cases h
  | c :: l, h => by
    rw [List.takeWhile_cons] at h
    split at h
    · rcases List.mem_cons.1 h with h | h
      · subst h; assumption
      · exact while_mem p b l h
    · cases h
theorem line_any (R : List UInt8) : (Lib.indexAny R [13, 10] = -1 ∧ R.takeWhile lineC = R) ∨ (∃ k : Nat, Lib.indexAny R [13, 10] = (k : Int) ∧ k < R.length ∧ (R.takeWhile lineC).length = k) := by
  have key : ∀ (L : List UInt8) (c : UInt8), lineC c = !([13, 10] : List UInt8).contains c := by
    intro _ c
    exact of_decide_eq_true (all256' (f := fun c => decide (lineC c = !([13, 10] : List UInt8).contains c)) (by decide +kernel) c)
  have hno : ∀ k : Nat, k ≤ (R.takeWhile lineC).length → Lib.NoAny R [13, 10] k := by
    intro k hk j b hj hb
    have hjl : j < (R.takeWhile lineC).length := by omega
    have h1 : (R.takeWhile lineC)[j]? = some b := by
      have e : R[j]? = ((R.takeWhile lineC) ++ R.dropWhile lineC)[j]? := by rw [List.takeWhile_append_dropWhile]
      rw [hb, List.getElem?_append_left hjl] at e
      exact e.symm
    have hm : b ∈ R.takeWhile lineC := List.mem_of_getElem? h1
    have := while_mem _ _ _ hm
    rw [key R b] at this
    simpa using this
  by_cases h : (R.takeWhile lineC).length < R.length
  · refine Or.inr ⟨_, ?_, h, rfl⟩
    obtain ⟨b, hb⟩ : ∃ b, R[(R.takeWhile lineC).length]? = some b := ⟨_, List.getElem?_eq_getElem h⟩
    refine Lib.indexAny_hit (hno _ (Nat.le_refl _)) hb ?_
    obtain ⟨h1, h2⟩ := while_drop lineC R
    have h3 : (R.dropWhile lineC).head? = some b := by rw [h1, List.head?_drop]; exact hb
    have := h2 b h3
    rw [key R b] at this
    cases hq : ([13, 10] : List UInt8).contains b with
    | true => rfl
    | false => rw [hq] at this; cases this
  · have hle := while_le lineC R
    have he : (R.takeWhile lineC).length = R.length := by omega
    have hT : R.takeWhile lineC = R := by
      have := List.takeWhile_append_dropWhile (p := lineC) (l := R)
      have hl := congrArg List.length this
      rw [List.length_append] at hl
      have h0 : R.dropWhile lineC = [] := List.length_eq_zero_iff.1 (by omega)
      rw [h0, List.append_nil] at this
      exact this
    refine Or.inl ⟨?_, hT⟩
    have := hno R.length (by omega)
    exact Lib.indexAny_none this
theorem ret_nb {a c : Int} {b d : Bool} (h : a = c) (h2 : b = d) : Ending.returned (.tuple #[.int .i64 a, .bool b]) = .returned (.tuple #[.int .i64 c, .bool d]) := by rw [h, h2]
/-- Nothing bad so far. -/
def Good (R : List UInt8) (k : Nat) : Prop := (R.take k).any badC = false
theorem Good.step {R : List UInt8} {k : Nat} (h : Good R k) (hk : k < R.length) (hb : badC R[k] = false) : Good R (k + 1) := by
  unfold Good at *
  rw [List.take_succ_eq_append_getElem hk, List.any_append, h]
  simp [hb]
theorem Good.stop {R : List UInt8} {k E : Nat} (h : Good R k) (hk : k < R.length) (hkE : k < E) (hb : badC R[k] = true) : (R.take E).any badC = true ∧ ((R.take E).takeWhile fun x => !badC x).length = k := by
  have e : R.take E = R.take k ++ R[k] :: ((R.take E).drop (k + 1)) := by
    have hl : k < (R.take E).length := by rw [List.length_take]; omega
    have := List.take_append_drop k (R.take E)
    rw [List.take_take, Nat.min_eq_left (by omega), List.drop_eq_getElem_cons hl, List.getElem_take] at this
    exact this.symm
  rw [e]
  unfold Good at h
  constructor
  · rw [List.any_append, List.any_cons, hb]; simp
  · rw [List.takeWhile_append_of_pos (by
      intro a ha
      have := List.any_eq_false.1 h a ha
      simpa using this), List.takeWhile_cons]
    simp [hb]
    rw [Nat.min_eq_left (by omega)]
set_option maxRecDepth 100000 in
set_option maxHeartbeats 2000000 in
theorem skip_any (s : ByteArray) (hs : s.size ≤ 1000000) (w : World) (hE : EnvU w) :
    Calls Tryz.prog 19 #[.string s] w fun e w' => e = .returned (.tuple #[.int .i64 ((s.size - (skip0 s.data.toList).1.length : Nat) : Int), .bool (skip0 s.data.toList).2]) ∧ Below w.heap.size w w' := by
  obtain ⟨l, hl⟩ : ∃ l, s.data.toList = l := ⟨_, rfl⟩
  obtain ⟨kk, hkk⟩ : ∃ kk : Int, ((s.size - (skip0 l).1.length : Nat) : Int) = kk := ⟨_, rfl⟩
  obtain ⟨bb, hbb⟩ : ∃ bb, (skip0 l).2 = bb := ⟨_, rfl⟩
  rw [hl, hkk, hbb]
  have HKK := Lib.hid hkk
  have HBB := Lib.hid hbb
  have hll := len_z s
  rw [hl] at hll
  have HLL := Lib.hid hll
  have HL := Lib.hid hl
  have HT := Lib.hid (fun (t : ByteArray) (ht : t.size ≤ 1000000) (W : World) (h : Below w.heap.size w W) => trimH_any t ht W (hE.below h))
  clear hl hkk hbb hE hll
  go_enter Tryz.func19, Tryz.ntmps19
  go_wp2_with fail
  go_loopg [2] s.size (fun g v wx => ∃ n : Nat, v = .int .i64 n ∧ n + g = s.size ∧ Hid (skip0 (l.drop n) = skip0 l) ∧ Hid (Below w.heap.size w wx))
  case atStart => exact ⟨0, rfl, by omega, Lib.hid (by rw [List.drop_zero]), Lib.hid (Below.refl _ _)⟩
  case round =>
    rename World => wo
    generalize gk = g0 at *
    obtain ⟨n, rfl, hng, HS, HB⟩ := hrel
    by_cases h0 : n < s.size
    · obtain ⟨u, hu⟩ : ∃ u, s.extract n s.size = u := ⟨_, rfl⟩
      have hul : u.data.toList = l.drop n := by rw [← hu, extract_drop, HL.out]
      have huz : u.size = s.size - n := by
        have := len_z u
        rw [hul, List.length_drop, HLL.out] at this; omega
      obtain ⟨R, hR⟩ : ∃ R, hid0 (l.drop n) = R := ⟨_, rfl⟩
      have hRl : R.length ≤ s.size - n := by
        have := hid_len (l.drop n).length (l.drop n)
        have : (hid0 (l.drop n)).length ≤ (l.drop n).length := this
        rw [hR, List.length_drop, HLL.out] at this; exact this
      obtain ⟨t, ht⟩ : ∃ t : ByteArray, (⟨R.toArray⟩ : ByteArray) = t := ⟨_, rfl⟩
      have htl : t.data.toList = R := by rw [← ht]
      have htz : t.size = R.length := by rw [← len_z, htl]
      have ht6 : t.size ≤ 1000000 := by omega
      have HTR := Lib.hid (HT.out u (by omega) wo HB.out)
      rw [hul, hR, ht] at HTR
      obtain ⟨m, hm⟩ : ∃ m : Nat, s.size - t.size = m := ⟨_, rfl⟩
      have hmz : (s.size : Int) - (t.size : Int) = (m : Int) := by omega
      have hmt : m + t.size = s.size := by omega
      have hmn : n ≤ m := by omega
      have hRd : R = l.drop m := by
        have := hid_drop (l.drop n).length (l.drop n) (Nat.le_refl _)
        rw [hR, List.drop_drop, List.length_drop, HLL.out] at this
        rw [this]
        congr 1
        have : R.length ≤ s.size - n := hRl
        omega
      have hse := skip_eq (l.drop n)
      rw [HS.out, hR] at hse
      obtain ⟨p, hp⟩ : ∃ p, Lib.hasPrefix R [35] = p := ⟨_, rfl⟩
      have HP : Hid (∀ w, Calls Tryz.prog 29 #[.string t, .string ⟨#[35]⟩] w fun e w' => e = .returned (.bool p) ∧ w = w') := Lib.hid (fun w => (Tryz.strings_HasPrefix t ⟨#[35]⟩ w).mono fun e w' ⟨h1, h2⟩ => ⟨h1.trans (by rw [← hp, htl]), h2.symm⟩)
      have hpc : (p = false ∧ skip0 l = (R, true)) ∨ (p = true ∧ ∃ r, R = 35 :: r) := by
        rw [← hp]
        cases hx : R with
        | nil => rw [hx] at hse; exact Or.inl ⟨rfl, hse⟩
        | cons c r =>
          rw [hx] at hse
          by_cases hc : c = 35
          · subst hc; exact Or.inr ⟨by unfold Lib.hasPrefix; rfl, r, rfl⟩
          · simp only [hc, if_false] at hse
            refine Or.inl ⟨?_, hse⟩
            unfold Lib.hasPrefix
            have : ((35 : UInt8) == c) = false := beq_eq_false_iff_ne.2 (fun e => hc e.symm)
            simp [List.isPrefixOf, this]
      rcases hpc with ⟨rfl, hsk⟩ | ⟨rfl, r, hr⟩
      · have F1 : Hid ((m : Int) = kk) := Lib.hid (by rw [← HKK.out, hsk]; congr 1; show m = s.size - R.length; omega)
        have F2 : Hid (true = bb) := Lib.hid (by rw [← HBB.out, hsk])
        have HU := Lib.hid hu
        have HTZ := Lib.hid htz
        have HMT := Lib.hid hmt
        clear hmt
        clear hse hp hsk hR hul ht htl hRd hm htz
        go_wp2_with fail
        refine HTR.out.mono ?_; rintro e w1 ⟨rfl, hb⟩
        have HB1 := Lib.hid (HB.out.trans (hb.mono HB.out.size))
        clear hb
        go_wp2_with fail
        refine (HP.out _).mono ?_; rintro e w2 ⟨rfl, rfl⟩
        go_wp2_with fail
        go_ret2
        exact ⟨ret_nb F1.out F2.out, HB1.out⟩
      · obtain ⟨E, hEE⟩ : ∃ E, (R.takeWhile lineC).length = E := ⟨_, rfl⟩
        have hwd := while_drop lineC R
        have htk : R.takeWhile lineC = R.take E := by
          have := List.takeWhile_append_dropWhile (p := lineC) (l := R)
          conv => rhs; rw [← this]
          rw [← hEE, List.take_left]
        have hEl : E ≤ R.length := by rw [← hEE]; exact while_le _ _
        have hE1 : 1 ≤ E := by
          rw [← hEE, hr, List.takeWhile_cons, if_pos (by decide)]; simp
        rw [hr] at hse
        simp only [if_true] at hse
        rw [← hr, htk, hwd.1, hEE] at hse
        have hany := line_any R
        rw [hEE] at hany
        obtain ⟨ix, hix⟩ : ∃ ix, Lib.indexAny R [13, 10] = ix := ⟨_, rfl⟩
        have HI := Lib.hid (fun W => any_any t ht6 W)
        rw [htl, hix] at HI
        rw [hix] at hany
        have hixc : (ix = -1 ∧ E = t.size) ∨ (ix = (E : Int)) := by
          rcases hany with ⟨h1, h2⟩ | ⟨k, h1, h2, h3⟩
          · refine Or.inl ⟨h1, ?_⟩
            rw [htz, ← hEE, h2]
          · exact Or.inr (by rw [h1, h3])
        have HSE := Lib.hid hse
        have HRD := Lib.hid hRd
        have HTL := Lib.hid htl
        have HTZ := Lib.hid htz
        have HU := Lib.hid hu
        have hEt : E ≤ t.size := by rw [htz]; exact hEl
        have HMT := Lib.hid hmt
        clear hmt hse hRd htl htz hany hwd htk hEE hr hp hR hul ht hix hm hRl huz
        rcases hixc with ⟨rfl, hEz⟩ | rfl
        · subst hEz
          have F0 : Hid (∀ k, (hk : k < R.length) → k < t.size → badC R[k] = true → Good R k → ((m : Int) + (k : Int) = kk ∧ false = bb)) := Lib.hid (fun k hk hkE hb hg => by
            obtain ⟨a1, a2⟩ := hg.stop hk hkE hb
            have hq := HSE.out
            simp only [a1, if_true, a2] at hq
            rw [← HKK.out, ← HBB.out, hq]
            refine ⟨?_, rfl⟩
            show (m : Int) + (k : Int) = ((s.size - (R.drop k).length : Nat) : Int)
            rw [List.length_drop]
            have := HTZ.out
            have := HMT.out
            omega)
          have F3 : Hid (Good R t.size → skip0 (l.drop (m + t.size)) = skip0 l) := Lib.hid (fun hg => by
            have hq := HSE.out
            unfold Good at hg
            simp only [hg, Bool.false_eq_true, if_false] at hq
            rw [hq, HRD.out, List.drop_drop])
          have hui := HU.out
          have hnz : 0 ≤ (n : Int) := by omega
          go_wp2_with fail
          refine HTR.out.mono ?_; rintro e w1 ⟨rfl, hb⟩
          have HB1 := Lib.hid (HB.out.trans (hb.mono HB.out.size))
          clear hb hui
          go_wp2_with fail
          refine (HP.out _).mono ?_; rintro e w2 ⟨rfl, rfl⟩
          go_wp2_with fail
          refine (HI.out _).mono ?_; rintro e w3 ⟨rfl, hb⟩
          have HB2 := Lib.hid (HB1.out.trans (hb.mono HB1.out.size))
          clear hb
          go_wp2_with fail
          go_loop [2, 31] (fun n2 i => ∃ k : Nat, i = .int .i64 k ∧ n2 = .int .i64 m ∧ k ≤ t.size ∧ Hid (Good R k)) (fun _ i => t.size - (intOf i).toNat)
          case atStart => exact ⟨0, rfl, rfl, Nat.zero_le _, Lib.hid rfl⟩
          case round =>
            obtain ⟨k, rfl, rfl, hk, HG⟩ := hrel
            by_cases hlt : k < t.size
            · have hkt : k < t.size := by omega
              obtain ⟨x, hx⟩ : ∃ x : UInt8, t[k]'hkt = x := ⟨_, rfl⟩
              have hkR : k < R.length := by have := HTZ.out; omega
              have HXR : Hid (R[k]'hkR = x) := Lib.hid (by
                rw [← hx]
                have e : R[k]? = some (t[k]'hkt) := by rw [← HTL.out]; exact Lib.data_getElem? t k hkt
                rw [List.getElem?_eq_getElem hkR] at e
                exact Option.some.inj e)
              by_cases hb1 : x.toNat < 32
              · by_cases hb2 : x = 9
                · subst hb2
                  have HG2 : Hid (Good R (k + 1)) := Lib.hid (HG.out.step hkR (by rw [HXR.out]; rfl))
                  go_wp2_with fail
                  go_round
                  case rel => exact ⟨k + 1, by go_num, rfl, by omega, HG2⟩
                  case measure => simp [intOf]; omega
                · have hb3 : ¬ ((x.toNat : Int) = 9) := u8_ne 9 x (fun e => hb2 e.symm)
                  have hb4 : (x.toNat : Int) < 32 := by omega
                  have F4 := Lib.hid (F0.out k hkR hlt (by rw [HXR.out]; unfold badC; simp [hb1, hb2]) HG.out)
                  clear hb2 hb1
                  go_wp2_with fail
                  go_ret2
                  exact ⟨ret_nb F4.out.1 F4.out.2, HB2.out⟩
              · have hb4 : ¬ ((x.toNat : Int) < 32) := by omega
                have HG2 : Hid (Good R (k + 1)) := Lib.hid (HG.out.step hkR (by rw [HXR.out]; unfold badC; simp [hb1]))
                clear hb1
                go_wp2_with fail
                go_round
                case rel => exact ⟨k + 1, by go_num, rfl, by omega, HG2⟩
                case measure => simp [intOf]; omega
            · have hke : k = t.size := by omega
              have F5 : Hid (skip0 (l.drop (m + t.size)) = skip0 l) := Lib.hid (F3.out (hke ▸ HG.out))
              clear hke
              have hmt := HMT.out
              obtain ⟨g, rfl⟩ : ∃ g, g0 = g + (m + t.size - n) := ⟨g0 - (m + t.size - n), by omega⟩
              go_wp2_with fail
              go_roundg g
              case measure => have := HMT.out; omega
              case rel => have := HMT.out; exact ⟨m + t.size, by go_num, by omega, F5, HB2⟩
        · have F0 : Hid (∀ k, (hk : k < R.length) → k < E → badC R[k] = true → Good R k → ((m : Int) + (k : Int) = kk ∧ false = bb)) := Lib.hid (fun k hk hkE hb hg => by
            obtain ⟨a1, a2⟩ := hg.stop hk hkE hb
            have hq := HSE.out
            simp only [a1, if_true, a2] at hq
            rw [← HKK.out, ← HBB.out, hq]
            refine ⟨?_, rfl⟩
            show (m : Int) + (k : Int) = ((s.size - (R.drop k).length : Nat) : Int)
            rw [List.length_drop]
            have := HTZ.out
            have := HMT.out
            omega)
          have F3 : Hid (Good R E → skip0 (l.drop (m + E)) = skip0 l) := Lib.hid (fun hg => by
            have hq := HSE.out
            unfold Good at hg
            simp only [hg, Bool.false_eq_true, if_false] at hq
            rw [hq, HRD.out, List.drop_drop])
          have hui := HU.out
          have hnz : 0 ≤ (n : Int) := by omega
          go_wp2_with fail
          refine HTR.out.mono ?_; rintro e w1 ⟨rfl, hb⟩
          have HB1 := Lib.hid (HB.out.trans (hb.mono HB.out.size))
          clear hb hui
          go_wp2_with fail
          refine (HP.out _).mono ?_; rintro e w2 ⟨rfl, rfl⟩
          go_wp2_with fail
          refine (HI.out _).mono ?_; rintro e w3 ⟨rfl, hb⟩
          have HB2 := Lib.hid (HB1.out.trans (hb.mono HB1.out.size))
          clear hb
          go_wp2_with fail
          go_loop [2, 31] (fun n2 i => ∃ k : Nat, i = .int .i64 k ∧ n2 = .int .i64 m ∧ k ≤ E ∧ Hid (Good R k)) (fun _ i => E - (intOf i).toNat)
          case atStart => exact ⟨0, rfl, rfl, Nat.zero_le _, Lib.hid rfl⟩
          case round =>
            obtain ⟨k, rfl, rfl, hk, HG⟩ := hrel
            by_cases hlt : k < E
            · have hkt : k < t.size := by omega
              obtain ⟨x, hx⟩ : ∃ x : UInt8, t[k]'hkt = x := ⟨_, rfl⟩
              have hkR : k < R.length := by have := HTZ.out; omega
              have HXR : Hid (R[k]'hkR = x) := Lib.hid (by
                rw [← hx]
                have e : R[k]? = some (t[k]'hkt) := by rw [← HTL.out]; exact Lib.data_getElem? t k hkt
                rw [List.getElem?_eq_getElem hkR] at e
                exact Option.some.inj e)
              by_cases hb1 : x.toNat < 32
              · by_cases hb2 : x = 9
                · subst hb2
                  have HG2 : Hid (Good R (k + 1)) := Lib.hid (HG.out.step hkR (by rw [HXR.out]; rfl))
                  go_wp2_with fail
                  go_round
                  case rel => exact ⟨k + 1, by go_num, rfl, by omega, HG2⟩
                  case measure => simp [intOf]; omega
                · have hb3 : ¬ ((x.toNat : Int) = 9) := u8_ne 9 x (fun e => hb2 e.symm)
                  have hb4 : (x.toNat : Int) < 32 := by omega
                  have F4 := Lib.hid (F0.out k hkR hlt (by rw [HXR.out]; unfold badC; simp [hb1, hb2]) HG.out)
                  clear hb2 hb1
                  go_wp2_with fail
                  go_ret2
                  exact ⟨ret_nb F4.out.1 F4.out.2, HB2.out⟩
              · have hb4 : ¬ ((x.toNat : Int) < 32) := by omega
                have HG2 : Hid (Good R (k + 1)) := Lib.hid (HG.out.step hkR (by rw [HXR.out]; unfold badC; simp [hb1]))
                clear hb1
                go_wp2_with fail
                go_round
                case rel => exact ⟨k + 1, by go_num, rfl, by omega, HG2⟩
                case measure => simp [intOf]; omega
            · have hke : k = E := by omega
              have F5 : Hid (skip0 (l.drop (m + E)) = skip0 l) := Lib.hid (F3.out (hke ▸ HG.out))
              clear hke
              have hmt := HMT.out
              obtain ⟨g, rfl⟩ : ∃ g, g0 = g + (m + E - n) := ⟨g0 - (m + E - n), by omega⟩
              go_wp2_with fail
              go_roundg g
              case measure => have := HMT.out; omega
              case rel => have := HMT.out; exact ⟨m + E, by go_num, by omega, F5, HB2⟩
    · have hn : n = s.size := by omega
      have hF := HS.out
      rw [hn, List.drop_of_length_le (by rw [HLL.out]; exact Nat.le_refl _)] at hF
      have F1 : Hid ((n : Int) = kk) := Lib.hid (by rw [← HKK.out, ← hF]; show (n : Int) = ((s.size - 0 : Nat) : Int); omega)
      have F2 : Hid (true = bb) := Lib.hid (by rw [← HBB.out, ← hF]; rfl)
      clear hF hn
      go_wp2_with fail
      go_ret2
      exact ⟨ret_nb F1.out F2.out, HB.out⟩
end Go.Proofs.YtgclnjogoghhcaaGreatDoor
namespace Go.Proofs.YtgclnjogoghhcaaGreatDoor
theorem skip_suf : ∀ (f : Nat) (t : List UInt8), ∃ n, (skipG f t).1 = t.drop n
  | 0, t => ⟨0, by simp [skipG]⟩
  | f + 1, t => by
    have hd := hid_drop t.length t (Nat.le_refl _)
    rw [skipG]
    cases hx : hid0 t with
    | nil => exact ⟨t.length, by simp⟩
    | cons c r =>
      rw [hx] at hd
      simp only
      split
      · split
        · exact ⟨_, by show List.drop _ (c :: r) = _; conv => lhs; rw [hd]
                       rw [List.drop_drop]⟩
        · obtain ⟨n, hn⟩ := skip_suf f ((c :: r).dropWhile lineC)
          rw [hn, (while_drop lineC (c :: r)).1]
          exact ⟨_, by conv => lhs; rw [hd]
                       rw [List.drop_drop, List.drop_drop]⟩
      · exact ⟨_, hd⟩
theorem skip_drop (t : List UInt8) : (skip0 t).1 = t.drop (t.length - (skip0 t).1.length) ∧ (skip0 t).1.length ≤ t.length := by
  obtain ⟨n, hn⟩ := skip_suf (t.length + 1) t
  have hn : (skip0 t).1 = t.drop n := hn
  rw [hn, List.length_drop]
  refine ⟨?_, by omega⟩
  by_cases h : n ≤ t.length
  · congr 1; omega
  · rw [List.drop_of_length_le (by omega), List.drop_of_length_le (by omega)]
theorem lex_bad (k a : Nat) (t acc : List _) (h : (skip0 t).2 = false) : lexG k a t acc = .error (170, a + (t.length - (skip0 t).1.length)) := by
  cases k <;> (rw [lexG]; simp only; rw [h]; rfl)
theorem lex_done (k a : Nat) (t : List UInt8) (acc : List Tok) (h : (skip0 t).2 = true) (he : (skip0 t).1 = []) : lexG k a t acc = .ok (acc ++ [⟨0, [], ((a + (t.length - (skip0 t).1.length) : Nat) : Int)⟩]) := by
  cases k <;> (rw [lexG]; simp only; rw [h, he]; rfl)
theorem lex_fuel (a : Nat) (t : List UInt8) (acc : List Tok) (h : (skip0 t).2 = true) (he : (skip0 t).1 ≠ []) : lexG 0 a t acc = .error (171, a + (t.length - (skip0 t).1.length)) := by
  rw [lexG]; simp only; rw [h]
  cases hx : (skip0 t).1 with
  | nil => exact absurd hx he
  | cons c r => rfl
theorem lex_none (k a : Nat) (t : List UInt8) (acc : List Tok) (h : (skip0 t).2 = true) (he : (skip0 t).1 ≠ []) (hn : tokG (skip0 t).1 = none) : lexG (k + 1) a t acc = .error (170, a + (t.length - (skip0 t).1.length)) := by
  rw [lexG]; simp only; rw [h, hn]
  cases hx : (skip0 t).1 with
  | nil => exact absurd hx he
  | cons c r => rfl
theorem lex_some (k a : Nat) (t : List UInt8) (acc : List Tok) (kd : UInt8) (tx : List UInt8) (n : Nat) (h : (skip0 t).2 = true) (he : (skip0 t).1 ≠ []) (hn : tokG (skip0 t).1 = some (kd, tx, n)) : lexG (k + 1) a t acc = lexG k (a + (t.length - (skip0 t).1.length) + n) ((skip0 t).1.drop n) (acc ++ [⟨kd, tx, ((a + (t.length - (skip0 t).1.length) : Nat) : Int)⟩]) := by
  conv => lhs; rw [lexG]
  simp only; rw [h, hn]
  cases hx : (skip0 t).1 with
  | nil => exact absurd hx he
  | cons c r => rfl
/-- What each of the four readers tells of a rest. -/
def rdT (j : Nat) (l : List UInt8) : Option (UInt8 × List UInt8 × Nat) := match j with
  | 0 => (nameT l).map fun a => (1, a, a.length)
  | 1 => (numTk l).map fun a => (2, a, a.length)
  | 2 => (txtT l).map fun x => (3, x.1, x.2)
  | _ => (punT l).map fun a => (4, a, a.length)
def tellY (o : Option (UInt8 × List UInt8 × Nat)) : Value := match o with
  | some (k, a, n) => .tuple #[tokV k a 0, .int .i64 (n : Int)]
  | none => .tuple #[tokV 0 [] 0, .int .i64 0]
theorem tok_rd (l : List UInt8) : tokG l = (rdT 0 l).or ((rdT 1 l).or ((rdT 2 l).or (rdT 3 l))) := by
  unfold tokG rdT
  cases nameT l with
  | some a => rfl
  | none =>
    cases numTk l with
    | some a => rfl
    | none =>
      cases txtT l with
      | some x => rfl
      | none => rfl
theorem rd_pos (j : Nat) (l : List UInt8) (hl : l.length ≤ 16384) (hp : ∀ i, i < j → rdT i l = none) (hj : j < 4) (k : UInt8) (a : List UInt8) (n : Nat) (h : rdT j l = some (k, a, n)) : tokG l = some (k, a, n) ∧ 0 < n ∧ n ≤ l.length := by
  have ht : tokG l = some (k, a, n) := by
    rw [tok_rd]
    match j, hj with
    | 0, _ => rw [h]; rfl
    | 1, _ => rw [hp 0 (by omega), h]; rfl
    | 2, _ => rw [hp 0 (by omega), hp 1 (by omega), h]; rfl
    | 3, _ => rw [hp 0 (by omega), hp 1 (by omega), hp 2 (by omega), h]; rfl
  obtain ⟨g1, g2, g3, g4, g5⟩ := tok_may l a k n 0 hl ht
  exact ⟨ht, g4, g5⟩
end Go.Proofs.YtgclnjogoghhcaaGreatDoor
namespace Go.Proofs.YtgclnjogoghhcaaGreatDoor
open Go.Lib
/-- So far: what has been put, whether a backslash stands ahead, what is left, how many bytes have been passed. -/
def Sc (r pre : List UInt8) (q : Bool) (t : List UInt8) (k : Nat) : Prop := scanT false r = (scanT q t).map fun x => (pre ++ x.1, x.2 + k)
theorem Sc.start (r : List UInt8) : Sc r [] false r 0 := by
  unfold Sc
  cases scanT false r <;> simp
theorem Sc.step {r pre t : List UInt8} {q : Bool} {c : UInt8} {k : Nat} (h : Sc r pre q (c :: t) k) (hc : (!q && c == 34) = false) :
    Sc r (pre ++ (if c == 9 && !q then [92, 116] else [c])) (!q && c == 92) t (k + 1) := by
  unfold Sc at *
  rw [h, scanT, hc]
  simp only [Bool.false_eq_true, if_false, Option.map_map]
  cases scanT (!q && c == 92) t with
  | none => rfl
  | some x =>
    simp only [Option.map_some, Function.comp]
    rw [List.append_assoc, Nat.add_assoc, Nat.add_comm 1 k]
theorem Sc.stop {r pre t : List UInt8} {k : Nat} (h : Sc r pre false (34 :: t) k) : scanT false r = some (pre, k + 1) := by
  unfold Sc at h
  rw [h, scanT]
  simp [Nat.add_comm]
theorem Sc.none {r pre : List UInt8} {q : Bool} {k : Nat} (h : Sc r pre q [] k) : scanT false r = none := by
  unfold Sc at h
  rw [h, scanT]
  rfl
theorem txt_quote (c : UInt8) (r : List UInt8) (h : c ≠ 34) : txtT (c :: r) = none := by
  unfold txtT
  dsimp only
  rw [if_pos (Or.inl h)]
theorem txt_three (c : UInt8) (r : List UInt8) (h : [34, 34, 34].isPrefixOf (c :: r) = true) : txtT (c :: r) = none := by
  unfold txtT
  dsimp only
  rw [if_pos (Or.inr h)]
theorem txt_open (r : List UInt8) (h : [34, 34, 34].isPrefixOf (34 :: r) = false) (hn : scanT false r = none) : txtT (34 :: r) = none := by
  unfold txtT
  dsimp only
  rw [if_neg (by rw [h]; simp), hn]
theorem txt_bad (r b : List UInt8) (n : Nat) (e : Int) (h : [34, 34, 34].isPrefixOf (34 :: r) = false) (hs : scanT false r = some (b, n)) (hj : jsonT (34 :: (b ++ [34])) = .error e) : txtT (34 :: r) = none := by
  unfold txtT
  dsimp only
  rw [if_neg (by rw [h]; simp), hs]
  simp only
  rw [hj]
theorem txt_good (r b : List UInt8) (n : Nat) (v : List Cel) (h : [34, 34, 34].isPrefixOf (34 :: r) = false) (hs : scanT false r = some (b, n)) (hj : jsonT (34 :: (b ++ [34])) = .ok v) : txtT (34 :: r) = some ((v.headD ⟨0, [], [], 0, 0⟩).text, n + 1) := by
  unfold txtT
  dsimp only
  rw [if_neg (by rw [h]; simp), hs]
  simp only
  rw [hj]
end Go.Proofs.YtgclnjogoghhcaaGreatDoor
namespace Go.Proofs.YtgclnjogoghhcaaGreatDoor
open Go.RowKit
theorem isDig_iff (c : UInt8) : isDig c = true ↔ 48 ≤ c.toNat ∧ c.toNat ≤ 57 := by unfold isDig; exact decide_eq_true_iff
end Go.Proofs.YtgclnjogoghhcaaGreatDoor
namespace Go.Proofs.YtgclnjogoghhcaaGreatDoor
open Go.RowKit
def escB (k : Nat) : UInt8 := ([34, 92, 47, 98, 102, 110, 114, 116] : List UInt8).getD k 0
def escP (k : Nat) : Nat := ([34, 92, 47, 8, 12, 10, 13, 9] : List Nat).getD k 0
theorem letJ_at (k : Nat) (h : k < 8) : letJ (escB k) = some (escP k) := (by decide +kernel : ∀ i : Fin 8, letJ (escB i.val) = some (escP i.val)) ⟨k, h⟩
theorem letJ_none (c : UInt8) (h : ∀ k, k < 8 → c ≠ escB k) : letJ c = none := by
  have e0 : ¬ c = 34 := h 0 (by decide)
  have e1 : ¬ c = 92 := h 1 (by decide)
  have e2 : ¬ c = 47 := h 2 (by decide)
  have e3 : ¬ c = 98 := h 3 (by decide)
  have e4 : ¬ c = 102 := h 4 (by decide)
  have e5 : ¬ c = 110 := h 5 (by decide)
  have e6 : ¬ c = 114 := h 6 (by decide)
  have e7 : ¬ c = 116 := h 7 (by decide)
  unfold letJ
  rw [if_neg e0, if_neg e1, if_neg e2, if_neg e3, if_neg e4, if_neg e5, if_neg e6, if_neg e7]
theorem letJ_first (c : UInt8) : (∃ q, q < 8 ∧ c = escB q ∧ ∀ j, j < q → c ≠ escB j) ∨ ∀ k, k < 8 → c ≠ escB k := by
  have := (by decide +kernel : ∀ i : Fin 256, (∃ q : Fin 8, UInt8.ofNat i.val = escB q.val ∧ ∀ j : Fin 8, j.val < q.val → UInt8.ofNat i.val ≠ escB j.val) ∨ ∀ k : Fin 8, UInt8.ofNat i.val ≠ escB k.val) ⟨c.toNat, UInt8.toNat_lt c⟩
  simp only [UInt8.ofNat_toNat] at this
  rcases this with ⟨q, h1, h2⟩ | h
  · exact Or.inl ⟨q.val, q.isLt, h1, fun j hj => h2 ⟨j, by omega⟩ hj⟩
  · exact Or.inr fun k hk => h ⟨k, hk⟩
/-- Behind the u of an escape. -/
def uJ (r : List UInt8) : Option (Nat × List UInt8) := match hexsJ 4 0 r with
  | none => none
  | some (n, t) => if 56320 ≤ n ∧ n ≤ 57343 then none else if 55296 ≤ n ∧ n ≤ 56319 then lowJ n t else some (n, t)
theorem escJ_u (l : List UInt8) (h : ∀ k, k < 8 → l.headD 0 ≠ escB k) : escJ l = (match tkJ [117] l with | none => none | some r => uJ r) := by
  cases l with
  | nil => rfl
  | cons c r =>
    rw [List.headD_cons] at h
    rw [escJ, letJ_none c h]
    simp only
    by_cases hc : c = 117
    · rw [hc, if_neg (by simp)]
      unfold tkJ uJ
      rw [if_pos (by simp [List.isPrefixOf])]
      simp only [List.length_cons, List.length_nil, Nat.zero_add, List.drop_succ_cons, List.drop_zero]
      all_goals (cases hexsJ 4 0 r <;> rfl)
    · rw [if_pos hc]
      unfold tkJ
      rw [if_neg (by simp [List.isPrefixOf]; exact fun h => hc h.symm)]
end Go.Proofs.YtgclnjogoghhcaaGreatDoor
namespace Go.Proofs.YtgclnjogoghhcaaGreatDoor
open Go.RowKit Go.Lib
/-- A text's code points behind others. -/
def goJ (L : List Nat) (l : List UInt8) : Option (List Nat × List UInt8) := (strGo l.length l).map fun x => (L ++ x.1, x.2)
theorem goJ_end (L : List Nat) (t : List UInt8) : goJ L (34 :: t) = some (L, t) := by
  unfold goJ
  rw [List.length_cons, strGo, if_pos rfl]
  simp
theorem goJ_low (L : List Nat) (l : List UInt8) (h : (lookJ 0 l).toNat < 32) : goJ L l = none := by
  unfold goJ
  cases l with
  | nil => rfl
  | cons c t =>
    unfold lookJ at h
    rw [if_neg (by simp), List.headD_cons] at h
    rw [List.length_cons, strGo, if_neg (by intro e; subst e; revert h; decide), if_pos h]
    rfl
theorem goJ_esc (L : List Nat) (t : List UInt8) : goJ L (92 :: t) = (match escJ t with | none => none | some (p, u) => goJ (L ++ [p]) u) := by
  unfold goJ
  rw [List.length_cons, strGo, if_neg (by decide), if_neg (by decide), if_pos rfl]
  cases he : escJ t with
  | none => rfl
  | some pu =>
    obtain ⟨p, u⟩ := pu
    have hl := (cut_esc t p u he).2.1
    simp only
    rw [strGo_fuel t.length u.length u (by omega) (Nat.le_refl _)]
    cases strGo u.length u with
    | none => rfl
    | some x => simp
theorem goJ_step (L : List Nat) (c : UInt8) (t : List UInt8) (h1 : c ≠ 34) (h2 : ¬ c.toNat < 32) (h3 : c ≠ 92) : goJ L (c :: t) = goJ (L ++ [(decodeL (c :: t)).1]) ((c :: t).drop (decodeL (c :: t)).2) := by
  unfold goJ
  have hw := decodeL_width (c :: t)
  have hl : ((c :: t).drop (decodeL (c :: t)).2).length ≤ t.length := by rw [List.length_drop, List.length_cons]; omega
  rw [List.length_cons, strGo, if_neg h1, if_neg h2, if_neg h3]
  rw [strGo_fuel t.length _ _ hl (Nat.le_refl _)]
  cases strGo _ ((c :: t).drop (decodeL (c :: t)).2) with
  | none => rfl
  | some x => simp
theorem strJ_go (l r : List UInt8) (h : tkJ [34] l = some r) : strJ l = (goJ [] r).map fun x => (x.1.flatMap encN, x.2) := by
  unfold strJ goJ
  rw [h]
  simp only
  cases strGo r.length r with
  | none => rfl
  | some x => rfl
theorem strJ_no (l : List UInt8) (h : tkJ [34] l = none) : strJ l = none := by
  unfold strJ
  rw [h]
end Go.Proofs.YtgclnjogoghhcaaGreatDoor
namespace Go.Proofs.YtgclnjogoghhcaaGreatDoor
open Go.RowKit
/-- A slice of texts of the call's own. -/
def OwnS (B : Nat) (v : Value) (l : List ByteArray) (W : World) : Prop := W.ownsRow B 9 1 v l.length (l.map Value.string)
theorem OwnS.nil (B : Nat) (W : World) : OwnS B (.slice none 0 0) [] W := World.ownsRow_nil W B 9 1
theorem OwnS.below {B : Nat} {v : Value} {l : List ByteArray} {w w' : World} (h : OwnS B v l w) (hb : Below w.heap.size w w') : OwnS B v l w' := by
  obtain ⟨h1, h2⟩ := h
  refine ⟨h1, ?_⟩
  rcases h2 with h2 | ⟨g, cap, cur, hv, hB, hg, hrest⟩
  · exact Or.inl h2
  · have hlt : g < w.heap.size := (Array.getElem?_eq_some_iff.1 hg).1
    exact Or.inr ⟨g, cap, cur, hv, hB, (hb.block g hlt).trans hg, hrest⟩
theorem OwnS.alloc {B : Nat} {v : Value} {l : List ByteArray} {w : World} (h : OwnS B v l w) (o : Obj) : OwnS B v l (w.alloc o) := World.ownsRow.alloc h o
theorem OwnS.lt {B : Nat} {v : Value} {l : List ByteArray} {w : World} (h : OwnS B v l w) : ∀ k, v.ownBlock = some k → B ≤ k := fun k hk => (World.ownsRow.lt h k hk).1
theorem OwnS.cells {B : Nat} {v : Value} {l : List ByteArray} {w : World} (h : OwnS B v l w) : (v = .slice none 0 0 ∧ l = []) ∨ ∃ g cap, v = .slice (some ⟨g, 0, none⟩) l.length cap ∧ g < w.heap.size ∧ l.length ≤ cap ∧ ∀ (j : Nat) x, l[j]? = some x → w.cell? ⟨g, 0 + j, none⟩ = some (.string x) := by
  obtain ⟨h1, h2⟩ := h
  rcases h2 with ⟨h2, h3⟩ | ⟨g, cap, cur, hv, hB, hg, hn, hc, hcs, ht⟩
  · exact Or.inl ⟨h2, List.eq_nil_of_length_eq_zero h3⟩
  · refine Or.inr ⟨g, cap, hv, (Array.getElem?_eq_some_iff.1 hg).1, hn, ?_⟩
    intro j x hj
    rw [Nat.mul_one] at ht
    have hjl : j < l.length := (List.getElem?_eq_some_iff.1 hj).1
    have e : cur.toList[j]? = some (.string x) := by
      have : (cur.toList.take l.length)[j]? = some (.string x) := by rw [ht]; simp [hj]
      rw [List.getElem?_take] at this
      simpa [hjl] using this
    rw [Nat.zero_add]
    refine (Lib.cell_of_heap hg j).trans ?_
    simpa using e
end Go.Proofs.YtgclnjogoghhcaaGreatDoor
namespace Go.Proofs.YtgclnjogoghhcaaGreatDoor
open Go.RowKit Go.Lib
abbrev Ex := Except Int (List UInt8)
def tkE (what : List UInt8) (E : Ex) : Ex := match E with
  | .error e => .error e
  | .ok l => match tkJ what l with | none => .error 40 | some t => .ok t
def blE (E : Ex) : Ex := match E with | .error e => .error e | .ok l => .ok (blJ l)
theorem tkE_none {what l : List UInt8} (h : tkJ what l = none) : tkE what (.ok l) = .error 40 := by simp [tkE, h]
theorem tkE_some {what l t : List UInt8} (h : tkJ what l = some t) : tkE what (.ok l) = .ok t := by simp [tkE, h]
/-- What is left is a text. -/
def VaE (E : Ex) : Prop := match E with | .error _ => True | .ok l => validD l = true
theorem VaE.tk {what : List UInt8} {E : Ex} (h : VaE E) (hw : ∀ c ∈ what, c.toNat < 128) : VaE (tkE what E) := by
  cases E with
  | error e => trivial
  | ok l =>
    cases ht : tkJ what l with
    | none => rw [tkE_none ht]; trivial
    | some t => rw [tkE_some ht]; exact (cut_tk what l t hw ht).1.2 h
theorem VaE.bl {E : Ex} (h : VaE E) : VaE (blE E) := by
  cases E with
  | error e => trivial
  | ok l => exact (cut_bl l).2 h
end Go.Proofs.YtgclnjogoghhcaaGreatDoor
namespace Go.Proofs.YtgclnjogoghhcaaGreatDoor
open Go.RowKit
theorem cel_info : (Tryz.prog.info? 124).map (fun i => (i.zero, i.size, i.bytes)) = some (some (.agg #[.int .u8 0, .string ⟨#[]⟩, .string ⟨#[]⟩, .int .i64 0, .int .i64 0]), 5, 56) := by kernel_rfl
def celFlat : List Cel → List Value
  | [] => []
  | t :: r => .int .u8 (t.kind.toNat : Int) :: .string ⟨t.name.toArray⟩ :: .string ⟨t.text.toArray⟩ :: .int .i64 t.num :: .int .i64 t.many :: celFlat r
theorem celFlat_len : ∀ L : List Cel, (celFlat L).length = L.length * 5
  | [] => rfl
  | t :: r => by rw [celFlat]; simp [celFlat_len r]; omega
theorem celFlat_app : ∀ L M : List Cel, celFlat (L ++ M) = celFlat L ++ celFlat M
  | [], _ => rfl
  | t :: r, M => by rw [List.cons_append, celFlat, celFlat_app r M, celFlat]; rfl
theorem celFlat_one : ∀ L : List Cel, ∀ u ∈ celFlat L, u.oneCell' = true
  | [], u, h => by cases h
  | t :: r, u, h => by
    rw [celFlat] at h
    rcases List.mem_cons.1 h with h | h
    · rw [h]; rfl
    rcases List.mem_cons.1 h with h | h
    · rw [h]; rfl
    rcases List.mem_cons.1 h with h | h
    · rw [h]; rfl
    rcases List.mem_cons.1 h with h | h
    · rw [h]; rfl
    rcases List.mem_cons.1 h with h | h
    · rw [h]; rfl
    · exact celFlat_one r u h
theorem celFlat_get : ∀ (L : List Cel) (k : Nat) (h : k < L.length), (celFlat L)[k * 5]? = some (.int .u8 (L[k].kind.toNat : Int)) ∧ (celFlat L)[k * 5 + 1]? = some (.string ⟨L[k].name.toArray⟩) ∧ (celFlat L)[k * 5 + 2]? = some (.string ⟨L[k].text.toArray⟩) ∧ (celFlat L)[k * 5 + 3]? = some (.int .i64 L[k].num) ∧ (celFlat L)[k * 5 + 4]? = some (.int .i64 L[k].many)
  | [], k, h => by simp at h
  | t :: r, 0, h => by simp [celFlat]
  | t :: r, k + 1, h => by
    have ih := celFlat_get r k (by simpa using h)
    rw [show (k + 1) * 5 = k * 5 + 1 + 1 + 1 + 1 + 1 from by omega]
    simp only [celFlat, List.getElem?_cons_succ, List.getElem_cons_succ]
    exact ih
theorem addr_add (b o j : Nat) : (⟨b, o, none⟩ : Addr).add j = ⟨b, o + j, none⟩ := by
  unfold Addr.add
  split
  · rename_i hz; rw [hz]; rfl
  · rfl
/-- A slice of cells of the call's own. -/
def OwnC (B : Nat) (v : Value) (L : List Cel) (W : World) : Prop := W.ownsRow B 124 5 v L.length (celFlat L)
theorem OwnC.nil (B : Nat) (W : World) : OwnC B (.slice none 0 0) [] W := World.ownsRow_nil W B 124 5
theorem OwnC.lt {B : Nat} {v : Value} {l : List Cel} {w : World} (h : OwnC B v l w) : ∀ k, v.ownBlock = some k → B ≤ k := fun k hk => (World.ownsRow.lt h k hk).1
theorem OwnC.sl {B : Nat} {v : Value} {L : List Cel} {w : World} (h : OwnC B v L w) : CelSl v L w := by
  obtain ⟨h1, h2⟩ := h
  rcases h2 with ⟨rfl, h2⟩ | ⟨g, cap, cur, rfl, hB, hg, hn, hc, hcs, ht⟩
  · exact Or.inl ⟨_, _, rfl, List.eq_nil_of_length_eq_zero h2, fun _ => rfl⟩
  · by_cases h0 : L = []
    · subst h0
      exact Or.inl ⟨_, _, rfl, rfl, fun h => by cases h⟩
    refine Or.inr ⟨g, 0, cap, rfl, ?_, List.length_pos_iff.2 h0⟩
    intro k hk
    obtain ⟨g0, g1, g2, g3, g4⟩ := celFlat_get L k hk
    have F : ∀ j u, (celFlat L)[j]? = some u → w.cell? ⟨g, 0 + j, none⟩ = some u := by
      intro j u hj
      have hjl : j < L.length * 5 := by rw [← celFlat_len]; exact (List.getElem?_eq_some_iff.1 hj).1
      rw [← ht, List.getElem?_take, if_pos hjl] at hj
      rw [Nat.zero_add]
      refine (Lib.cell_of_heap hg j).trans ?_
      simpa using hj
    exact ⟨F _ _ g0, F _ _ g1, F _ _ g2, F _ _ g3, F _ _ g4⟩
end Go.Proofs.YtgclnjogoghhcaaGreatDoor
namespace Go.Proofs.YtgclnjogoghhcaaGreatDoor
open Go.RowKit Go.Lib
/-- All older blocks stay but one, and but a slice's own. -/
def VK (r : Nat) (v : Value) (W W' : World) : Prop := Below r W W' ∧ ∀ (k : Nat) (o : Obj), W.heap[k]? = some o → k ≠ r → v.ownBlock ≠ some k → W'.heap[k]? = some o
theorem VK.refl (r : Nat) (v : Value) (W : World) : VK r v W W := ⟨Below.refl _ _, fun _ _ h _ _ => h⟩
theorem VK.rk {r : Nat} {v : Value} {W W' W'' : World} (h : VK r v W W') (h' : RK r W' W'') : VK r v W W'' := ⟨h.1.trans h'.1, fun k o hk hne hv => h'.2 k o (h.2 k o hk hne hv) hne⟩
theorem VK.trans {r : Nat} {v v1 : Value} {W W' W'' : World} (h : VK r v W W') (h' : VK r v1 W' W'') (ho : ∀ k, v1.ownBlock = some k → v.ownBlock = some k ∨ W.heap.size ≤ k) : VK r v W W'' :=
  ⟨h.1.trans h'.1, fun k o hk hne hv => h'.2 k o (h.2 k o hk hne hv) hne (fun e => by
    rcases ho k e with h1 | h1
    · exact hv h1
    · have := heap_lt hk; omega)⟩
theorem OwnC.below {B : Nat} {v : Value} {l : List Cel} {w w' : World} (h : OwnC B v l w) (hb : Below w.heap.size w w') : OwnC B v l w' := by
  obtain ⟨h1, h2⟩ := h
  refine ⟨h1, ?_⟩
  rcases h2 with h2 | ⟨g, cap, cur, hv, hB, hg, hrest⟩
  · exact Or.inl h2
  · exact Or.inr ⟨g, cap, cur, hv, hB, (hb.block g (heap_lt hg)).trans hg, hrest⟩
theorem OwnC.rk {B r : Nat} {v : Value} {l : List Cel} {w w' : World} (h : OwnC B v l w) (hk : RK r w w') (hr : r < B) : OwnC B v l w' := by
  obtain ⟨h1, h2⟩ := h
  refine ⟨h1, ?_⟩
  rcases h2 with h2 | ⟨g, cap, cur, hv, hB, hg, hrest⟩
  · exact Or.inl h2
  · exact Or.inr ⟨g, cap, cur, hv, hB, hk.2 g _ hg (by omega), hrest⟩
theorem OwnS.rk {B r : Nat} {v : Value} {l : List ByteArray} {w w' : World} (h : OwnS B v l w) (hk : RK r w w') (hr : r < B) : OwnS B v l w' := by
  obtain ⟨h1, h2⟩ := h
  refine ⟨h1, ?_⟩
  rcases h2 with h2 | ⟨g, cap, cur, hv, hB, hg, hrest⟩
  · exact Or.inl h2
  · exact Or.inr ⟨g, cap, cur, hv, hB, hk.2 g _ hg (by omega), hrest⟩
/-- Names and cells lie in two blocks. -/
theorem apartS {B B' : Nat} {nv v : Value} {l : List ByteArray} {L : List Cel} {W : World} (hn : OwnS B nv l W) (hc : OwnC B' v L W) (k : Nat) (h1 : nv.ownBlock = some k) (h2 : v.ownBlock = some k) : False := by
  rcases hn.2 with ⟨rfl, _⟩ | ⟨g, cap, cur, rfl, hB, hg, _⟩
  · cases h1
  rcases hc.2 with ⟨rfl, _⟩ | ⟨g', cap', cur', rfl, hB', hg', _⟩
  · cases h2
  have e1 : g = k := by simpa [Value.ownBlock] using h1
  have e2 : g' = k := by simpa [Value.ownBlock] using h2
  rw [e1] at hg
  rw [e2, hg] at hg'
  injection hg' with hg'
  injection hg' with h3 h4 h5
  exact absurd h4 (by decide)
theorem own_some {T : TypeId} {n B m : Nat} {v : Value} {xs : List Value} {W : World} (h : W.ownsRow B T n v m xs) : v.ownBlock = none ∨ ∃ g cap cur, v = .slice (some ⟨g, 0, none⟩) m cap ∧ v.ownBlock = some g ∧ B ≤ g ∧ W.heap[g]? = some (.cells cur T (0, 0)) := by
  rcases h.2 with ⟨rfl, _⟩ | ⟨g, cap, cur, rfl, hB, hg, _⟩
  · exact Or.inl rfl
  · exact Or.inr ⟨g, cap, cur, rfl, rfl, hB, hg⟩
theorem OwnS.vk {B B' r : Nat} {nv v : Value} {l : List ByteArray} {L : List Cel} {W W' : World} (hn : OwnS B nv l W) (hc : OwnC B' v L W) (hk : VK r v W W') (hr : r < B) : OwnS B nv l W' := by
  have hap := apartS hn hc
  obtain ⟨h1, h2⟩ := hn
  refine ⟨h1, ?_⟩
  rcases h2 with h2 | ⟨g, cap, cur, rfl, hB, hg, hrest⟩
  · exact Or.inl h2
  · exact Or.inr ⟨g, cap, cur, rfl, hB, hk.2 g _ hg (by omega) (fun e => hap g rfl e), hrest⟩
theorem celFlat_set0 : ∀ (L : List Cel) (k : Nat) (c : UInt8), celFlat (L.modify k fun x => { x with kind := c }) = (celFlat L).set (k * 5) (.int .u8 (c.toNat : Int))
  | [], k, c => by simp [celFlat]
  | t :: r, 0, c => by simp [celFlat, List.modify_zero_cons]
  | t :: r, k + 1, c => by
    rw [List.modify_succ_cons, celFlat, celFlat, celFlat_set0 r k c, show (k + 1) * 5 = k * 5 + 1 + 1 + 1 + 1 + 1 from by omega]
    simp only [List.set_cons_succ]
theorem celFlat_set2 : ∀ (L : List Cel) (k : Nat) (x : List UInt8), celFlat (L.modify k fun c => { c with text := x }) = (celFlat L).set (k * 5 + 2) (.string ⟨x.toArray⟩)
  | [], k, c => by simp [celFlat]
  | t :: r, 0, c => by simp [celFlat, List.modify_zero_cons]
  | t :: r, k + 1, c => by
    rw [List.modify_succ_cons, celFlat, celFlat, celFlat_set2 r k c, show (k + 1) * 5 + 2 = k * 5 + 2 + 1 + 1 + 1 + 1 + 1 from by omega]
    simp only [List.set_cons_succ]
theorem celFlat_set3 : ∀ (L : List Cel) (k : Nat) (x : Int), celFlat (L.modify k fun c => { c with num := x }) = (celFlat L).set (k * 5 + 3) (.int .i64 x)
  | [], k, c => by simp [celFlat]
  | t :: r, 0, c => by simp [celFlat, List.modify_zero_cons]
  | t :: r, k + 1, c => by
    rw [List.modify_succ_cons, celFlat, celFlat, celFlat_set3 r k c, show (k + 1) * 5 + 3 = k * 5 + 3 + 1 + 1 + 1 + 1 + 1 from by omega]
    simp only [List.set_cons_succ]
theorem celFlat_set4 : ∀ (L : List Cel) (k : Nat) (x : Int), celFlat (L.modify k fun c => { c with many := x }) = (celFlat L).set (k * 5 + 4) (.int .i64 x)
  | [], k, c => by simp [celFlat]
  | t :: r, 0, c => by simp [celFlat, List.modify_zero_cons]
  | t :: r, k + 1, c => by
    rw [List.modify_succ_cons, celFlat, celFlat, celFlat_set4 r k c, show (k + 1) * 5 + 4 = k * 5 + 4 + 1 + 1 + 1 + 1 + 1 from by omega]
    simp only [List.set_cons_succ]
/-- The own block, and the cells of one place. -/
theorem OwnC.form {B : Nat} {v : Value} {L : List Cel} {W : World} (h : OwnC B v L W) (k : Nat) (hk : k < L.length) : ∃ g cap, v = .slice (some ⟨g, 0, none⟩) L.length cap ∧ B ≤ g ∧ g < W.heap.size ∧ (∀ i, W.frozen? ⟨g, i, none⟩ = false) ∧
    W.cell? ⟨g, k * 5, none⟩ = some (.int .u8 (L[k].kind.toNat : Int)) ∧ W.cell? ⟨g, k * 5 + 2, none⟩ = some (.string ⟨L[k].text.toArray⟩) ∧ W.cell? ⟨g, k * 5 + 3, none⟩ = some (.int .i64 L[k].num) ∧ W.cell? ⟨g, k * 5 + 4, none⟩ = some (.int .i64 L[k].many) := by
  obtain ⟨h1, h2⟩ := h
  rcases h2 with ⟨rfl, h2⟩ | ⟨g, cap, cur, rfl, hB, hg, hn, hc, hcs, ht⟩
  · omega
  refine ⟨g, cap, rfl, hB, heap_lt hg, fun i => Lib.frozen_of_heap hg i, ?_⟩
  obtain ⟨g0, g1, g2, g3, g4⟩ := celFlat_get L k hk
  have F : ∀ j u, (celFlat L)[j]? = some u → W.cell? ⟨g, j, none⟩ = some u := by
    intro j u hj
    have hjl : j < L.length * 5 := by rw [← celFlat_len]; exact (List.getElem?_eq_some_iff.1 hj).1
    rw [← ht, List.getElem?_take, if_pos hjl] at hj
    refine (Lib.cell_of_heap hg j).trans ?_
    simpa using hj
  exact ⟨F _ _ g0, F _ _ g2, F _ _ g3, F _ _ g4⟩
theorem OwnC.set {B g i m cap : Nat} {v u : Value} {L L' : List Cel} {W : World} (h : OwnC B v L W) (hv : v = .slice (some ⟨g, 0, none⟩) m cap) (hl : L'.length = L.length) (hf : celFlat L' = (celFlat L).set i u) : OwnC B v L' (W.setCell ⟨g, i, none⟩ u) := by
  obtain ⟨h1, h2⟩ := h
  refine ⟨by rw [hl, hf, List.length_set]; exact h1, ?_⟩
  rcases h2 with ⟨rfl, h2⟩ | ⟨g', cap', cur, hv', hB, hg, hn, hc, hcs, ht⟩
  · cases hv
  · have e : g' = g := by rw [hv] at hv'; injection hv' with hv'; injection hv' with hv'; injection hv' with hv'; exact hv'.symm
    subst e
    refine Or.inr ⟨g', cap', cur.setIfInBounds i u, by rw [hl]; exact hv', hB, pset hg u rfl, by rw [hl]; exact hn, hc, by simp [hcs], ?_⟩
    rw [hl, hf, ← ht]
    simp [List.take_set]
theorem VK.set {r g i m cap : Nat} {v u : Value} {W : World} (hv : v = .slice (some ⟨g, 0, none⟩) m cap) (hr : r < g) : VK r v W (W.setCell ⟨g, i, none⟩ u) := by
  refine ⟨(Below.refl r W).setCell (p := ⟨g, i, none⟩) (Nat.le_of_lt hr) u, fun k o hk hne hvk => ?_⟩
  rw [Below.heap_setCell _ _ _ _ (fun e => hvk (by rw [hv]; simp only [Value.ownBlock]; first | exact congrArg some e | exact congrArg some e.symm))]
  exact hk
section
variable {r : Nat} {s : ByteArray} {w : World} {v0 v : Value} {out : List Cel} {E E' : Ex} {W W' : World}
end
/-- 'append(v, x)' of one cell that was just laid: where the new slice lies. -/
theorem wpList_pushC {ops : Array Oper} {rest : List Oper} {o : Oper} {a : Act} {Q : Exit → Act → World → Prop} {w : World} (hgd : o.guard = none) (s x : Operand)
    (ho : o.op = .call { callee := .builtin .append, args := #[s, x], argTypes := #[120, 120] }) (B : Nat) (v : Value) (L : List Cel) (hs : a.eval s = v) (hown : OwnC B v L w)
    (g c : Nat) (n : List UInt8) (hx : a.eval x = .slice (some ⟨g, 0, none⟩) 1 c) (hnew : w.heap[g]? = some (.cells #[.int .u8 0, .string ⟨n.toArray⟩, .string ⟨#[]⟩, .int .i64 0, .int .i64 0] 124 (0, 0))) (hlen : L.length + 1 ≤ 1000000) (hB : B ≤ w.heap.size)
    (h : ∀ v' w', OwnC B v' (L ++ [⟨0, n, [], 0, 0⟩]) w' → w.grownBy w' v.ownBlock → (v'.ownBlock = v.ownBlock ∨ v'.ownBlock = some w.heap.size) → wpList Tryz.prog ops Q rest (a.put o.dst v') w') : wpList Tryz.prog ops Q (o :: rest) a w := by
  obtain ⟨i0, hi, hz0, hz1, hz2⟩ := info_parts cel_info
  refine wpList_append_own_at w hgd s x 120 ho B 124 i0 (.agg #[.int .u8 0, .string ⟨#[]⟩, .string ⟨#[]⟩, .int .i64 0, .int .i64 0]) 5 56 Tryz.underlying120 hi hz0 hz1 hz2 rfl (by decide) v L.length (celFlat L) hs hown ⟨g, 0, none⟩ 1 c (celFlat [⟨0, n, [], 0, 0⟩]) hx rfl ?_ (celFlat_one _) (by unfold maxLen; omega) (by omega) hB ?_
  · intro j u hj
    rw [addr_add, Nat.zero_add, Lib.cell_of_heap hnew]
    match j, hj with
    | 0, hj => simpa [celFlat] using hj
    | 1, hj => simpa [celFlat] using hj
    | 2, hj => simpa [celFlat] using hj
    | 3, hj => simpa [celFlat] using hj
    | 4, hj => simpa [celFlat] using hj
    | j + 5, hj => simp [celFlat] at hj
  · intro v' w' h1 h2 _ h4
    refine h v' w' ?_ h2 h4
    unfold OwnC
    rw [List.length_append, celFlat_app]
    exact h1
end Go.Proofs.YtgclnjogoghhcaaGreatDoor
namespace Go.Proofs.YtgclnjogoghhcaaGreatDoor
open Go.RowKit Go.Lib
/-- The program's reader. -/
def RdP (p : Nat) (b : ByteArray) (v : Value) (op : Int) (W : World) : Prop := W.heap[p]? = some (.cells #[.string b, v, .int .i64 op] 129 (0, 0))
theorem RdP.cells {p : Nat} {b : ByteArray} {v : Value} {op : Int} {W : World} (h : RdP p b v op W) :
    W.cell? ⟨p, 0, none⟩ = some (.string b) ∧ W.cell? ⟨p, 1, none⟩ = some v ∧ W.cell? ⟨p, 2, none⟩ = some (.int .i64 op) := by
  unfold RdP at h
  refine ⟨?_, ?_, ?_⟩
  all_goals (rw [Lib.cell_of_heap h]; rfl)
theorem RdP.below {p : Nat} {b : ByteArray} {v : Value} {op : Int} {W W' : World} (h : RdP p b v op W) (hb : Below W.heap.size W W') : RdP p b v op W' := (hb.block p (heap_lt h)).trans h
theorem RdP.lt {p : Nat} {b : ByteArray} {v : Value} {op : Int} {W : World} (h : RdP p b v op W) : p < W.heap.size := heap_lt h
theorem RdP.frozen {p : Nat} {b : ByteArray} {v : Value} {op : Int} {W : World} (h : RdP p b v op W) (i : Nat) : W.frozen? ⟨p, i, none⟩ = false := Lib.frozen_of_heap h i
theorem RdP.str {p : Nat} {b : ByteArray} {v : Value} {op : Int} {W : World} (h : RdP p b v op W) (b' : ByteArray) : RdP p b' v op (W.setCell ⟨p, 0, none⟩ (.string b')) := pset h _ rfl
theorem RdP.out_ {p : Nat} {b : ByteArray} {v : Value} {op : Int} {W : World} (h : RdP p b v op W) (v' : Value) : RdP p b v' op (W.setCell ⟨p, 1, none⟩ v') := pset h _ rfl
theorem RdP.open_ {p : Nat} {b : ByteArray} {v : Value} {op : Int} {W : World} (h : RdP p b v op W) (a : Int) : RdP p b v a (W.setCell ⟨p, 2, none⟩ (.int .i64 a)) := pset h _ rfl
/-- It stands at what is left. -/
def PS (p : Nat) (l : List UInt8) (v : Value) (op : Int) (W : World) : Prop := ∃ b : ByteArray, b.data.toList = l ∧ RdP p b v op W
theorem PS.below {p : Nat} {l : List UInt8} {v : Value} {op : Int} {W W' : World} (h : PS p l v op W) (hb : Below W.heap.size W W') : PS p l v op W' := by
  obtain ⟨b, h1, h2⟩ := h; exact ⟨b, h1, h2.below hb⟩
theorem PS.lt {p : Nat} {l : List UInt8} {v : Value} {op : Int} {W : World} (h : PS p l v op W) : p < W.heap.size := by
  obtain ⟨b, h1, h2⟩ := h; exact h2.lt
theorem PS.same {p : Nat} {l : List UInt8} {v : Value} {op : Int} {W W' : World} (h : PS p l v op W) (hb : W'.heap[p]? = W.heap[p]?) : PS p l v op W' := by
  obtain ⟨b, h1, h2⟩ := h; exact ⟨b, h1, hb.trans h2⟩
/-- An error on its way out. -/
def stopL (e : Int) : List PanicEntry := [{ v := .iface 126 (.agg #[.int .i64 e]), recovered := false }]
/-- A result and what is left, or an error on its way out. -/
def PV (p : Nat) (v : Value) (op : Int) (o : Except Int (Value × List UInt8)) (W0 : World) (x : Ending) (W : World) : Prop := match o with
  | .error e => x = .panicked (stopL e) ∧ Below p W0 W
  | .ok (u, t) => x = .returned u ∧ PS p t v op W ∧ RK p W0 W
def noV (E : Ex) : Except Int (Value × List UInt8) := match E with
  | .error e => .error e
  | .ok t => .ok (.tuple #[], t)
theorem bsz (b : ByteArray) : b.data.toList.length = b.size := by rw [Array.length_toList]; rfl
set_option maxRecDepth 100000 in
theorem p_no (e : Int) (w : World) : Calls Tryz.prog 87 #[.int .i64 e] w fun x w' => x = .panicked (stopL e) ∧ w = w' := by
  go_enter Tryz.func87, Tryz.ntmps87
  go_wp2_with fail
  exact ⟨rfl, rfl, rfl⟩
theorem cut_any (b what : ByteArray) (w : World) :
    Calls Tryz.prog 101 #[.string b, .string what] w fun e w' => (∃ b' : ByteArray, e = .returned (.tuple #[.string b', .bool (tkJ what.data.toList b.data.toList).isSome]) ∧ b'.data.toList = (tkJ what.data.toList b.data.toList).getD b.data.toList) ∧ w = w' :=
  (Tryz.strings_CutPrefix b what w).mono fun e w' ⟨he, hw⟩ => by
    refine ⟨⟨⟨(Lib.trimPrefix b.data.toList what.data.toList).toArray⟩, ?_, ?_⟩, hw.symm⟩
    · rw [he]
      congr 5
      unfold tkJ Lib.hasPrefix
      split <;> rename_i hp <;> simp [hp]
    · show Lib.trimPrefix b.data.toList what.data.toList = _
      unfold Lib.trimPrefix Lib.hasPrefix tkJ
      split <;> rfl
set_option maxRecDepth 100000 in
theorem p_is (p : Nat) (l : List UInt8) (what : ByteArray) (v : Value) (op : Int) (w : World) (h : PS p l v op w) :
    Calls Tryz.prog 94 #[.pointer (some ⟨p, 0, none⟩), .string what] w fun x w' => x = .returned (.bool (tkJ what.data.toList l).isSome) ∧ PS p ((tkJ what.data.toList l).getD l) v op w' ∧ RK p w w' := by
  obtain ⟨b, rfl, hr⟩ := h
  have HC := Lib.hid (fun W => cut_any b what W)
  generalize (tkJ what.data.toList b.data.toList).isSome = bl at *
  generalize (tkJ what.data.toList b.data.toList).getD b.data.toList = t at *
  obtain ⟨c0, c1, c2⟩ := hr.cells
  have f0 := hr.frozen 0
  have HR := Lib.hid hr
  clear hr
  go_enter Tryz.func94, Tryz.ntmps94
  go_wp2_with fail
  refine (HC.out _).mono ?_; rintro x w1 ⟨⟨b', rfl, hb'⟩, rfl⟩
  have HB := Lib.hid hb'
  clear hb'
  go_wp2_with fail
  go_ret
  exact ⟨rfl, ⟨b', HB.out, HR.out.str b'⟩, RK.set p 0 _ _⟩
set_option maxRecDepth 100000 in
theorem p_must (p : Nat) (l : List UInt8) (what : ByteArray) (v : Value) (op : Int) (w : World) (h : PS p l v op w) :
    Calls Tryz.prog 92 #[.pointer (some ⟨p, 0, none⟩), .string what] w (PV p v op (noV (tkE what.data.toList (.ok l))) w) := by
  have HI := Lib.hid (p_is p l what v op w h)
  have HN := Lib.hid (fun W => p_no 40 W)
  clear h
  cases ht : tkJ what.data.toList l with
  | none =>
    rw [tkE_none ht]
    rw [ht] at HI
    clear ht
    go_enter Tryz.func92, Tryz.ntmps92
    go_wp2_with fail
    refine HI.out.mono ?_; rintro x w1 ⟨rfl, hr, hk⟩
    have HK := Lib.hid hk
    clear hr hk
    go_wp2_with fail
    refine (HN.out _).mono ?_; rintro x w2 ⟨rfl, rfl⟩
    go_wp2_with fail
    exact ⟨rfl, rfl, HK.out.1⟩
  | some t =>
    rw [tkE_some ht]
    rw [ht] at HI
    clear ht
    go_enter Tryz.func92, Tryz.ntmps92
    go_wp2_with fail
    refine HI.out.mono ?_; rintro x w1 ⟨rfl, hr, hk⟩
    have HR := Lib.hid hr
    have HK := Lib.hid hk
    clear hr hk
    go_wp2_with fail
    go_end0
    exact ⟨rfl, HR.out, HK.out⟩
theorem trim_left (b cs : ByteArray) (hcs : cs.size ≤ 100) (hascii : ∀ c ∈ cs.data.toList, c.toNat < 128) (w : World) :
    Calls Tryz.prog 28 #[.string b, .string cs] w fun e w' => (∃ b' : ByteArray, e = .returned (.string b') ∧ b'.data.toList = b.data.toList.dropWhile (cs.data.toList.contains ·)) ∧ Below w.heap.size w w' :=
  (Any.strings_TrimLeft_ascii Tryz.lays161 (fun w => by kernel_rfl) (by kernel_rfl) b cs w (by omega) (fun j x hx => hascii x (List.mem_of_getElem? hx))).mono fun e w' ⟨he, hw⟩ => ⟨⟨_, he, rfl⟩, hw⟩
theorem blank_set (l : List UInt8) : l.dropWhile (([32, 9, 13, 10] : List UInt8).contains ·) = blJ l := by
  unfold blJ
  congr 1
  funext c
  unfold blankJ
  simp only [List.contains, List.elem, Bool.or_assoc]
  cases c == 32 <;> cases c == 9 <;> cases c == 13 <;> cases c == 10 <;> rfl
theorem digit_set (l : List UInt8) : l.dropWhile (([48, 49, 50, 51, 52, 53, 54, 55, 56, 57] : List UInt8).contains ·) = l.dropWhile isDig := by
  congr 1
  funext c
  have := (by decide +kernel : ∀ i : Fin 256, ([48, 49, 50, 51, 52, 53, 54, 55, 56, 57] : List UInt8).contains (UInt8.ofNat i.val) = isDig (UInt8.ofNat i.val)) ⟨c.toNat, UInt8.toNat_lt c⟩
  simpa only [UInt8.ofNat_toNat] using this
set_option maxRecDepth 100000 in
theorem p_blanks (p : Nat) (l : List UInt8) (v : Value) (op : Int) (w : World) (h : PS p l v op w) :
    Calls Tryz.prog 86 #[.pointer (some ⟨p, 0, none⟩)] w fun x w' => x = .returned (.tuple #[]) ∧ PS p (blJ l) v op w' ∧ RK p w w' := by
  obtain ⟨b, rfl, hr⟩ := h
  have HC := Lib.hid (fun W => trim_left b ⟨#[32, 9, 13, 10]⟩ (by decide) (by decide) W)
  obtain ⟨c0, c1, c2⟩ := hr.cells
  have HR := Lib.hid hr
  have hlt := hr.lt
  clear hr
  go_enter Tryz.func86, Tryz.ntmps86
  go_wp2_with fail
  refine (HC.out _).mono ?_; rintro x w1 ⟨⟨b', rfl, hb'⟩, hb⟩
  have HB := Lib.hid hb'
  have HR1 := Lib.hid (HR.out.below hb)
  have HK1 := Lib.hid (RK.of_below hb hlt)
  clear hb' hb c0 c1 c2
  obtain ⟨c0, c1, c2⟩ := HR1.out.cells
  have f0 := HR1.out.frozen 0
  go_wp2_with fail
  go_end0
  refine ⟨rfl, ⟨b', ?_, HR1.out.str b'⟩, HK1.out.trans (RK.set p 0 _ _)⟩
  rw [HB.out, ← blank_set]
set_option maxRecDepth 100000 in
theorem p_digits (p : Nat) (l : List UInt8) (v : Value) (op : Int) (hl : l.length ≤ 100000) (w : World) (h : PS p l v op w) :
    Calls Tryz.prog 98 #[.pointer (some ⟨p, 0, none⟩)] w fun x w' => (∃ d : ByteArray, x = .returned (.string d) ∧ d.data.toList = l.takeWhile isDig) ∧ PS p (l.dropWhile isDig) v op w' ∧ RK p w w' := by
  obtain ⟨b, rfl, hr⟩ := h
  have HC := Lib.hid (fun W => trim_left b ⟨#[48, 49, 50, 51, 52, 53, 54, 55, 56, 57]⟩ (by decide) (by decide) W)
  obtain ⟨c0, c1, c2⟩ := hr.cells
  have HR := Lib.hid hr
  have hlt := hr.lt
  rw [bsz] at hl
  clear hr
  go_enter Tryz.func98, Tryz.ntmps98
  go_wp2_with fail
  refine (HC.out _).mono ?_; rintro x w1 ⟨⟨b', rfl, hb'⟩, hb⟩
  have hdd : b'.data.toList = b.data.toList.dropWhile isDig := by rw [hb', ← digit_set]
  have HB := Lib.hid hdd
  have hsz : b'.size ≤ b.size := by
    rw [← bsz, ← bsz, hdd]
    have := (cut_while isDig dig_ascii b.data.toList).1
    exact this
  have HR1 := Lib.hid (HR.out.below hb)
  have HK1 := Lib.hid (RK.of_below hb hlt)
  clear hb' hb c0 c1 c2 hdd
  obtain ⟨c0, c1, c2⟩ := HR1.out.cells
  have f0 := HR1.out.frozen 0
  obtain ⟨n, hn⟩ : ∃ n : Nat, b.size = n + b'.size := ⟨b.size - b'.size, by omega⟩
  have h1 : (b.size : Int) - (b'.size : Int) = (n : Int) := by omega
  have h2 : (0 : Int) ≤ (n : Int) := by omega
  have h3 : (n : Int).toNat = n := by omega
  have h4 : n ≤ b.size := by omega
  have HN : Hid (b.size = n + b'.size) := Lib.hid hn
  go_wp2_with fail
  go_quiet (fail)
  go_wp2_with fail
  go_ret
  refine ⟨⟨_, rfl, ?_⟩, ⟨b', HB.out, ?_⟩, ?_⟩
  · have h5 := ext_list b 0 n
    rw [Nat.zero_add, List.drop_zero, ByteArray.toList_eq] at h5
    rw [h5]
    have h6 := List.takeWhile_append_dropWhile (p := isDig) (l := b.data.toList)
    have h7 : (b.data.toList.takeWhile isDig).length = n := by
      have := congrArg List.length h6
      rw [List.length_append, ← HB.out, bsz, bsz, HN.out] at this
      omega
    conv => lhs; arg 2; rw [← h6]
    rw [← h7]
    exact List.take_left
  · exact (HR1.out.below (below_dN _ (Below.refl _ _))).str b'
  · exact (HK1.out.trans (RK.of_below (below_dN _ (Below.refl _ _)) HR1.out.lt)).trans (RK.set p 0 _ _)
end Go.Proofs.YtgclnjogoghhcaaGreatDoor
namespace Go.Proofs.YtgclnjogoghhcaaGreatDoor
open Go.RowKit Go.Lib
theorem tl_nil {b : ByteArray} (h : b.data.toList = []) : b.toList = [] := by rw [ByteArray.toList_eq]; exact h
theorem tl_cons {b : ByteArray} {c : UInt8} {r : List UInt8} (h : b.data.toList = c :: r) : ¬ b.toList = [] ∧ b.toList.isEmpty = false ∧ (b.toList == []) = false ∧ 0 < b.size ∧ b.size = r.length + 1 := by
  have e : b.toList = c :: r := by rw [ByteArray.toList_eq]; exact h
  have hs : b.size = r.length + 1 := by rw [← bsz, h]; rfl
  rw [e]
  exact ⟨by simp, rfl, rfl, by omega, hs⟩
theorem at_zero {b : ByteArray} {c : UInt8} {r : List UInt8} (h : b.data.toList = c :: r) (h0 : 0 < b.size) : b[0]'h0 = c := by
  have := drop_at b 0 h0
  rw [List.drop_zero, h] at this
  injection this with e; exact e.symm
theorem ext_one {b : ByteArray} {c : UInt8} {r : List UInt8} (h : b.data.toList = c :: r) (n : Nat) (hn : n = b.size) : (b.extract 1 n).data.toList = r := by
  have h5 := ext_list b 1 r.length
  have hs : b.size = r.length + 1 := by rw [← bsz, h]; rfl
  rw [show 1 + r.length = n from by omega, ByteArray.toList_eq, h, List.drop_succ_cons, List.drop_zero, List.take_length] at h5
  exact h5
theorem pj_no {mark sign : UInt8 → Bool} {c : UInt8} (r : List UInt8) (h : mark c = false) : partJ mark sign (c :: r) = none := by simp [partJ, h]
theorem pj_yes {mark sign : UInt8 → Bool} {c : UInt8} (r : List UInt8) (h : mark c = true) (hs : (r.head?.map sign).getD false = false) : partJ mark sign (c :: r) = if (r.takeWhile isDig).isEmpty then none else some (r.dropWhile isDig) := by
  simp only [partJ, h, hs, if_true, Bool.false_eq_true, if_false]
theorem pj_sign {mark sign : UInt8 → Bool} {c d : UInt8} (r : List UInt8) (h : mark c = true) (hs : sign d = true) : partJ mark sign (c :: d :: r) = if (r.takeWhile isDig).isEmpty then none else some (r.dropWhile isDig) := by
  simp only [partJ, h, hs, if_true, List.head?_cons, Option.map_some, Option.getD_some, List.tail_cons]
theorem ix_any (s : ByteArray) (c : UInt8) (w : World) :
    Calls Tryz.prog 21 #[.string s, .int .u8 (c.toNat : Int)] w fun e w' => e = .returned (.int .i64 (Lib.indexByte s.data.toList c)) ∧ w = w' :=
  (Tryz.strings_IndexByte s (c.toNat : Int) w).mono fun e w' ⟨he, hw⟩ => ⟨by
    rw [he, show ((c.toNat : Int).toNat.toUInt8) = c from by rw [Int.toNat_natCast]; exact UInt8.ofNat_toNat], hw.symm⟩
set_option maxRecDepth 100000 in
set_option maxHeartbeats 4000000 in
theorem p_part (p : Nat) (l : List UInt8) (marks signs : ByteArray) (mark sign : UInt8 → Bool) (hm : ∀ c, decide (0 ≤ Lib.indexByte marks.data.toList c) = mark c) (hsg : ∀ c, decide (0 ≤ Lib.indexByte signs.data.toList c) = sign c) (v : Value) (op : Int) (hl : l.length ≤ 100000) (w : World) (h : PS p l v op w) :
    Calls Tryz.prog 99 #[.pointer (some ⟨p, 0, none⟩), .string marks, .string signs] w fun x w' => x = .returned (.bool (partJ mark sign l).isSome) ∧ PS p ((partJ mark sign l).getD l) v op w' ∧ RK p w w' := by
  obtain ⟨b, hbl, hr⟩ := h
  have HBL := Lib.hid hbl
  obtain ⟨c0, c1, c2⟩ := hr.cells
  have f0 := hr.frozen 0
  have HR := Lib.hid hr
  have HIX := Lib.hid ix_any
  clear hr
  cases l with
  | nil =>
    have hbe := tl_nil hbl
    clear hbl
    go_enter Tryz.func99, Tryz.ntmps99
    go_wp2_with fail
    go_ret
    exact ⟨rfl, ⟨b, HBL.out, HR.out.str b⟩, RK.set p 0 _ _⟩
  | cons c r =>
    obtain ⟨hb1, hb2, hb3, hb4, -⟩ := tl_cons hbl
    have h00 : b[0]'hb4 = c := at_zero hbl hb4
    have HX1 := Lib.hid (HIX.out marks c)
    have hmc := hm c
    rw [← h00] at HX1 hmc
    obtain ⟨k, hk⟩ : ∃ k, Lib.indexByte marks.data.toList (b[0]'hb4) = k := ⟨_, rfl⟩
    rw [hk] at HX1 hmc
    cases hmk : mark c with
    | false =>
      have tk : decide (0 ≤ k) = false := by rw [hmc, h00]; exact hmk
      have HZ : Hid (partJ mark sign (c :: r) = none) := Lib.hid (pj_no r hmk)
      clear hbl hk hmc hmk h00 hm hsg
      go_enter Tryz.func99, Tryz.ntmps99
      go_wp2_with fail
      refine (HX1.out _).mono ?_; rintro x w1 ⟨rfl, rfl⟩
      go_wp2_with fail
      go_ret
      rw [HZ.out]
      exact ⟨rfl, ⟨b, HBL.out, HR.out.str b⟩, RK.set p 0 _ _⟩
    | true =>
      have tk : decide (0 ≤ k) = true := by rw [hmc, h00]; exact hmk
      have hsz1 : 1 ≤ b.size := hb4
      obtain ⟨b1, hb1e⟩ : ∃ b1, b.extract 1 b.size = b1 := ⟨_, rfl⟩
      have hb1l := ext_one hbl b.size rfl
      rw [hb1e] at hb1l
      have HB1 := Lib.hid hb1l
      obtain ⟨l, hll⟩ : ∃ l, c :: r = l := ⟨_, rfl⟩
      cases r with
      | nil =>
        have HPJ : Hid (partJ mark sign l = (if (([] : List UInt8).takeWhile isDig).isEmpty then none else some (([] : List UInt8).dropWhile isDig))) := Lib.hid (by rw [← hll]; exact pj_yes [] hmk rfl)
        have hbe : b1 = ByteArray.empty := by
          apply ByteArray.ext; apply Array.toList_inj.1; rw [hb1l]; rfl
        subst hbe
        rw [hll] at HBL hl ⊢
        clear hbl hk hmc hmk h00 hm hsg hb1l hll
        go_enter Tryz.func99, Tryz.ntmps99
        go_wp2_with fail
        refine (HX1.out _).mono ?_; rintro x w1 ⟨rfl, rfl⟩
        have HRQ := Lib.hid (HR.out.str ByteArray.empty)
        have HKQ : Hid (RK p w (w.setCell ⟨p, 0, none⟩ (.string ByteArray.empty))) := Lib.hid (RK.set p 0 _ _)
        have HBQ := HB1
        go_wp2_with fail
        have HDG : Hid (∀ W, PS p ([] : List UInt8) v op W → Calls Tryz.prog 98 #[.pointer (some ⟨p, 0, none⟩)] W fun x w' => (∃ dd : ByteArray, x = .returned (.string dd) ∧ dd.data.toList = (([] : List UInt8)).takeWhile isDig) ∧ PS p ((([] : List UInt8)).dropWhile isDig) v op w' ∧ RK p W w') := Lib.hid fun W hW => p_digits p _ v op (by simp) W hW
        cases hdw : ((([] : List UInt8)).takeWhile isDig) with
        | nil =>
          have HZ : Hid (partJ mark sign l = none) := Lib.hid (by rw [HPJ.out, hdw]; rfl)
          rw [hdw] at HDG
          clear hdw
          refine (HDG.out _ ⟨_, HBQ.out, HRQ.out⟩).mono ?_; rintro x w2 ⟨⟨d, rfl, hd⟩, hps, hk⟩
          have hde := tl_nil hd
          obtain ⟨b2, hb2, hr2⟩ := hps
          have HK2 := Lib.hid (HKQ.out.trans hk)
          have HR2 := Lib.hid hr2
          clear hk hr2 hb2 hd
          obtain ⟨c0, c1, c2⟩ := HR2.out.cells
          have f0 := HR2.out.frozen 0
          go_wp2_with fail
          go_ret
          rw [HZ.out]
          exact ⟨rfl, ⟨b, HBL.out, HR2.out.str b⟩, HK2.out.trans (RK.set p 0 _ _)⟩
        | cons dc dr =>
          have HZ : Hid (partJ mark sign l = some ((([] : List UInt8)).dropWhile isDig)) := Lib.hid (by rw [HPJ.out, hdw]; rfl)
          rw [hdw] at HDG
          clear hdw
          refine (HDG.out _ ⟨_, HBQ.out, HRQ.out⟩).mono ?_; rintro x w2 ⟨⟨d, rfl, hd⟩, hps, hk⟩
          obtain ⟨hd1, hd2, hd3, -, -⟩ := tl_cons hd
          have HPS := Lib.hid hps
          have HK2 := Lib.hid (HKQ.out.trans hk)
          clear hps hk hd
          go_wp2_with fail
          go_ret
          rw [HZ.out]
          exact ⟨rfl, HPS.out, HK2.out⟩
      | cons d r2 =>
        obtain ⟨hq1, hq2, hq3, hq4, -⟩ := tl_cons hb1l
        have h01 : b1[0]'hq4 = d := at_zero hb1l hq4
        have HX2 := Lib.hid (HIX.out signs d)
        have hsc := hsg d
        rw [← h01] at HX2 hsc
        obtain ⟨k2, hk2⟩ : ∃ k, Lib.indexByte signs.data.toList (b1[0]'hq4) = k := ⟨_, rfl⟩
        rw [hk2] at HX2 hsc
        have hl2 : r2.length ≤ 100000 := by simp only [List.length_cons] at hl; omega
        have hl3 : (d :: r2).length ≤ 100000 := by simp only [List.length_cons] at hl ⊢; omega
        cases hsd : sign d with
        | false =>
          have tk2 : decide (0 ≤ k2) = false := by rw [hsc, h01]; exact hsd
          have HPJ : Hid (partJ mark sign l = (if ((d :: r2).takeWhile isDig).isEmpty then none else some ((d :: r2).dropWhile isDig))) := Lib.hid (by rw [← hll]; exact pj_yes (d :: r2) hmk hsd)
          rw [hll] at HBL hl ⊢
          clear hbl hk hmc hmk h00 hm hsg hb1l hll h01 hsc hsd hk2
          have HRQ0 := Lib.hid (HR.out.str b1)
          have HKQ0 : Hid (RK p w (w.setCell ⟨p, 0, none⟩ (.string b1))) := Lib.hid (RK.set p 0 _ _)
          obtain ⟨wq, hwq⟩ : ∃ wq, (w.setCell ⟨p, 0, none⟩ (.string b1)) = wq := ⟨_, rfl⟩
          have HBQ := HB1
          go_enter Tryz.func99, Tryz.ntmps99
          go_wp2_with fail
          refine (HX1.out _).mono ?_; rintro x w1 ⟨rfl, rfl⟩
          rw [hwq] at HRQ0 HKQ0
          have HRQ := HRQ0
          have HKQ := HKQ0
          obtain ⟨d0, d1, d2⟩ := HRQ.out.cells
          have e0 := HRQ.out.frozen 0
          go_wp2_with fail
          refine (HX2.out _).mono ?_; rintro x w1 ⟨rfl, rfl⟩
          go_wp2_with fail
          have HDG : Hid (∀ W, PS p (d :: r2) v op W → Calls Tryz.prog 98 #[.pointer (some ⟨p, 0, none⟩)] W fun x w' => (∃ dd : ByteArray, x = .returned (.string dd) ∧ dd.data.toList = ((d :: r2)).takeWhile isDig) ∧ PS p (((d :: r2)).dropWhile isDig) v op w' ∧ RK p W w') := Lib.hid fun W hW => p_digits p _ v op (hl3) W hW
          cases hdw : (((d :: r2)).takeWhile isDig) with
          | nil =>
            have HZ : Hid (partJ mark sign l = none) := Lib.hid (by rw [HPJ.out, hdw]; rfl)
            rw [hdw] at HDG
            clear hdw
            refine (HDG.out _ ⟨_, HBQ.out, HRQ.out⟩).mono ?_; rintro x w2 ⟨⟨d, rfl, hd⟩, hps, hk⟩
            have hde := tl_nil hd
            obtain ⟨b2, hb2, hr2⟩ := hps
            have HK2 := Lib.hid (HKQ.out.trans hk)
            have HR2 := Lib.hid hr2
            clear hk hr2 hb2 hd
            obtain ⟨c0, c1, c2⟩ := HR2.out.cells
            have f0 := HR2.out.frozen 0
            go_wp2_with fail
            go_ret
            rw [HZ.out]
            exact ⟨rfl, ⟨b, HBL.out, HR2.out.str b⟩, HK2.out.trans (RK.set p 0 _ _)⟩
          | cons dc dr =>
            have HZ : Hid (partJ mark sign l = some (((d :: r2)).dropWhile isDig)) := Lib.hid (by rw [HPJ.out, hdw]; rfl)
            rw [hdw] at HDG
            clear hdw
            refine (HDG.out _ ⟨_, HBQ.out, HRQ.out⟩).mono ?_; rintro x w2 ⟨⟨d, rfl, hd⟩, hps, hk⟩
            obtain ⟨hd1, hd2, hd3, -, -⟩ := tl_cons hd
            have HPS := Lib.hid hps
            have HK2 := Lib.hid (HKQ.out.trans hk)
            clear hps hk hd
            go_wp2_with fail
            go_ret
            rw [HZ.out]
            exact ⟨rfl, HPS.out, HK2.out⟩
        | true =>
          have tk2 : decide (0 ≤ k2) = true := by rw [hsc, h01]; exact hsd
          have HPJ : Hid (partJ mark sign l = (if (r2.takeWhile isDig).isEmpty then none else some (r2.dropWhile isDig))) := Lib.hid (by rw [← hll]; exact pj_sign r2 hmk hsd)
          have hsz2 : 1 ≤ b1.size := hq4
          obtain ⟨b2, hb2e⟩ : ∃ b2, b1.extract 1 b1.size = b2 := ⟨_, rfl⟩
          have hb2l := ext_one hb1l b1.size rfl
          rw [hb2e] at hb2l
          have HBQ := Lib.hid hb2l
          rw [hll] at HBL hl ⊢
          clear hbl hk hmc hmk h00 hm hsg hb1l hll h01 hsc hsd hk2 hb2l
          have HRQ0 := Lib.hid (HR.out.str b1)
          have HKQ0 : Hid (RK p w (w.setCell ⟨p, 0, none⟩ (.string b1))) := Lib.hid (RK.set p 0 _ _)
          obtain ⟨wq, hwq⟩ : ∃ wq, (w.setCell ⟨p, 0, none⟩ (.string b1)) = wq := ⟨_, rfl⟩
          go_enter Tryz.func99, Tryz.ntmps99
          go_wp2_with fail
          refine (HX1.out _).mono ?_; rintro x w1 ⟨rfl, rfl⟩
          rw [hwq] at HRQ0 HKQ0
          obtain ⟨d0, d1, d2⟩ := HRQ0.out.cells
          have e0 := HRQ0.out.frozen 0
          go_wp2_with fail
          refine (HX2.out _).mono ?_; rintro x w1 ⟨rfl, rfl⟩
          have HRQ := Lib.hid (HRQ0.out.str b2)
          have HKQ := Lib.hid (HKQ0.out.trans (RK.set p 0 wq (.string b2)))
          go_wp2_with fail
          have HDG : Hid (∀ W, PS p r2 v op W → Calls Tryz.prog 98 #[.pointer (some ⟨p, 0, none⟩)] W fun x w' => (∃ dd : ByteArray, x = .returned (.string dd) ∧ dd.data.toList = (r2).takeWhile isDig) ∧ PS p ((r2).dropWhile isDig) v op w' ∧ RK p W w') := Lib.hid fun W hW => p_digits p _ v op (hl2) W hW
          cases hdw : ((r2).takeWhile isDig) with
          | nil =>
            have HZ : Hid (partJ mark sign l = none) := Lib.hid (by rw [HPJ.out, hdw]; rfl)
            rw [hdw] at HDG
            clear hdw
            refine (HDG.out _ ⟨_, HBQ.out, HRQ.out⟩).mono ?_; rintro x w2 ⟨⟨d, rfl, hd⟩, hps, hk⟩
            have hde := tl_nil hd
            obtain ⟨b2, hb2, hr2⟩ := hps
            have HK2 := Lib.hid (HKQ.out.trans hk)
            have HR2 := Lib.hid hr2
            clear hk hr2 hb2 hd
            obtain ⟨c0, c1, c2⟩ := HR2.out.cells
            have f0 := HR2.out.frozen 0
            go_wp2_with fail
            go_ret
            rw [HZ.out]
            exact ⟨rfl, ⟨b, HBL.out, HR2.out.str b⟩, HK2.out.trans (RK.set p 0 _ _)⟩
          | cons dc dr =>
            have HZ : Hid (partJ mark sign l = some ((r2).dropWhile isDig)) := Lib.hid (by rw [HPJ.out, hdw]; rfl)
            rw [hdw] at HDG
            clear hdw
            refine (HDG.out _ ⟨_, HBQ.out, HRQ.out⟩).mono ?_; rintro x w2 ⟨⟨d, rfl, hd⟩, hps, hk⟩
            obtain ⟨hd1, hd2, hd3, -, -⟩ := tl_cons hd
            have HPS := Lib.hid hps
            have HK2 := Lib.hid (HKQ.out.trans hk)
            clear hps hk hd
            go_wp2_with fail
            go_ret
            rw [HZ.out]
            exact ⟨rfl, HPS.out, HK2.out⟩
end Go.Proofs.YtgclnjogoghhcaaGreatDoor
namespace Go.Proofs.YtgclnjogoghhcaaGreatDoor
open Go.RowKit Go.Lib
/-- A digit to the base of 16, small. -/
def lowH (c : UInt8) : UInt8 := if 65 ≤ c.toNat ∧ c.toNat ≤ 70 then c + 32 else c
theorem hex_ix (c : UInt8) : Lib.indexByte [48, 49, 50, 51, 52, 53, 54, 55, 56, 57, 97, 98, 99, 100, 101, 102] (lowH c) = (match hexJ c with | some d => (d : Int) | none => -1) := by
  have := (by decide +kernel : ∀ i : Fin 256, Lib.indexByte [48, 49, 50, 51, 52, 53, 54, 55, 56, 57, 97, 98, 99, 100, 101, 102] (lowH (UInt8.ofNat i.val)) = (match hexJ (UInt8.ofNat i.val) with | some d => (d : Int) | none => -1)) ⟨c.toNat, UInt8.toNat_lt c⟩
  simpa only [UInt8.ofNat_toNat] using this
theorem up_add (c : UInt8) (h : 65 ≤ c.toNat ∧ c.toNat ≤ 70) : IntKind.u8.wrap ((c.toNat : Int) + 32) = ((lowH c).toNat : Int) := by
  have := (by decide +kernel : ∀ i : Fin 256, 65 ≤ (UInt8.ofNat i.val).toNat ∧ (UInt8.ofNat i.val).toNat ≤ 70 → IntKind.u8.wrap (((UInt8.ofNat i.val).toNat : Int) + 32) = ((lowH (UInt8.ofNat i.val)).toNat : Int)) ⟨c.toNat, UInt8.toNat_lt c⟩
  simp only [UInt8.ofNat_toNat] at this
  exact this h
def fourV (o : Option (Nat × List UInt8)) : Except Int (Value × List UInt8) := match o with
  | none => .error 40
  | some (n, t) => .ok (.int .i64 (n : Int), t)
set_option maxRecDepth 100000 in
set_option maxHeartbeats 4000000 in
theorem p_four (p : Nat) (l : List UInt8) (v : Value) (op : Int) (w : World) (h : PS p l v op w) :
    Calls Tryz.prog 102 #[.pointer (some ⟨p, 0, none⟩)] w (PV p v op (fourV (hexsJ 4 0 l)) w) := by
  have HH := Lib.hid h
  obtain ⟨R, hR⟩ : ∃ R, hexsJ 4 0 l = R := ⟨_, rfl⟩
  have HR0 := Lib.hid hR
  have HNO : Hid (∀ (e : Int) W, Calls Tryz.prog 87 #[.int .i64 e] W fun x w' => x = .panicked (stopL e) ∧ W = w') := Lib.hid fun e W => p_no e W
  have HIX : Hid (∀ (c : UInt8) W, Calls Tryz.prog 21 #[.string ⟨#[48, 49, 50, 51, 52, 53, 54, 55, 56, 57, 97, 98, 99, 100, 101, 102]⟩, .int .u8 (c.toNat : Int)] W fun x w' => x = .returned (.int .i64 (Lib.indexByte [48, 49, 50, 51, 52, 53, 54, 55, 56, 57, 97, 98, 99, 100, 101, 102] c)) ∧ W = w') := Lib.hid fun c W => ix_any ⟨#[48, 49, 50, 51, 52, 53, 54, 55, 56, 57, 97, 98, 99, 100, 101, 102]⟩ c W
  rw [hR]
  clear h hR
  go_enter Tryz.func102, Tryz.ntmps102
  go_wp2_with fail
  go_loopg [2, 5] 4 (fun gk nv iv wr => ∃ (j N : Nat) (l1 : List UInt8), nv = .int .i64 (N : Int) ∧ iv = .int .i64 (j : Int) ∧ (gk + j ≤ 4 ∧ 4 ≤ gk + j) ∧ Hid (N < 16 ^ j) ∧ Hid (hexsJ gk N l1 = R) ∧ Hid (PS p l1 v op wr) ∧ Hid (RK p w wr))
  case atStart => exact ⟨0, 0, l, rfl, rfl, ⟨by omega, by omega⟩, Lib.hid (by decide), HR0, HH, Lib.hid (RK.refl _ _)⟩
  case round =>
    rename World => wr
    obtain ⟨j, N, l1, rfl, rfl, ⟨hg, hg'⟩, HN, HJ, HS, HK⟩ := hrel
    by_cases hg0 : gk = 0
    · subst hg0
      have hj4 : ¬ (j : Int) < 4 := by omega
      have HZ : Hid (some (N, l1) = R) := Lib.hid HJ.out
      clear hg hg'
      go_wp2_with fail
      go_ret
      rw [← HZ.out]
      exact ⟨rfl, HS.out, HK.out⟩
    · obtain ⟨g1, rfl⟩ : ∃ g1, gk = g1 + 1 := ⟨gk - 1, by omega⟩
      have hj4 : (j : Int) < 4 := by omega
      have hN4 : N ≤ 4095 := by
        have h1 := HN.out
        have h2 : 16 ^ j ≤ 16 ^ 3 := Nat.pow_le_pow_right (by decide) (by omega)
        omega
      obtain ⟨b, hbl, hr⟩ := HS.out
      obtain ⟨c0, c1, c2⟩ := hr.cells
      have f0 := hr.frozen 0
      have HRB := Lib.hid hr
      clear hr
      cases l1 with
      | nil =>
        have HZ : Hid (none = R) := Lib.hid HJ.out
        have hbe : b = ByteArray.empty := by
          apply ByteArray.ext; apply Array.toList_inj.1; rw [hbl]; rfl
        subst hbe
        clear hbl hg hg'
        go_wp2_with fail
        refine (HNO.out _ _).mono ?_; rintro x w1 ⟨rfl, rfl⟩
        go_wp2_with fail
        refine ⟨rfl, ?_⟩
        rw [← HZ.out]
        exact ⟨rfl, HK.out.1⟩
      | cons c r =>
        obtain ⟨hb1, hb2, hb3, hb4, -⟩ := tl_cons hbl
        have h00 : b[0]'hb4 = c := at_zero hbl hb4
        have hsz1 : 1 ≤ b.size := hb4
        have hsz1i : (1 : Int) ≤ (b.size : Int) := by omega
        obtain ⟨b1, hb1e⟩ : ∃ b1, b.extract 1 b.size = b1 := ⟨_, rfl⟩
        have hb1l := ext_one hbl b.size rfl
        rw [hb1e] at hb1l
        have HB1 := Lib.hid hb1l
        have HX1 := Lib.hid (HIX.out (lowH c))
        rw [hex_ix] at HX1
        have hci : ((b[0]'hb4).toNat : Int) = (c.toNat : Int) := by rw [h00]
        by_cases h1 : 65 ≤ c.toNat
        · by_cases h2 : c.toNat ≤ 70
          · have t1 : decide ((65 : Int) ≤ ((b[0]'hb4).toNat : Int)) = true := decide_eq_true (by omega)
            have t2 : decide (((b[0]'hb4).toNat : Int) ≤ 70) = true := decide_eq_true (by omega)
            have hw := up_add c ⟨h1, h2⟩
            rw [← hci] at hw
            cases hx : hexJ c with
            | none =>
              have HZ : Hid (none = R) := Lib.hid (by have := HJ.out; rw [hexsJ, hx] at this; exact this)
              rw [hx] at HX1
              clear hbl hg hg' hx h00 hci hb1l
              go_wp2_with fail
              refine (HX1.out _).mono ?_; rintro x w1 ⟨rfl, rfl⟩
              go_wp2_with fail
              refine (HNO.out _ _).mono ?_; rintro x w1 ⟨rfl, rfl⟩
              go_wp2_with fail
              refine ⟨rfl, ?_⟩
              rw [← HZ.out]
              exact ⟨rfl, HK.out.1⟩
            | some d =>
              have hd16 := (hexJ_ascii c d hx).2
              have HJN : Hid (hexsJ g1 (N * 16 + d) r = R) := Lib.hid (by have := HJ.out; rw [hexsJ, hx] at this; exact this)
              have HNN : Hid (N * 16 + d < 16 ^ (j + 1)) := Lib.hid (by
                have := HN.out
                rw [Nat.pow_succ]; omega)
              rw [hx] at HX1
              have td : decide ((d : Int) < 0) = false := decide_eq_false (by omega)
              have e1 : IntKind.i64.wrap ((N : Int) * 16) = (N : Int) * 16 := IntWalk.i64_in _ (by omega)
              have e2 : IntKind.i64.wrap ((N : Int) * 16 + (d : Int)) = ((N * 16 + d : Nat) : Int) := by rw [IntWalk.i64_in _ (by omega)]; omega
              have HSN : Hid (PS p r v op (wr.setCell ⟨p, 0, none⟩ (.string b1))) := Lib.hid ⟨b1, HB1.out, HRB.out.str b1⟩
              have HKN : Hid (RK p w (wr.setCell ⟨p, 0, none⟩ (.string b1))) := Lib.hid (HK.out.trans (RK.set p 0 _ _))
              clear hbl hg0 hx h00 hci hb1l
              go_wp2_with fail
              refine (HX1.out _).mono ?_; rintro x w1 ⟨rfl, rfl⟩
              go_wp2_with fail
              refine wp_region_still_tail 13 (by kernel_rfl) (by kernel_rfl) ?_
              simp only [List.take_succ_cons, List.take_zero, List.drop_succ_cons, List.drop_zero]
              repeat (refine wpStill_step (fun K hK => ?_); go_simp; refine hK _ ?_; clear hK K)
              refine wpStill_nil ?_
              change wpList _ _ _ _ _ (World.drew _)
              go_wp2_with fail
              go_roundg g1
              case measure => omega
              case rel => exact ⟨j + 1, N * 16 + d, r, by first | rfl | go_num, by go_num, ⟨by omega, by omega⟩, HNN, HJN, Lib.hid (HSN.out.below ⟨rfl, rfl, rfl, Nat.le_refl _, fun _ _ => rfl⟩), Lib.hid (HKN.out.trans ⟨⟨rfl, rfl, rfl, Nat.le_refl _, fun _ _ => rfl⟩, fun _ _ h _ => h⟩)⟩
          · have t1 : decide ((65 : Int) ≤ ((b[0]'hb4).toNat : Int)) = true := decide_eq_true (by omega)
            have t2 : decide (((b[0]'hb4).toNat : Int) ≤ 70) = false := decide_eq_false (by omega)
            have hw : lowH c = b[0]'hb4 := by rw [h00]; unfold lowH; rw [if_neg (by omega)]
            rw [hw] at HX1
            cases hx : hexJ c with
            | none =>
              have HZ : Hid (none = R) := Lib.hid (by have := HJ.out; rw [hexsJ, hx] at this; exact this)
              rw [hx] at HX1
              clear hbl hg hg' hx h00 hci hb1l
              go_wp2_with fail
              refine (HX1.out _).mono ?_; rintro x w1 ⟨rfl, rfl⟩
              go_wp2_with fail
              refine (HNO.out _ _).mono ?_; rintro x w1 ⟨rfl, rfl⟩
              go_wp2_with fail
              refine ⟨rfl, ?_⟩
              rw [← HZ.out]
              exact ⟨rfl, HK.out.1⟩
            | some d =>
              have hd16 := (hexJ_ascii c d hx).2
              have HJN : Hid (hexsJ g1 (N * 16 + d) r = R) := Lib.hid (by have := HJ.out; rw [hexsJ, hx] at this; exact this)
              have HNN : Hid (N * 16 + d < 16 ^ (j + 1)) := Lib.hid (by
                have := HN.out
                rw [Nat.pow_succ]; omega)
              rw [hx] at HX1
              have td : decide ((d : Int) < 0) = false := decide_eq_false (by omega)
              have e1 : IntKind.i64.wrap ((N : Int) * 16) = (N : Int) * 16 := IntWalk.i64_in _ (by omega)
              have e2 : IntKind.i64.wrap ((N : Int) * 16 + (d : Int)) = ((N * 16 + d : Nat) : Int) := by rw [IntWalk.i64_in _ (by omega)]; omega
              have HSN : Hid (PS p r v op (wr.setCell ⟨p, 0, none⟩ (.string b1))) := Lib.hid ⟨b1, HB1.out, HRB.out.str b1⟩
              have HKN : Hid (RK p w (wr.setCell ⟨p, 0, none⟩ (.string b1))) := Lib.hid (HK.out.trans (RK.set p 0 _ _))
              clear hbl hg0 hx h00 hci hb1l
              go_wp2_with fail
              refine (HX1.out _).mono ?_; rintro x w1 ⟨rfl, rfl⟩
              go_wp2_with fail
              refine wp_region_still_tail 13 (by kernel_rfl) (by kernel_rfl) ?_
              simp only [List.take_succ_cons, List.take_zero, List.drop_succ_cons, List.drop_zero]
              repeat (refine wpStill_step (fun K hK => ?_); go_simp; refine hK _ ?_; clear hK K)
              refine wpStill_nil ?_
              change wpList _ _ _ _ _ (World.drew _)
              go_wp2_with fail
              go_roundg g1
              case measure => omega
              case rel => exact ⟨j + 1, N * 16 + d, r, by first | rfl | go_num, by go_num, ⟨by omega, by omega⟩, HNN, HJN, Lib.hid (HSN.out.below ⟨rfl, rfl, rfl, Nat.le_refl _, fun _ _ => rfl⟩), Lib.hid (HKN.out.trans ⟨⟨rfl, rfl, rfl, Nat.le_refl _, fun _ _ => rfl⟩, fun _ _ h _ => h⟩)⟩
        · have t1 : decide ((65 : Int) ≤ ((b[0]'hb4).toNat : Int)) = false := decide_eq_false (by omega)
          have hw : lowH c = b[0]'hb4 := by rw [h00]; unfold lowH; rw [if_neg (by omega)]
          rw [hw] at HX1
          cases hx : hexJ c with
          | none =>
            have HZ : Hid (none = R) := Lib.hid (by have := HJ.out; rw [hexsJ, hx] at this; exact this)
            rw [hx] at HX1
            clear hbl hg hg' hx h00 hci hb1l
            go_wp2_with fail
            refine (HX1.out _).mono ?_; rintro x w1 ⟨rfl, rfl⟩
            go_wp2_with fail
            refine (HNO.out _ _).mono ?_; rintro x w1 ⟨rfl, rfl⟩
            go_wp2_with fail
            refine ⟨rfl, ?_⟩
            rw [← HZ.out]
            exact ⟨rfl, HK.out.1⟩
          | some d =>
            have hd16 := (hexJ_ascii c d hx).2
            have HJN : Hid (hexsJ g1 (N * 16 + d) r = R) := Lib.hid (by have := HJ.out; rw [hexsJ, hx] at this; exact this)
            have HNN : Hid (N * 16 + d < 16 ^ (j + 1)) := Lib.hid (by
              have := HN.out
              rw [Nat.pow_succ]; omega)
            rw [hx] at HX1
            have td : decide ((d : Int) < 0) = false := decide_eq_false (by omega)
            have e1 : IntKind.i64.wrap ((N : Int) * 16) = (N : Int) * 16 := IntWalk.i64_in _ (by omega)
            have e2 : IntKind.i64.wrap ((N : Int) * 16 + (d : Int)) = ((N * 16 + d : Nat) : Int) := by rw [IntWalk.i64_in _ (by omega)]; omega
            have HSN : Hid (PS p r v op (wr.setCell ⟨p, 0, none⟩ (.string b1))) := Lib.hid ⟨b1, HB1.out, HRB.out.str b1⟩
            have HKN : Hid (RK p w (wr.setCell ⟨p, 0, none⟩ (.string b1))) := Lib.hid (HK.out.trans (RK.set p 0 _ _))
            clear hbl hg0 hx h00 hci hb1l
            go_wp2_with fail
            refine (HX1.out _).mono ?_; rintro x w1 ⟨rfl, rfl⟩
            go_wp2_with fail
            refine wp_region_still_tail 13 (by kernel_rfl) (by kernel_rfl) ?_
            simp only [List.take_succ_cons, List.take_zero, List.drop_succ_cons, List.drop_zero]
            repeat (refine wpStill_step (fun K hK => ?_); go_simp; refine hK _ ?_; clear hK K)
            refine wpStill_nil ?_
            change wpList _ _ _ _ _ (World.drew _)
            go_wp2_with fail
            go_roundg g1
            case measure => omega
            case rel => exact ⟨j + 1, N * 16 + d, r, by first | rfl | go_num, by go_num, ⟨by omega, by omega⟩, HNN, HJN, Lib.hid (HSN.out.below ⟨rfl, rfl, rfl, Nat.le_refl _, fun _ _ => rfl⟩), Lib.hid (HKN.out.trans ⟨⟨rfl, rfl, rfl, Nat.le_refl _, fun _ _ => rfl⟩, fun _ _ h _ => h⟩)⟩
end Go.Proofs.YtgclnjogoghhcaaGreatDoor
namespace Go.Proofs.YtgclnjogoghhcaaGreatDoor
open Go.RowKit
set_option maxHeartbeats 400000 in
theorem limit_any (s n : Int) (h : s = 0 ∨ s = 1) (w : World) :
    Calls Tryz.prog 115 #[.agg #[.int .i64 s, .int .u64 n]] w fun e w' => e = .returned (.int .u64 (9223372036854775807 + s)) ∧ Below w.heap.size w w' := by
  have hi0 : ∀ w, (Instr.index 158 (Value.agg #[Value.int IntKind.u64 9223372036854775807, Value.int IntKind.u64 9223372036854775808]) (Value.int IntKind.i64 0)).run Tryz.prog w = .ok (.int .u64 9223372036854775807) w := fun _ => by kernel_rfl
  have hi1 : ∀ w, (Instr.index 158 (Value.agg #[Value.int IntKind.u64 9223372036854775807, Value.int IntKind.u64 9223372036854775808]) (Value.int IntKind.i64 1)).run Tryz.prog w = .ok (.int .u64 9223372036854775808) w := fun _ => by kernel_rfl
  rcases h with rfl | rfl
  all_goals
    go_enter Tryz.func115, Tryz.ntmps115
    go_wp2
    go_ret
    exact ⟨rfl, (Below.refl _ _).alloc (Nat.le_refl _) _⟩
/-- The cells of a block just made, behind a call that only makes blocks. -/
theorem keep2 {w W w1 : World} {b : Nat} {x y : Value} (h : W.cell? ⟨b, 0, none⟩ = some x ∧ W.cell? ⟨b, 1, none⟩ = some y ∧ b < W.heap.size ∧ Below w.heap.size w W) (hb : Below W.heap.size W w1) (hw : w.heap.size ≤ W.heap.size) :
    w1.cell? ⟨b, 0, none⟩ = some x ∧ w1.cell? ⟨b, 1, none⟩ = some y ∧ b < w1.heap.size ∧ Below w.heap.size w w1 := by
  obtain ⟨h0, h1, h2, h3⟩ := h
  exact ⟨(hb.cell (p := ⟨b, 0, none⟩) h2).trans h0, (hb.cell (p := ⟨b, 1, none⟩) h2).trans h1, Nat.lt_of_lt_of_le h2 hb.size, h3.trans (hb.mono hw)⟩
set_option maxRecDepth 100000 in
set_option maxHeartbeats 1000000 in
theorem number_0 (n : Int) (h0 : 0 ≤ n) (h1 : n ≤ 18446744073709551615) (w : World) :
    Calls Tryz.prog 107 #[.agg #[.int .i64 0, .int .u64 n]] w fun e w' => e = .returned (.tuple #[.int .i64 (val n), .int .i64 (err n)]) ∧ Below w.heap.size w w' := by
  have L := Lib.hid (fun w => limit_any 0 n (by simp) w)
  go_enter Tryz.func107, Tryz.ntmps107
  go_wp2_with fail
  go_region_held3 (fun W => W.cell? ⟨w.heap.size, 0, none⟩ = some (.int .i64 0) ∧ W.cell? ⟨w.heap.size, 1, none⟩ = some (.int .u64 n) ∧ w.heap.size < W.heap.size ∧ Below w.heap.size w W) 
     (first | exact keep2 (by assumption) (by assumption) (by omega) | (refine ⟨by simp [go_sem], by simp [go_sem], by simp, ?_⟩; go_grown; done))
     (first | (refine (L.out _).mono ?_; rintro e w1 ⟨rfl, hb⟩))
  rename_i hS
  obtain ⟨hS0, hS1, hS2, hS3⟩ := hS
  go_wp2
  all_goals
    go_ret2
    refine ⟨ret2 ?_ ?_, hS3⟩
    all_goals
      go_light
      simp only [val, err, wrap64, IntKind.wrap_i64, IntKind.wrap_u64] at *
      (try simp at *) <;> (try split) <;> omega
set_option maxRecDepth 100000 in
set_option maxHeartbeats 1000000 in
theorem number_1 (n : Int) (h0 : 0 ≤ n) (h1 : n ≤ 18446744073709551615) (w : World) :
    Calls Tryz.prog 107 #[.agg #[.int .i64 1, .int .u64 n]] w fun e w' => e = .returned (.tuple #[.int .i64 (val (-n)), .int .i64 (err (-n))]) ∧ Below w.heap.size w w' := by
  have L := Lib.hid (fun w => limit_any 1 n (by simp) w)
  go_enter Tryz.func107, Tryz.ntmps107
  go_wp2_with fail
  go_region_held3 (fun W => W.cell? ⟨w.heap.size, 0, none⟩ = some (.int .i64 1) ∧ W.cell? ⟨w.heap.size, 1, none⟩ = some (.int .u64 n) ∧ w.heap.size < W.heap.size ∧ Below w.heap.size w W) 
     (first | exact keep2 (by assumption) (by assumption) (by omega) | (refine ⟨by simp [go_sem], by simp [go_sem], by simp, ?_⟩; go_grown; done))
     (first | (refine (L.out _).mono ?_; rintro e w1 ⟨rfl, hb⟩))
  rename_i hS
  obtain ⟨hS0, hS1, hS2, hS3⟩ := hS
  go_wp2
  all_goals
    go_ret2
    refine ⟨ret2 ?_ ?_, hS3⟩
    all_goals
      go_light
      simp only [val, err, wrap64, IntKind.wrap_i64, IntKind.wrap_u64] at *
      (try simp at *) <;> (try split) <;> omega
end Go.Proofs.YtgclnjogoghhcaaGreatDoor
namespace Go.Proofs.YtgclnjogoghhcaaGreatDoor
open Go.RowKit

/-- What a variable holds, it holds behind a call that only makes blocks. -/
theorem var_stays {P : Program} {w w' : World} {n : String} {cs : Array Value} (hv : w.var? P n = some cs) (hb : Below w.heap.size w w') : w'.var? P n = some cs := by
  unfold World.var? at hv
  obtain ⟨g, hg, h2⟩ := Option.bind_eq_some_iff.1 hv
  have hlt : g < w.heap.size := by
    rcases Nat.lt_or_ge g w.heap.size with h | h
    · exact h
    · rw [Array.getElem?_eq_none h] at h2; cases h2
  unfold World.var?
  rw [hg]
  simp only [Option.bind_some]
  rw [hb.block g hlt]; exact h2
/-- What the library's variable holds. -/
structure Env (w : World) : Prop where
  rng : ∃ tp p, w.var? Tryz.prog "strconv.ErrRange" = some #[.iface tp p]
theorem Env.stays {w w' : World} (h : Env w) (hb : Below w.heap.size w w') : Env w' :=
  ⟨let ⟨tp, p, hv⟩ := h.rng; ⟨tp, p, var_stays hv hb⟩⟩
theorem Env.below {B : Nat} {w w' : World} (h : Env w) (hb : Below B w w') (hB : w.heap.size ≤ B) : Env w' := h.stays (hb.mono hB)
theorem cut_dash (s b : ByteArray) (bl : Bool) (hb : b.data.toList = body s.data.toList) (hbl : below s.data.toList = bl) (w : World) :
    Calls Tryz.prog 101 #[.string s, .string ⟨#[45]⟩] w fun e w' => e = .returned (.tuple #[.string b, .bool bl]) ∧ w = w' :=
  (Tryz.strings_CutPrefix s ⟨#[45]⟩ w).mono fun e w' ⟨he, hw⟩ => ⟨by
    rw [he, show (⟨#[45]⟩ : ByteArray).data.toList = [45] from rfl, trimPrefix_dash, hasPrefix_dash, hbl, ← hb], hw.symm⟩
theorem trim_any (b : ByteArray) (hs : b.size ≤ 9223372036854775807) (w : World) :
    Calls Tryz.prog 105 #[.string b, .string ⟨#[48, 49, 50, 51, 52, 53, 54, 55, 56, 57]⟩] w fun e w' => e = .returned (.string ⟨(Lib.trimS b.data.toList [48, 49, 50, 51, 52, 53, 54, 55, 56, 57]).toArray⟩) ∧ Below w.heap.size w w' :=
  Any.strings_Trim_laid Tryz.lays160 (by kernel_rfl) b ⟨#[48, 49, 50, 51, 52, 53, 54, 55, 56, 57]⟩ w hs (by decide) (ascii_of_all (by decide))
theorem ne_nil (b : ByteArray) (h : 0 < b.size) : ¬ b.toList = [] := by
  rw [ByteArray.toList_eq]
  intro e
  have : b.data.toList.length = 0 := by rw [e]; rfl
  rw [Array.length_toList] at this
  change 0 < b.data.size at h; omega
theorem trim_to (b t : ByteArray) (hs : b.size ≤ 9223372036854775807) (ht : (Lib.trimS b.data.toList [48, 49, 50, 51, 52, 53, 54, 55, 56, 57]).toArray = t.data) (w : World) :
    Calls Tryz.prog 105 #[.string b, .string ⟨#[48, 49, 50, 51, 52, 53, 54, 55, 56, 57]⟩] w fun e w' => e = .returned (.string t) ∧ Below w.heap.size w w' :=
  (trim_any b hs w).mono fun e w' ⟨he, hw⟩ => ⟨by rw [he, ht], hw⟩
theorem below_freeze {B : Nat} {w w' : World} (h : Below B w w') {a : Addr} (ha : B ≤ a.block) (n : Nat) : Below B w (w'.freeze a n) := by
  unfold World.freeze
  split
  · exact h
  · exact ⟨h.os, h.tape, h.output, by show _ ≤ (Array.modify _ _ _).size; rw [Array.size_modify]; exact h.size, fun i hi => by
      show (Array.modify _ _ _)[i]? = _
      rw [Array.getElem?_modify, if_neg (by omega)]; exact h.block i hi⟩
theorem below_bytes (w : World) (t : TypeId) (s : ByteArray) : Below w.heap.size w (Lib.bytesWorld w t s) :=
  below_freeze (((Below.refl _ _).drew).alloc (Nat.le_refl _) _) (Nat.le_refl _) 1
theorem parse_in (b : ByteArray) (hs : b.size ≤ 281474976710656) (hd : digitsB b.data.toList = true) (hn : num b.data.toList ≤ 18446744073709551615) (w : World) :
    Calls Tryz.prog 106 #[.string b, .int .i64 10, .int .i64 64] w fun e w' => e = .returned (.tuple #[.int .u64 (num b.data.toList : Int), .nilIface]) ∧ Below w.heap.size w w' :=
  (Tryz.strconv_ParseUint_10_at64_ok b (by omega) _ (parse_ok _ hd hn) w).mono fun e w' ⟨he, hw⟩ => ⟨he, by rcases hw with rfl | rfl; exact Below.refl _ _; exact below_bytes _ _ _⟩
/-- An error came. -/
def Over (w : World) (e : Ending) (w' : World) : Prop := ∃ a : Addr, e = .returned (.tuple #[.int .u64 18446744073709551615, .iface 155 (.pointer (some a))]) ∧ Below w.heap.size w w'
theorem parse_out (b : ByteArray) (hs : b.size ≤ 281474976710656) (hd : digitsB b.data.toList = true) (hn : ¬ num b.data.toList ≤ 18446744073709551615) (w : World) (he : Env w) :
    Calls Tryz.prog 106 #[.string b, .int .i64 10, .int .i64 64] w (Over w) := by
  obtain ⟨tp, p, hv⟩ := he.rng
  exact (Tryz.strconv_ParseUint_10_at64_range_var b hs (parse_range _ hd hn) tp p w hv).mono fun e w' ⟨N, he, _, _, hb⟩ => ⟨_, he, hb⟩
/-- A block just made, behind calls that only make blocks. -/
theorem own2 {w w1 : World} {x y : Value} {t : TypeId} (hb : Below (w.alloc (.cells #[x, y] t)).heap.size (w.alloc (.cells #[x, y] t)) w1) :
    w1.cell? ⟨w.heap.size, 0, none⟩ = some x ∧ w1.cell? ⟨w.heap.size, 1, none⟩ = some y ∧ w1.frozen? ⟨w.heap.size, 0, none⟩ = false ∧ w1.frozen? ⟨w.heap.size, 1, none⟩ = false ∧ w.heap.size < w1.heap.size ∧ Below w.heap.size w w1 := by
  have hsz : (w.alloc (.cells #[x, y] t)).heap.size = w.heap.size + 1 := World.size_alloc _ _
  rw [hsz] at hb
  have hz := hb.size
  refine ⟨?_, ?_, ?_, ?_, by omega, ((Below.refl _ _).alloc (Nat.le_refl _) _).trans (hb.mono (Nat.le_succ _))⟩
  · rw [hb.cell (p := ⟨w.heap.size, 0, none⟩) (by simp)]; simp [go_sem]
  · rw [hb.cell (p := ⟨w.heap.size, 1, none⟩) (by simp)]; simp [go_sem]
  · rw [hb.frozen (p := ⟨w.heap.size, 0, none⟩) (by simp)]; simp [go_sem]
  · rw [hb.frozen (p := ⟨w.heap.size, 1, none⟩) (by simp)]; simp [go_sem]
theorem rdV_of {l b : List UInt8} {bl : Bool} (hb : b = body l) (hbl : below l = bl) : rdV l = if okDigits b then val (if bl then -(num b : Int) else num b) else 0 := by unfold rdV signed; rw [hbl, ← hb]
theorem rdE_of {l b : List UInt8} {bl : Bool} (hb : b = body l) (hbl : below l = bl) : rdE l = if okDigits b then err (if bl then -(num b : Int) else num b) else 21 := by unfold rdE signed; rw [hbl, ← hb]
set_option maxRecDepth 100000 in
set_option maxHeartbeats 1000000 in
theorem read_ok (s b : ByteArray) (bl : Bool) (hb : b.data.toList = body s.data.toList) (hbl : below s.data.toList = bl) (hs : s.size ≤ 281474976710656) (hbs : b.size ≤ s.size) (hd : digitsB b.data.toList = true)
    (z z1 : Bool) (hp : 0 < b.size) (hz : ((b[0].toNat : Int) == 48) = z) (hz1 : (b.toList == [48]) = z1) (hzz : z = true → z1 = true) (hok : okDigits b.data.toList = true) (hin : num b.data.toList ≤ 18446744073709551615) (w : World) (he : Env w) :
    Calls Tryz.prog 100 #[.string s] w fun e w' => e = .returned (.tuple #[.int .i64 (rdV s.data.toList), .int .i64 (rdE s.data.toList)]) ∧ Below w.heap.size w w' := by
  have HC := Lib.hid (fun w => cut_dash s b bl hb hbl w)
  have HV := Lib.hid (rdV_of hb hbl)
  have HE := Lib.hid (rdE_of hb hbl)
  have hne := ne_nil b hp
  have hne2 : b.toList.isEmpty = false := by simpa using hne
  have ht : Lib.trimS b.data.toList [48, 49, 50, 51, 52, 53, 54, 55, 56, 57] = [] := (trim_digits _).2 (by simp only [digitsB, Bool.and_eq_true] at hd; exact hd.1)
  have HT := Lib.hid (fun w => trim_to b ⟨#[]⟩ (by omega) (by rw [ht]) w)
  have HP := Lib.hid (fun w => parse_in b (by omega) hd hin w)
  have HK := Lib.hid hok
  clear hb hbl ht hd hok
  have hcase : z = false ∨ (z = true ∧ z1 = true) := by cases z <;> simp_all
  clear hzz
  cases bl
  all_goals
    rcases hcase with rfl | ⟨rfl, rfl⟩
  all_goals
    go_enter Tryz.func100, Tryz.ntmps100
    go_wp2_with fail
    refine (HC.out _).mono ?_; rintro e w1 ⟨rfl, rfl⟩
    go_wp2_with fail
    refine (HT.out _).mono ?_; rintro e w1 ⟨rfl, hb1⟩
    go_wp2_with fail
    refine (HP.out _).mono ?_; rintro e w2 ⟨rfl, hb2⟩
    obtain ⟨c0, c1, f0, f1, hlt, hbw⟩ := own2 (hb1.trans (hb2.mono hb1.size))
    go_wp2_with fail
    first
      | ((with_reducible refine (number_0 _ (Int.natCast_nonneg _) (by omega) _).mono ?_); rintro e w3 ⟨rfl, hb3⟩)
      | ((with_reducible refine (number_1 _ (Int.natCast_nonneg _) (by omega) _).mono ?_); rintro e w3 ⟨rfl, hb3⟩)
    have hz3 : (w2.setCell { block := w.heap.size, off := 1 } (Value.int IntKind.u64 (num b.data.toList : Int))).heap.size = w2.heap.size := World.size_setCell _ _ _
    rw [hz3] at hb3
    clear hz3
    go_wp2_with fail
    go_ret2
    exact ⟨ret2 (by rw [HV.out, HK.out]; rfl) (by rw [HE.out, HK.out]; rfl), (hbw.setCell (Nat.le_refl _) _).trans (hb3.mono (Nat.le_of_lt hlt))⟩
set_option maxRecDepth 100000 in
set_option maxHeartbeats 1000000 in
theorem read_over (s b : ByteArray) (bl : Bool) (hb : b.data.toList = body s.data.toList) (hbl : below s.data.toList = bl) (hs : s.size ≤ 281474976710656) (hbs : b.size ≤ s.size) (hd : digitsB b.data.toList = true)
    (z z1 : Bool) (hp : 0 < b.size) (hz : ((b[0].toNat : Int) == 48) = z) (hz1 : (b.toList == [48]) = z1) (hzz : z = true → z1 = true) (hok : okDigits b.data.toList = true) (hin : ¬ num b.data.toList ≤ 18446744073709551615) (w : World) (he : Env w) :
    Calls Tryz.prog 100 #[.string s] w fun e w' => e = .returned (.tuple #[.int .i64 (rdV s.data.toList), .int .i64 (rdE s.data.toList)]) ∧ Below w.heap.size w w' := by
  have HC := Lib.hid (fun w => cut_dash s b bl hb hbl w)
  have HV := Lib.hid (rdV_of hb hbl)
  have HE := Lib.hid (rdE_of hb hbl)
  have hne := ne_nil b hp
  have hne2 : b.toList.isEmpty = false := by simpa using hne
  have ht : Lib.trimS b.data.toList [48, 49, 50, 51, 52, 53, 54, 55, 56, 57] = [] := (trim_digits _).2 (by simp only [digitsB, Bool.and_eq_true] at hd; exact hd.1)
  have HT := Lib.hid (fun w => trim_to b ⟨#[]⟩ (by omega) (by rw [ht]) w)
  have HP := Lib.hid (fun w (he : Env w) => parse_out b (by omega) hd hin w he)
  have HK := Lib.hid hok
  have hov : ¬ R (if bl then -(num b.data.toList : Int) else num b.data.toList) := by unfold R; cases bl <;> simp <;> omega
  have HO := Lib.hid hov
  have HEnv := Lib.hid he
  clear hb hbl ht hd hok hov he hin
  have hcase : z = false ∨ (z = true ∧ z1 = true) := by cases z <;> simp_all
  clear hzz
  cases bl
  all_goals
    rcases hcase with rfl | ⟨rfl, rfl⟩
  all_goals
    go_enter Tryz.func100, Tryz.ntmps100
    go_wp2_with fail
    refine (HC.out _).mono ?_; rintro e w1 ⟨rfl, rfl⟩
    go_wp2_with fail
    refine (HT.out _).mono ?_; rintro e w1 ⟨rfl, hb1⟩
    go_wp2_with fail
    refine (HP.out _ (HEnv.out.below (((Below.refl _ _).alloc (Nat.le_refl _) _).trans (hb1.mono (by simp))) (Nat.le_refl _))).mono ?_; rintro e w2 ⟨a, rfl, hb2⟩
    have hbw := (own2 (hb1.trans (hb2.mono hb1.size))).2.2.2.2.2
    go_wp2_with fail
    go_ret2
    exact ⟨ret2 (by rw [HV.out, HK.out]; exact (val_out HO.out).symm) (by rw [HE.out, HK.out]; exact (err_out HO.out).symm), hbw⟩
set_option maxRecDepth 100000 in
set_option maxHeartbeats 1000000 in
theorem read_zero (s b : ByteArray) (bl : Bool) (hb : b.data.toList = body s.data.toList) (hbl : below s.data.toList = bl) (hs : s.size ≤ 281474976710656) (hbs : b.size ≤ s.size) (hd : digitsB b.data.toList = true)
    (hp : 0 < b.size) (hz : ((b[0].toNat : Int) == 48) = true) (hz1 : (b.toList == [48]) = false) (hok : okDigits b.data.toList = false) (w : World) (he : Env w) :
    Calls Tryz.prog 100 #[.string s] w fun e w' => e = .returned (.tuple #[.int .i64 (rdV s.data.toList), .int .i64 (rdE s.data.toList)]) ∧ Below w.heap.size w w' := by
  have HC := Lib.hid (fun w => cut_dash s b bl hb hbl w)
  have HV := Lib.hid (rdV_of hb hbl)
  have HE := Lib.hid (rdE_of hb hbl)
  have hne := ne_nil b hp
  have hne2 : b.toList.isEmpty = false := by simpa using hne
  have ht : Lib.trimS b.data.toList [48, 49, 50, 51, 52, 53, 54, 55, 56, 57] = [] := (trim_digits _).2 (by simp only [digitsB, Bool.and_eq_true] at hd; exact hd.1)
  have HT := Lib.hid (fun w => trim_to b ⟨#[]⟩ (by omega) (by rw [ht]) w)
  have HK := Lib.hid hok
  clear hb hbl ht hd hok he
  cases bl
  all_goals
    go_enter Tryz.func100, Tryz.ntmps100
    go_wp2_with fail
    refine (HC.out _).mono ?_; rintro e w1 ⟨rfl, rfl⟩
    go_wp2_with fail
    refine (HT.out _).mono ?_; rintro e w1 ⟨rfl, hb1⟩
    go_wp2_with fail
    have hbw := (own2 hb1).2.2.2.2.2
    go_ret2
    exact ⟨ret2 (by rw [HV.out, HK.out]; rfl) (by rw [HE.out, HK.out]; rfl), hbw⟩
set_option maxRecDepth 100000 in
set_option maxHeartbeats 1000000 in
theorem read_odd (s b : ByteArray) (bl : Bool) (hb : b.data.toList = body s.data.toList) (hbl : below s.data.toList = bl) (hs : s.size ≤ 281474976710656) (hbs : b.size ≤ s.size) (hd : b.data.toList.all isDig = false)
    (hp : 0 < b.size) (w : World) (he : Env w) :
    Calls Tryz.prog 100 #[.string s] w fun e w' => e = .returned (.tuple #[.int .i64 (rdV s.data.toList), .int .i64 (rdE s.data.toList)]) ∧ Below w.heap.size w w' := by
  have HC := Lib.hid (fun w => cut_dash s b bl hb hbl w)
  have HV := Lib.hid (rdV_of hb hbl)
  have HE := Lib.hid (rdE_of hb hbl)
  have hne := ne_nil b hp
  have hne2 : b.toList.isEmpty = false := by simpa using hne
  have HK := Lib.hid (not_ok_dig b.data.toList (by unfold digitsB; rw [hd]; rfl))
  have ht : ¬ Lib.trimS b.data.toList [48, 49, 50, 51, 52, 53, 54, 55, 56, 57] = [] := fun h => by rw [(trim_digits _).1 h] at hd; cases hd
  obtain ⟨t, htt⟩ : ∃ t : ByteArray, (Lib.trimS b.data.toList [48, 49, 50, 51, 52, 53, 54, 55, 56, 57]).toArray = t.data := ⟨⟨_⟩, rfl⟩
  have hnt : ¬ t.toList = [] := by
    rw [ByteArray.toList_eq, ← htt]; exact ht
  have hnt2 : t.toList.isEmpty = false := by simpa using hnt
  have HT := Lib.hid (fun w => trim_to b t (by omega) htt w)
  clear hb hbl ht hd he htt
  cases bl
  all_goals
    go_enter Tryz.func100, Tryz.ntmps100
    go_wp2_with fail
    refine (HC.out _).mono ?_; rintro e w1 ⟨rfl, rfl⟩
    go_wp2_with fail
    refine (HT.out _).mono ?_; rintro e w1 ⟨rfl, hb1⟩
    go_wp2_with fail
    have hbw := (own2 hb1).2.2.2.2.2
    go_ret2
    exact ⟨ret2 (by rw [HV.out, HK.out]; rfl) (by rw [HE.out, HK.out]; rfl), hbw⟩
set_option maxRecDepth 100000 in
set_option maxHeartbeats 1000000 in
theorem read_empty (s b : ByteArray) (bl : Bool) (hb : b.data.toList = body s.data.toList) (hbl : below s.data.toList = bl) (hs : s.size ≤ 281474976710656) (hbs : b.size ≤ s.size) (hp : b.size = 0) (w : World) (he : Env w) :
    Calls Tryz.prog 100 #[.string s] w fun e w' => e = .returned (.tuple #[.int .i64 (rdV s.data.toList), .int .i64 (rdE s.data.toList)]) ∧ Below w.heap.size w w' := by
  have HC := Lib.hid (fun w => cut_dash s b bl hb hbl w)
  have HV := Lib.hid (rdV_of hb hbl)
  have HE := Lib.hid (rdE_of hb hbl)
  have hbe : b = ⟨#[]⟩ := ByteArray.ext (Array.eq_empty_of_size_eq_zero hp)
  have HK := Lib.hid (not_ok_dig b.data.toList (by rw [hbe]; rfl))
  clear hb hbl he hp
  subst hbe
  cases bl
  all_goals
    go_enter Tryz.func100, Tryz.ntmps100
    go_wp2_with fail
    refine (HC.out _).mono ?_; rintro e w1 ⟨rfl, rfl⟩
    go_wp2_with fail
    go_ret2
    exact ⟨ret2 (by rw [HV.out, HK.out]; rfl) (by rw [HE.out, HK.out]; rfl), (Below.refl _ _).alloc (Nat.le_refl _) _⟩
theorem zero_only (b : ByteArray) (hp : 0 < b.size) (hz : (b[0].toNat : Int) = 48) : (b.toList == [48]) = decide (b.size ≤ 1) := by
  rw [ByteArray.toList_eq]
  obtain ⟨c, r, hl⟩ : ∃ c r, b.data.toList = c :: r := by
    cases hl : b.data.toList with
    | nil => have h2 : b.data.toList.length = 0 := by rw [hl]; rfl
             rw [Array.length_toList] at h2; change 0 < b.data.size at hp; omega
    | cons c r => exact ⟨c, r, rfl⟩
  have e : b[0] = c := by
    have : b.data.toList[0]? = some b[0] := by rw [List.getElem?_eq_getElem (by simpa using hp)]; rfl
    rw [hl] at this; simpa using this.symm
  have hc : c = 48 := UInt8.toNat_inj.1 (by rw [e] at hz; have : (48 : UInt8).toNat = 48 := rfl; omega)
  have hsz : b.size = r.length + 1 := by
    have : b.data.toList.length = r.length + 1 := by rw [hl]; rfl
    rw [Array.length_toList] at this; exact this
  rw [hl, hc, hsz]
  cases r with
  | nil => rfl
  | cons d q => simp
theorem read_any (s : ByteArray) (hs : s.size ≤ 281474976710656) (w : World) (he : Env w) :
    Calls Tryz.prog 100 #[.string s] w fun e w' => e = .returned (.tuple #[.int .i64 (rdV s.data.toList), .int .i64 (rdE s.data.toList)]) ∧ Below w.heap.size w w' := by
  obtain ⟨b, hb⟩ : ∃ b : ByteArray, b.data.toList = body s.data.toList := ⟨⟨(body s.data.toList).toArray⟩, rfl⟩
  have hbs : b.size ≤ s.size := by
    have h : b.data.toList.length ≤ s.data.toList.length := by rw [hb]; unfold body; split <;> simp
    simp only [Array.length_toList] at h; exact h
  rcases Nat.eq_zero_or_pos b.size with h0 | hp
  · exact read_empty s b _ hb rfl hs hbs h0 w he
  cases hd : b.data.toList.all isDig with
  | false => exact read_odd s b _ hb rfl hs hbs hd hp w he
  | true =>
    have hne : b.data.toList.isEmpty = false := by
      have := ne_nil b hp
      rw [ByteArray.toList_eq] at this; simpa using this
    have hdig : digitsB b.data.toList = true := by unfold digitsB; rw [hd, hne]; rfl
    by_cases hz : (b[0].toNat : Int) = 48
    · have h1 := zero_only b hp hz
      by_cases hs1 : b.size ≤ 1
      · have hok := ok_size b hdig hp (fun _ => hs1)
        by_cases hin : num b.data.toList ≤ 18446744073709551615
        · exact read_ok s b _ hb rfl hs hbs hdig true true hp (by simpa using hz) (by rw [h1]; simpa using hs1) (fun _ => rfl) hok hin w he
        · exact read_over s b _ hb rfl hs hbs hdig true true hp (by simpa using hz) (by rw [h1]; simpa using hs1) (fun _ => rfl) hok hin w he
      · exact read_zero s b _ hb rfl hs hbs hdig hp (by simpa using hz) (by rw [h1]; simpa using hs1) (not_ok_zero b hp hz (by omega)) w he
    · have hok := ok_size b hdig hp (fun h => absurd h hz)
      by_cases hin : num b.data.toList ≤ 18446744073709551615
      · exact read_ok s b _ hb rfl hs hbs hdig false _ hp (by simpa using hz) rfl (fun h => by cases h) hok hin w he
      · exact read_over s b _ hb rfl hs hbs hdig false _ hp (by simpa using hz) rfl (fun h => by cases h) hok hin w he
end Go.Proofs.YtgclnjogoghhcaaGreatDoor
namespace Go.Proofs.YtgclnjogoghhcaaGreatDoor
open Go.RowKit Go.Lib
def finJ (k : Nat) (R : Except Int (Nat × List UInt8 × List Cel)) : Except Int (List UInt8 × List Cel) := match R with
  | .error e => .error e
  | .ok (n, t, o2) => .ok (t, manyAt k n o2)
def manyJ (d : Nat) (isO : Bool) (k : Nat) (l : List UInt8) (L : List Cel) : Except Int (List UInt8 × List Cel) := match d with
  | 0 => .error 30
  | d + 1 => finJ k (itemsJ (valJ d) isO (l.length + 1) 0 [] (blJ l) L)
def headE (n : Nat) (l : List UInt8) : Ex := if n = 0 then .ok l else blE (tkE [44] (.ok l))
theorem VaE.head {n : Nat} {l : List UInt8} (h : validD l = true) : VaE (headE n l) := by
  unfold headE
  split
  · exact h
  · exact VaE.bl (VaE.tk (E := .ok l) h (by decide))
theorem manyAt_len (k n : Nat) (L : List Cel) : (manyAt k n L).length = L.length := by unfold manyAt; rw [List.length_modify]
end Go.Proofs.YtgclnjogoghhcaaGreatDoor
namespace Go.Proofs.YtgclnjogoghhcaaGreatDoor
open Go.RowKit Go.Lib
theorem modify_end (out : List Cel) (x : Cel) (f : Cel → Cel) : (out ++ [x]).modify out.length f = out ++ [f x] := by
  induction out with
  | nil => rfl
  | cons y out ih => rw [List.cons_append, List.length_cons, List.modify_succ_cons, ih]; rfl
theorem modify_end' (out : List Cel) (x : Cel) (f : Cel → Cel) (k : Nat) (hk : k = out.length) : (out ++ [x]).modify k f = out ++ [f x] := by
  rw [hk]; exact modify_end out x f
theorem OwnC.at_ {B g m cap : Nat} {v : Value} {L : List Cel} {W : World} (h : OwnC B v L W) (hv : v = .slice (some ⟨g, 0, none⟩) m cap) (k : Nat) (hk : k < L.length) : (∀ i, W.frozen? ⟨g, i, none⟩ = false) ∧
    W.cell? ⟨g, k * 5, none⟩ = some (.int .u8 (L[k].kind.toNat : Int)) ∧ W.cell? ⟨g, k * 5 + 2, none⟩ = some (.string ⟨L[k].text.toArray⟩) ∧ W.cell? ⟨g, k * 5 + 3, none⟩ = some (.int .i64 L[k].num) := by
  obtain ⟨g', cap', hv', _, _, h1, h2, h3, h4, _⟩ := h.form k hk
  have e : g' = g := by rw [hv] at hv'; injection hv' with hv'; injection hv' with hv'; injection hv' with hv'; exact hv'.symm
  subst e
  exact ⟨h1, h2, h3, h4⟩
theorem valJ_nest (d : Nat) (name l : List UInt8) (out : List Cel) (c : UInt8) (r : List UInt8) (hb : blJ l = c :: r) (hf : out.length ≠ 2048) (hc : c = 123 ∨ c = 91) : valJ d name l out = manyJ d (c == 123) out.length r (out ++ [⟨if c = 123 then 7 else 6, name, [], 0, 0⟩]) := by
  unfold valJ
  rw [hb]
  have h1 : begJ c = true := by rcases hc with rfl | rfl <;> decide
  simp only [h1, Bool.not_true, Bool.false_eq_true, if_false, if_neg hf, if_pos hc]
  unfold manyJ
  cases d with
  | zero => rfl
  | succ d =>
    simp only
    unfold finJ
    cases itemsJ (valJ d) (c == 123) (r.length + 1) 0 [] (blJ r) (out ++ [⟨if c = 123 then 7 else 6, name, [], 0, 0⟩]) with
    | error e => rfl
    | ok y => rfl
theorem valJ_leaf (d : Nat) (name l : List UInt8) (out : List Cel) (c : UInt8) (r : List UInt8) (hb : blJ l = c :: r) (hf : out.length ≠ 2048) (h1 : begJ c = true) (hc : ¬ (c = 123 ∨ c = 91)) : valJ d name l out = leafJ name c (c :: r) out := by
  unfold valJ
  rw [hb]
  simp only [h1, Bool.not_true, Bool.false_eq_true, if_false, if_neg hf, if_neg hc]
end Go.Proofs.YtgclnjogoghhcaaGreatDoor
