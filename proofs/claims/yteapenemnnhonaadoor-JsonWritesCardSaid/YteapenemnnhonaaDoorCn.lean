/- The walk through the program's name (cell). -/
import Derived.Test.YteapenemnnhonaaDoorPn
import Derived.Test.YteapenemnnhonaaDoorIx
import Derived.Test.YteapenemnnhonaaDoorShelf
import Derived.Laws.RangeString
import Derived.Shelf.Strings.SlTrimAscii
set_option linter.unusedSimpArgs false
set_option linter.unusedVariables false
namespace Go.Proofs.YteapenemnnhonaaDoor
open Go.RowKit
theorem dw_all (p : UInt8 → Bool) : ∀ l : List UInt8, (l.dropWhile p).isEmpty = l.all p
  | [] => rfl
  | a :: l => by
    rw [List.dropWhile_cons, List.all_cons]
    cases p a with
    | true => simpa using dw_all p l
    | false => rfl
theorem dw_all2 (p : UInt8 → Bool) : ∀ l : List UInt8, (l.dropWhile p).all p = l.all p
  | [] => rfl
  | a :: l => by
    rw [List.dropWhile_cons, List.all_cons]
    cases h : p a with
    | true => simpa using dw_all2 p l
    | false => simp [h]
theorem trimS_all (l cs : List UInt8) : (Lib.trimS l cs).isEmpty = l.all (cs.contains ·) := by
  unfold Lib.trimS Lib.trimLeftS Lib.trimRightS
  rw [dw_all, List.all_reverse, dw_all2, List.all_reverse]
theorem nameC_ascii (c : UInt8) (h : nameC c = true) : c.toNat < 128 := by
  unfold nameC at h
  rw [decide_eq_true_eq] at h
  omega
theorem crune_any (c : UInt8) (h : nameC c = true) (w : World) :
    Calls Tryd.prog 63 #[.string ⟨#[95, 97, 98, 99, 100, 101, 102, 103, 104, 105, 106, 107, 108, 109, 110, 111, 112, 113, 114, 115, 116, 117, 118, 119, 120, 121, 122, 65, 66, 67, 68, 69, 70, 71, 72, 73, 74, 75, 76, 77, 78, 79, 80, 81, 82, 83, 84, 85, 86, 87, 88, 89, 90, 48, 49, 50, 51, 52, 53, 54, 55, 56, 57]⟩, .int .i32 (c.toNat : Int)] w fun e w' => e = .returned (.bool true) ∧ w = w' := by
  have ha := nameC_ascii c h
  refine (Tryd.strings_ContainsRune_ascii ⟨#[95, 97, 98, 99, 100, 101, 102, 103, 104, 105, 106, 107, 108, 109, 110, 111, 112, 113, 114, 115, 116, 117, 118, 119, 120, 121, 122, 65, 66, 67, 68, 69, 70, 71, 72, 73, 74, 75, 76, 77, 78, 79, 80, 81, 82, 83, 84, 85, 86, 87, 88, 89, 90, 48, 49, 50, 51, 52, 53, 54, 55, 56, 57]⟩ (c.toNat : Int) w (by omega) (by omega)).mono ?_
  rintro e w' ⟨h1, h2⟩
  refine ⟨?_, h2.symm⟩
  rw [h1, show ((c.toNat : Int)).toNat.toUInt8 = c by simp]
  rcases ib_cases c nameMs with ⟨g1, k, g2⟩ | ⟨g1, g2⟩
  · have : Lib.indexByte (⟨#[95, 97, 98, 99, 100, 101, 102, 103, 104, 105, 106, 107, 108, 109, 110, 111, 112, 113, 114, 115, 116, 117, 118, 119, 120, 121, 122, 65, 66, 67, 68, 69, 70, 71, 72, 73, 74, 75, 76, 77, 78, 79, 80, 81, 82, 83, 84, 85, 86, 87, 88, 89, 90, 48, 49, 50, 51, 52, 53, 54, 55, 56, 57]⟩ : ByteArray).data.toList c = k := g2
    rw [this]
    simp
  · rw [name_ms, h] at g1; cases g1
set_option maxRecDepth 100000 in
theorem nclo_any (c : UInt8) (h : nameC c = true) (w : World) :
    Calls Tryd.prog 62 #[.int .i32 (c.toNat : Int)] w fun e w' => e = .returned (.bool false) ∧ w = w' := by
  have H := Lib.hid (fun w => crune_any c h w)
  clear h
  generalize (c.toNat : Int) = n at *
  go_enter Tryd.func62, Tryd.ntmps62
  go_wp2_with fail
  refine (H.out _).mono ?_; rintro e w1 ⟨rfl, rfl⟩
  go_wp2_with fail
  go_ret
  exact ⟨rfl, rfl⟩
set_option maxRecDepth 100000 in
theorem nindex_any (s : ByteArray) (h : s.data.toList.all nameC = true) (hs : s.size ≤ 1000000) (w : World) :
    Calls Tryd.prog 83 #[.string s, .func (.func 62) #[] #[], .bool true] w fun e w' => e = .returned (.int .i64 (-1)) ∧ Below w.heap.size w w' := by
  have HA : Hid (∀ (k : Nat) (hk : k < s.size), nameC s[k] = true) := Lib.hid fun k hk => List.all_eq_true.1 h s[k] (by rw [show s[k] = s.data.toList[k]'(by rw [len_z]; exact hk) from by simp; rfl]; exact List.getElem_mem _)
  clear h
  go_enter Tryd.func83, Tryd.ntmps83
  go_wp2_with fail
  go_loopg [8] s.size (fun g v wr => ∃ k : Nat, g + k = s.size ∧ wr = w.iter s k) 
  case atStart => exact ⟨0, by omega, rfl⟩
  case round =>
    obtain ⟨k, hk, rfl⟩ := hrel
    by_cases hlt : k < s.size
    · have n0 := fun ty => run_next_ascii (P := Tryd.prog) w s k ty hlt (nameC_ascii _ (HA.out k hlt))
      have H := Lib.hid (fun w => nclo_any s[k] (HA.out k hlt) w)
      obtain ⟨g, rfl⟩ : ∃ g, gk = g + 1 := ⟨gk - 1, by omega⟩
      generalize (s[k].toNat : Int) = n at *
      go_wp2_with fail
      refine (H.out _).mono ?_; rintro e w1 ⟨rfl, rfl⟩
      clear n0
      go_wp2_with fail
      go_roundg g
      case measure => omega
      case rel => exact ⟨k + 1, by omega, rfl⟩
    · have n0 := fun ty => run_next_end (P := Tryd.prog) w s k ty hlt
      go_wp2_with fail
      go_ret
      refine ⟨rfl, ?_⟩
      unfold World.iter
      exact (Below.refl _ _).alloc (Nat.le_refl _) _
set_option maxRecDepth 100000 in
theorem ncontains_any (s : ByteArray) (h : s.data.toList.all nameC = true) (hs : s.size ≤ 1000000) (w : World) :
    Calls Tryd.prog 61 #[.string s, .func (.func 62) #[] #[]] w fun e w' => e = .returned (.bool false) ∧ Below w.heap.size w w' := by
  have H := Lib.hid (fun w => nindex_any s h hs w)
  clear h
  have HI : Hid (∀ w, Calls Tryd.prog 76 #[.string s, .func (.func 62) #[] #[]] w fun e w' => e = .returned (.int .i64 (-1)) ∧ Below w.heap.size w w') := Lib.hid fun w => by
    go_enter Tryd.func76, Tryd.ntmps76
    go_wp2_with fail
    refine (H.out _).mono ?_; rintro e w1 ⟨rfl, hb⟩
    go_wp2_with fail
    go_ret
    exact ⟨rfl, hb⟩
  go_enter Tryd.func61, Tryd.ntmps61
  go_wp2_with fail
  refine (HI.out _).mono ?_; rintro e w1 ⟨rfl, hb⟩
  go_wp2_with fail
  go_ret
  exact ⟨rfl, hb⟩
theorem cname_no (s : ByteArray) (h1 : s.toList = []) (h2 : s.toList.isEmpty = true) (w : World) :
    Calls Tryd.prog 50 #[.string s] w fun e w' => e = .returned (.bool false) ∧ Below w.heap.size w w' := by
  go_enter Tryd.func50, Tryd.ntmps50
  go_wp2_with fail
  go_ret
  exact ⟨rfl, Below.refl _ _⟩
theorem cname_trim (s : ByteArray) (hs : s.size ≤ 1000000) (w : World) :
    Calls Tryd.prog 59 #[.string s, .string ⟨#[95, 97, 98, 99, 100, 101, 102, 103, 104, 105, 106, 107, 108, 109, 110, 111, 112, 113, 114, 115, 116, 117, 118, 119, 120, 121, 122, 65, 66, 67, 68, 69, 70, 71, 72, 73, 74, 75, 76, 77, 78, 79, 80, 81, 82, 83, 84, 85, 86, 87, 88, 89, 90, 48, 49, 50, 51, 52, 53, 54, 55, 56, 57]⟩] w fun e w' => e = .returned (.string ⟨(Lib.trimS s.data.toList nameMs).toArray⟩) ∧ Below w.heap.size w w' :=
  Any.strings_Trim_laid Tryd.lays160 (by kernel_rfl) s ⟨#[95, 97, 98, 99, 100, 101, 102, 103, 104, 105, 106, 107, 108, 109, 110, 111, 112, 113, 114, 115, 116, 117, 118, 119, 120, 121, 122, 65, 66, 67, 68, 69, 70, 71, 72, 73, 74, 75, 76, 77, 78, 79, 80, 81, 82, 83, 84, 85, 86, 87, 88, 89, 90, 48, 49, 50, 51, 52, 53, 54, 55, 56, 57]⟩ w (by omega) (by decide) (ascii_of_all (by decide))
set_option maxRecDepth 100000 in
theorem cname_out (s t : ByteArray) (h1 : ¬ s.toList = []) (h2 : s.toList.isEmpty = false) (H : Hid (∀ w, Calls Tryd.prog 59 #[.string s, .string ⟨#[95, 97, 98, 99, 100, 101, 102, 103, 104, 105, 106, 107, 108, 109, 110, 111, 112, 113, 114, 115, 116, 117, 118, 119, 120, 121, 122, 65, 66, 67, 68, 69, 70, 71, 72, 73, 74, 75, 76, 77, 78, 79, 80, 81, 82, 83, 84, 85, 86, 87, 88, 89, 90, 48, 49, 50, 51, 52, 53, 54, 55, 56, 57]⟩] w fun e w' => e = .returned (.string t) ∧ Below w.heap.size w w'))
    (h3 : ¬ t.toList = []) (h4 : t.toList.isEmpty = false) (w : World) :
    Calls Tryd.prog 50 #[.string s] w fun e w' => e = .returned (.bool false) ∧ Below w.heap.size w w' := by
  go_enter Tryd.func50, Tryd.ntmps50
  go_wp2_with fail
  refine (H.out _).mono ?_; rintro e w1 ⟨rfl, hb⟩
  go_wp2_with fail
  go_ret
  exact ⟨rfl, hb⟩
set_option maxRecDepth 100000 in
theorem cname_in (s : ByteArray) (d : Bool) (hsz : 0 < s.size) (h1 : ¬ s.toList = []) (h2 : s.toList.isEmpty = false) (H : Hid (∀ w, Calls Tryd.prog 59 #[.string s, .string ⟨#[95, 97, 98, 99, 100, 101, 102, 103, 104, 105, 106, 107, 108, 109, 110, 111, 112, 113, 114, 115, 116, 117, 118, 119, 120, 121, 122, 65, 66, 67, 68, 69, 70, 71, 72, 73, 74, 75, 76, 77, 78, 79, 80, 81, 82, 83, 84, 85, 86, 87, 88, 89, 90, 48, 49, 50, 51, 52, 53, 54, 55, 56, 57]⟩] w fun e w' => e = .returned (.string ⟨#[]⟩) ∧ Below w.heap.size w w'))
    (HC : Hid (∀ w, Calls Tryd.prog 60 #[.string ⟨#[48, 49, 50, 51, 52, 53, 54, 55, 56, 57]⟩, .string (s.extract 0 1)] w fun e w' => e = .returned (.bool d) ∧ w = w'))
    (HF : Hid (∀ w, Calls Tryd.prog 61 #[.string s, .func (.func 62) #[] #[]] w fun e w' => e = .returned (.bool false) ∧ Below w.heap.size w w')) (w : World) :
    Calls Tryd.prog 50 #[.string s] w fun e w' => e = .returned (.bool !d) ∧ Below w.heap.size w w' := by
  cases d with
  | true =>
    go_enter Tryd.func50, Tryd.ntmps50
    go_wp2_with fail
    refine (H.out _).mono ?_; rintro e w1 ⟨rfl, hb⟩
    go_wp2_with fail
    refine (HC.out _).mono ?_; rintro e w2 ⟨rfl, rfl⟩
    go_wp2_with fail
    go_ret
    exact ⟨rfl, hb⟩
  | false =>
    go_enter Tryd.func50, Tryd.ntmps50
    go_wp2_with fail
    refine (H.out _).mono ?_; rintro e w1 ⟨rfl, hb⟩
    have HB := Lib.hid hb
    have hz := hb.size
    clear hb
    go_wp2_with fail
    refine (HC.out _).mono ?_; rintro e w2 ⟨rfl, rfl⟩
    go_wp2_with fail
    refine (HF.out _).mono ?_; rintro e w3 ⟨rfl, hb⟩
    have HB2 := Lib.hid (HB.out.trans (hb.mono hz))
    clear hb
    go_wp2_with fail
    go_ret
    exact ⟨rfl, HB2.out⟩
theorem dig_ms (c : UInt8) : ([48, 49, 50, 51, 52, 53, 54, 55, 56, 57] : List UInt8).contains c = isDig c := by
  have := all256' (f := fun c => ([48, 49, 50, 51, 52, 53, 54, 55, 56, 57] : List UInt8).contains c == isDig c) (by decide +kernel) c
  simpa using this
theorem cname_any (s : ByteArray) (hs : s.size ≤ 1000000) (w : World) :
    Calls Tryd.prog 50 #[.string s] w fun e w' => e = .returned (.bool (nameB s.data.toList)) ∧ Below w.heap.size w w' := by
  rcases empty_z s with ⟨h0, h1, h2, h3⟩ | ⟨h0, h1, h2, h3⟩
  · have hd := head_z s h0
    have hT := trimS_all s.data.toList nameMs
    rw [show (nameMs.contains ·) = nameC from funext name_ms] at hT
    have hnb : nameB s.data.toList = (!isDig s[0] && s.data.toList.all nameC) := by rw [hd]; rfl
    cases hall : s.data.toList.all nameC with
    | false =>
      rw [hall] at hT
      rw [hnb, hall, Bool.and_false]
      refine cname_out s ⟨(Lib.trimS s.data.toList nameMs).toArray⟩ h1 h2 (Lib.hid fun w => cname_trim s hs w) ?_ ?_ w
      · rw [ByteArray.toList_eq]; intro e
        have : Lib.trimS s.data.toList nameMs = [] := by simpa using e
        rw [this] at hT; cases hT
      · rw [ByteArray.toList_eq]; simpa using hT
    | true =>
      rw [hall] at hT
      rw [hnb, hall, Bool.and_true]
      refine cname_in s (isDig s[0]) h0 h1 h2 (Lib.hid fun w => ?_) (Lib.hid fun w => ?_) (Lib.hid fun w => ncontains_any s hall hs w) w
      · have := cname_trim s hs w
        rw [List.isEmpty_iff.1 hT] at this
        exact this
      · have he : s.extract 0 1 = ⟨#[s[0]]⟩ := by
          have hx : (s.extract 0 1).data.toList = [s[0]] := by
            have := Lib.extract_data s 0 1
            rw [this, hd]; simp
          exact bytes_ext' hx
        rw [he]
        have := ix_contains ⟨#[48, 49, 50, 51, 52, 53, 54, 55, 56, 57]⟩ s[0] w
        rw [show (⟨#[48, 49, 50, 51, 52, 53, 54, 55, 56, 57]⟩ : ByteArray).data.toList = ([48, 49, 50, 51, 52, 53, 54, 55, 56, 57] : List UInt8) from rfl, dig_ms] at this
        exact this
  · rw [h3]
    exact cname_no s h1 h2 w
end Go.Proofs.YteapenemnnhonaaDoor
