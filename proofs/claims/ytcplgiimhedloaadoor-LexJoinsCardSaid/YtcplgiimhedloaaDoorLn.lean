/- The walks through the program's Name and number (lex). -/
import Derived.Test.YtcplgiimhedloaaDoorLs
set_option linter.unusedSimpArgs false
set_option linter.unusedVariables false
namespace Go.Proofs.YtcplgiimhedloaaDoor
open Go.RowKit
theorem len_z (s : ByteArray) : s.data.toList.length = s.size := by rw [Array.length_toList]; rfl
theorem empty_z (s : ByteArray) : (0 < s.size ∧ ¬ s.toList = [] ∧ s.toList.isEmpty = false ∧ s.data.toList ≠ []) ∨ (s.size = 0 ∧ s.toList = [] ∧ s.toList.isEmpty = true ∧ s.data.toList = []) := by
  rw [ByteArray.toList_eq]
  have := len_z s
  cases h : s.data.toList with
  | nil => right; rw [h] at this; exact ⟨this.symm, rfl, rfl, rfl⟩
  | cons c r => left; rw [h] at this; exact ⟨by simp at this; omega, by simp, rfl, by simp⟩
theorem fr_all (ms l : List UInt8) : (fr ms l == l) = l.all (ms.contains ·) := by
  unfold fr
  induction l with
  | nil => rfl
  | cons a l ih =>
    rw [List.takeWhile_cons, List.all_cons]
    cases ms.contains a with
    | true => simpa using ih
    | false => rfl
def nameMs : List UInt8 := [95, 97, 98, 99, 100, 101, 102, 103, 104, 105, 106, 107, 108, 109, 110, 111, 112, 113, 114, 115, 116, 117, 118, 119, 120, 121, 122, 65, 66, 67, 68, 69, 70, 71, 72, 73, 74, 75, 76, 77, 78, 79, 80, 81, 82, 83, 84, 85, 86, 87, 88, 89, 90, 48, 49, 50, 51, 52, 53, 54, 55, 56, 57]
theorem all256' {f : UInt8 → Bool} (h : ∀ i : Fin 256, f (UInt8.ofNat i.val) = true) (c : UInt8) : f c = true := by
  have := h ⟨c.toNat, UInt8.toNat_lt c⟩
  simpa using this
theorem name_ms (c : UInt8) : nameMs.contains c = nameC c := by
  have := all256' (f := fun c => nameMs.contains c == nameC c) (by decide +kernel) c
  simpa using this
theorem head_z (s : ByteArray) (h : 0 < s.size) : s.data.toList = s[0] :: s.data.toList.drop 1 := by
  have := drop_at s 0 h
  rwa [List.drop_zero] at this
theorem ib_dig (c : UInt8) : Lib.indexByte (⟨#[48, 49, 50, 51, 52, 53, 54, 55, 56, 57]⟩ : ByteArray).data.toList c = if isDig c then ((c.toNat - 48 : Nat) : Int) else -1 := by
  have := all256' (f := fun c => Lib.indexByte (⟨#[48, 49, 50, 51, 52, 53, 54, 55, 56, 57]⟩ : ByteArray).data.toList c == if isDig c then ((c.toNat - 48 : Nat) : Int) else -1) (by decide +kernel) c
  simpa using this
set_option maxRecDepth 100000 in
set_option maxHeartbeats 1000000 in
theorem lname_any (s : ByteArray) (hs : s.size ≤ 1000000) (w : World) :
    Calls Tryd.prog 14 #[.string s] w fun e w' => e = .returned (.bool (nameB s.data.toList)) ∧ w = w' := by
  rcases empty_z s with ⟨h0, h1, h2, h3⟩ | ⟨h0, h1, h2, h3⟩
  · have hr : nameB s.data.toList = (!isDig s[0] && (fr nameMs s.data.toList == s.data.toList)) := by
      rw [fr_all, show (nameMs.contains ·) = nameC from funext name_ms]
      have := head_z s h0
      rw [this]; rfl
    have H1 : ∀ w, Calls Tryd.prog 27 #[.string ⟨#[48, 49, 50, 51, 52, 53, 54, 55, 56, 57]⟩, .int .u8 (s[0].toNat : Int)] w fun e w' => e = .returned (.int .i64 (if isDig s[0] then ((s[0].toNat - 48 : Nat) : Int) else -1)) ∧ w = w' := fun w => by
      have := Tryd.strings_IndexByte ⟨#[48, 49, 50, 51, 52, 53, 54, 55, 56, 57]⟩ (s[0].toNat : Int) w
      rw [show ((s[0].toNat : Int)).toNat.toUInt8 = s[0] by simp, ib_dig] at this
      exact this.mono fun e w' ⟨h1, h2⟩ => ⟨h1, h2.symm⟩
    have H2 := Lib.hid (fun w => front_any s ⟨nameMs.toArray⟩ hs w)
    obtain ⟨r, hr2⟩ : ∃ r, nameB s.data.toList = r := ⟨_, rfl⟩
    rw [hr2]
    rw [hr2] at hr
    obtain ⟨F, hF⟩ : ∃ F : ByteArray, (⟨(fr (⟨nameMs.toArray⟩ : ByteArray).data.toList s.data.toList).toArray⟩ : ByteArray) = F := ⟨_, rfl⟩
    rw [hF] at H2
    have hc : (F.toList == s.toList) = (fr nameMs s.data.toList == s.data.toList) := by rw [← hF, ByteArray.toList_eq, ByteArray.toList_eq]
    rw [← hc] at hr
    have HR := Lib.hid hr
    unfold nameMs at H2
    clear hr hr2 hF hc
    cases hd : isDig s[0] with
    | true =>
      rw [hd] at H1 HR
      simp only [if_true] at H1
      have HI := Lib.hid H1
      have HF : Hid (false = r) := Lib.hid (by rw [HR.out]; rfl)
      clear H1 HR hd
      generalize s[0].toNat - 48 = n at *
      have hn : ¬ (n : Int) < 0 := by omega
      go_enter Tryd.func14, Tryd.ntmps14
      go_wp2_with fail
      refine (HI.out _).mono ?_; rintro e w1 ⟨rfl, rfl⟩
      go_wp2_with fail
      go_ret
      exact ⟨ret_b HF.out, rfl⟩
    | false =>
      rw [hd] at H1 HR
      simp only [Bool.false_eq_true, if_false] at H1
      have HI := Lib.hid H1
      have HF : Hid ((F.toList == s.toList) = r) := Lib.hid (by rw [HR.out]; rfl)
      clear H1 HR hd
      go_enter Tryd.func14, Tryd.ntmps14
      go_wp2_with fail
      refine (HI.out _).mono ?_; rintro e w1 ⟨rfl, rfl⟩
      go_wp2_with fail
      refine (H2.out _).mono ?_; rintro e w1 ⟨rfl, rfl⟩
      go_wp2_with fail
      go_ret
      exact ⟨ret_b HF.out, rfl⟩
  · have hr : nameB s.data.toList = false := by rw [h3]; rfl
    rw [hr]
    clear h0 h3 hr
    go_enter Tryd.func14, Tryd.ntmps14
    go_wp2_with fail
    go_ret
    exact ⟨rfl, rfl⟩
theorem dig_ms (c : UInt8) : ([48, 49, 50, 51, 52, 53, 54, 55, 56, 57] : List UInt8).contains c = isDig c := by
  have := all256' (f := fun c => ([48, 49, 50, 51, 52, 53, 54, 55, 56, 57] : List UInt8).contains c == isDig c) (by decide +kernel) c
  simpa using this
set_option maxRecDepth 100000 in
set_option maxHeartbeats 1000000 in
theorem lnumber_any (s : ByteArray) (hs : s.size ≤ 1000000) (w : World) :
    Calls Tryd.prog 15 #[.string s] w fun e w' => e = .returned (.bool (okDigits (body s.data.toList))) ∧ w = w' := by
  have H1 : ∀ w, Calls Tryd.prog 29 #[.string s, .string ⟨#[45]⟩] w fun e w' => e = .returned (.string ⟨(body s.data.toList).toArray⟩) ∧ w = w' := fun w => by
    have := Tryd.strings_TrimPrefix s ⟨#[45]⟩ w
    rw [show (⟨#[45]⟩ : ByteArray).data.toList = [45] from rfl, trimPrefix_dash] at this
    exact this.mono fun e w' ⟨h1, h2⟩ => ⟨h1, h2.symm⟩
  have hbl : (body s.data.toList).length ≤ s.size := by
    have := len_z s
    unfold body
    split
    · rw [List.length_tail]; omega
    · omega
  obtain ⟨B, hB⟩ : ∃ B : ByteArray, (⟨(body s.data.toList).toArray⟩ : ByteArray) = B := ⟨_, rfl⟩
  have hBl : body s.data.toList = B.data.toList := by rw [← hB]
  rw [hB] at H1
  rw [hBl] at hbl ⊢
  rw [len_z] at hbl
  have HI := Lib.hid H1
  clear H1 hB hBl
  obtain ⟨r, hr⟩ : ∃ r, okDigits B.data.toList = r := ⟨_, rfl⟩
  rw [hr]
  rcases empty_z B with ⟨h0, h1, h2, h3⟩ | ⟨h0, h1, h2, h3⟩
  · have H2 := Lib.hid (fun w => front_any B ⟨#[48, 49, 50, 51, 52, 53, 54, 55, 56, 57]⟩ (by omega) w)
    have hz := head_z B h0
    have hall := fr_all [48, 49, 50, 51, 52, 53, 54, 55, 56, 57] B.data.toList
    rw [show ((([48, 49, 50, 51, 52, 53, 54, 55, 56, 57] : List UInt8)).contains ·) = isDig from funext dig_ms] at hall
    obtain ⟨F, hF⟩ : ∃ F : ByteArray, (⟨(fr (⟨#[48, 49, 50, 51, 52, 53, 54, 55, 56, 57]⟩ : ByteArray).data.toList B.data.toList).toArray⟩ : ByteArray) = F := ⟨_, rfl⟩
    rw [hF] at H2
    have hc : (F.toList == B.toList) = B.data.toList.all isDig := by rw [← hall, ← hF, ByteArray.toList_eq, ByteArray.toList_eq]
    have hne : B.data.toList.isEmpty = false := by rw [hz]; rfl
    have hhd : B.data.toList.head? = some B[0] := by rw [hz]; rfl
    have hone : (B.toList == [48]) = (B[0] == 48 && decide (B.size = 1)) := by
      rw [ByteArray.toList_eq]
      have hl := len_z B
      rw [hz] at hl ⊢
      simp only [List.length_cons] at hl
      rw [Bool.eq_iff_iff]
      simp only [beq_iff_eq, List.cons.injEq, Bool.and_eq_true, decide_eq_true_eq]
      constructor
      · rintro ⟨a, b⟩; rw [b] at hl; exact ⟨a, by simp at hl; omega⟩
      · rintro ⟨a, b⟩; exact ⟨a, List.eq_nil_of_length_eq_zero (by omega)⟩
    unfold okDigits digitsB at hr
    rw [hne, hhd, ← hc, len_z] at hr
    clear hz hall hF hc hne hhd
    cases ha : (F.toList == B.toList) with
    | false =>
      have HF : Hid (false = r) := Lib.hid (by rw [← hr, ha]; rfl)
      clear hr hone
      go_enter Tryd.func15, Tryd.ntmps15
      go_wp2_with fail
      refine (HI.out _).mono ?_; rintro e w1 ⟨rfl, rfl⟩
      go_wp2_with fail
      refine (H2.out _).mono ?_; rintro e w1 ⟨rfl, rfl⟩
      go_wp2_with fail
      go_ret
      exact ⟨ret_b HF.out, rfl⟩
    | true =>
      rw [ha] at hr
      by_cases h48 : B[0] = 48
      · have HF : Hid ((B.toList == [48]) = r) := Lib.hid (by
          rw [← hr, hone, h48]
          have : decide (B.size = 1) = !decide (1 < B.size) := by rw [Bool.eq_iff_iff]; simp; omega
          rw [this]; simp)
        have e1 : ((B[0].toNat : Int) != 48) = false := by rw [h48]; rfl
        have e2 : ((B[0].toNat : Int) == 48) = true := by rw [h48]; rfl
        clear hr hone h48
        go_enter Tryd.func15, Tryd.ntmps15
        go_wp2_with fail
        refine (HI.out _).mono ?_; rintro e w1 ⟨rfl, rfl⟩
        go_wp2_with fail
        refine (H2.out _).mono ?_; rintro e w1 ⟨rfl, rfl⟩
        go_wp2_with fail
        go_ret
        exact ⟨ret_b HF.out, rfl⟩
      · have HF : Hid (true = r) := Lib.hid (by
          rw [← hr]
          have : (some B[0] == some (48 : UInt8)) = false := by simpa using h48
          rw [this]; rfl)
        have e0 : ¬ (B[0].toNat : Int) = 48 := fun e => h48 (UInt8.toNat_inj.1 (by show B[0].toNat = 48; omega))
        have e1 : ((B[0].toNat : Int) != 48) = true := by simpa using e0
        have e2 : ((B[0].toNat : Int) == 48) = false := by simpa using e0
        clear hr hone h48 e0
        go_enter Tryd.func15, Tryd.ntmps15
        go_wp2_with fail
        refine (HI.out _).mono ?_; rintro e w1 ⟨rfl, rfl⟩
        go_wp2_with fail
        refine (H2.out _).mono ?_; rintro e w1 ⟨rfl, rfl⟩
        go_wp2_with fail
        go_ret
        exact ⟨ret_b HF.out, rfl⟩
  · have HF : Hid (false = r) := Lib.hid (by rw [← hr, h3]; rfl)
    clear hr h3 h0
    go_enter Tryd.func15, Tryd.ntmps15
    go_wp2_with fail
    refine (HI.out _).mono ?_; rintro e w1 ⟨rfl, rfl⟩
    go_wp2_with fail
    go_ret
    exact ⟨ret_b HF.out, rfl⟩
end Go.Proofs.YtcplgiimhedloaaDoor
