/- The walks through the reference's scheme, port and text of parts (provostref15: scheme, port, Tell). -/
import Derived.Test.YtcocjmbhbddgiaaGreatDoorAb
import Derived.Test.YtcocjmbhbddgiaaGreatDoorCu
set_option linter.unusedSimpArgs false
set_option linter.unusedVariables false
namespace Go.Proofs.YtcocjmbhbddgiaaGreatDoor
open Go.RowKit
def okS (c : UInt8) : Bool := isLet c || isDig c || ([43, 45, 46] : List UInt8).contains c
def schemeB : List UInt8 → Bool
  | [] => false
  | c :: r => isLet c && r.all okS
/-- What is left to be shown at a place of a scheme. -/
def schemeAt (l : List UInt8) (k : Nat) : Bool := if k = 0 then schemeB l else (l.drop k).all okS
theorem schemeAt_end (l : List UInt8) : schemeAt l l.length = decide (0 < l.length) := by
  unfold schemeAt
  cases l with
  | nil => rfl
  | cons c r => rw [if_neg (by simp), List.drop_length]; simp
theorem schemeAt_step (s : ByteArray) (k : Nat) (h : k < s.size) : schemeAt s.data.toList k = ((isLet s[k] || (!decide (k = 0) && (isDig s[k] || ([43, 45, 46] : List UInt8).contains s[k]))) && schemeAt s.data.toList (k + 1)) := by
  have hd : s.data.toList.drop k = s[k] :: s.data.toList.drop (k + 1) := by
    rw [List.drop_eq_getElem_cons (by rw [Array.length_toList]; exact h)]; rfl
  by_cases hk : k = 0
  · subst hk
    rw [List.drop_zero] at hd
    unfold schemeAt
    rw [if_pos rfl, if_neg (by omega), hd]
    simp [schemeB]
  · unfold schemeAt
    rw [if_neg hk, if_neg (by omega), hd, List.all_cons, decide_eq_false hk]
    unfold okS
    rw [Bool.or_assoc]; rfl
theorem all_drop_step (s : ByteArray) (p : UInt8 → Bool) (k : Nat) (h : k < s.size) : (s.data.toList.drop k).all p = (p s[k] && (s.data.toList.drop (k + 1)).all p) := by
  rw [List.drop_eq_getElem_cons (by rw [Array.length_toList]; exact h), List.all_cons]; rfl
set_option maxHeartbeats 1000000 in
theorem rport_any (s : ByteArray) (hs : s.size ≤ 1000000) (w : World) :
    Calls Tryz.prog 39 #[.string s] w fun e w' => e = .returned (.bool (s.data.toList.all isDig)) ∧ w = w' := by
  obtain ⟨r, hr⟩ : ∃ r, s.data.toList.all isDig = r := ⟨_, rfl⟩
  have HR : Hid ((s.data.toList.drop 0).all isDig = r) := Lib.hid (by rw [List.drop_zero]; exact hr)
  rw [hr]
  clear hr
  go_enter Tryz.func39, Tryz.ntmps39
  go_wp2_with fail
  go_loop [3] (fun i => ∃ k : Nat, k ≤ s.size ∧ i = .int .i64 k ∧ Hid ((s.data.toList.drop k).all isDig = r)) (fun i => s.size - (intOf i).toNat)
  case atStart => exact ⟨0, Nat.zero_le _, rfl, HR⟩
  case round =>
    obtain ⟨k, hk, rfl, HK⟩ := hrel
    by_cases hlt : k < s.size
    · have H1 := Lib.hid (fun w => digit_any s[k] w)
      have hst := all_drop_step s isDig k hlt
      rw [HK.out] at hst
      cases hd : isDig s[k] with
      | true =>
        rw [hd] at H1 hst
        have HK2 : Hid ((s.data.toList.drop (k + 1)).all isDig = r) := Lib.hid (by rw [hst]; rfl)
        clear hd hst
        go_wp2_with fail
        refine (H1.out _).mono ?_; rintro e w1 ⟨rfl, rfl⟩
        go_wp2_with fail
        go_round
        case rel => exact ⟨k + 1, by omega, by go_num, HK2⟩
        case measure => simp [intOf]; omega
      | false =>
        rw [hd] at H1 hst
        have HF : Hid (false = r) := Lib.hid (by rw [hst]; rfl)
        clear hd hst
        go_wp2_with fail
        refine (H1.out _).mono ?_; rintro e w1 ⟨rfl, rfl⟩
        go_wp2_with fail
        go_ret
        exact ⟨ret1 HF.out, rfl⟩
    · have HF : Hid (true = r) := Lib.hid (by
        have := HK.out
        rw [List.drop_of_length_le (by rw [Array.length_toList]; exact Nat.le_of_not_lt hlt)] at this
        exact this)
      go_wp2_with fail
      go_ret
      exact ⟨ret1 HF.out, rfl⟩
set_option maxHeartbeats 2000000 in
theorem rscheme_any (s : ByteArray) (hs : s.size ≤ 1000000) (w : World) :
    Calls Tryz.prog 37 #[.string s] w fun e w' => e = .returned (.bool (schemeB s.data.toList)) ∧ w = w' := by
  obtain ⟨r, hr⟩ : ∃ r, schemeB s.data.toList = r := ⟨_, rfl⟩
  have HR : Hid (schemeAt s.data.toList 0 = r) := Lib.hid hr
  rw [hr]
  clear hr
  go_enter Tryz.func37, Tryz.ntmps37
  go_wp2_with fail
  go_loop [3] (fun i => ∃ k : Nat, k ≤ s.size ∧ i = .int .i64 k ∧ Hid (schemeAt s.data.toList k = r)) (fun i => s.size - (intOf i).toNat)
  case atStart => exact ⟨0, Nat.zero_le _, rfl, HR⟩
  case round =>
    obtain ⟨k, hk, rfl, HK⟩ := hrel
    by_cases hlt : k < s.size
    · have H1 := Lib.hid (fun w => letter_any s[k] w)
      have H2 := Lib.hid (fun w => digit_any s[k] w)
      have H3 := Lib.hid (fun w => among_any s[k] ⟨#[43, 45, 46]⟩ (by decide) w)
      rw [show (⟨#[43, 45, 46]⟩ : ByteArray).data.toList = [43, 45, 46] from rfl] at H3
      have hst := schemeAt_step s k hlt
      rw [HK.out] at hst
      generalize isLet s[k] = b1 at *
      generalize isDig s[k] = b2 at *
      generalize ([43, 45, 46] : List UInt8).contains s[k] = b3 at *
      cases b1
      · by_cases hk0 : k = 0
        · have HF : Hid (false = r) := Lib.hid (by rw [hst, decide_eq_true hk0]; rfl)
          subst hk0
          clear hst
          go_wp2_with fail
          refine (H1.out _).mono ?_; rintro e w1 ⟨rfl, rfl⟩
          go_wp2_with fail
          go_ret
          exact ⟨ret1 HF.out, rfl⟩
        · rw [decide_eq_false hk0] at hst
          have hkb : ((k : Int) == 0) = false := by rw [beq_eq_false_iff_ne]; omega
          clear hk0
          cases b2
          · cases b3
            · have HF : Hid (false = r) := Lib.hid (by rw [hst]; rfl)
              clear hst
              go_wp2_with fail
              refine (H1.out _).mono ?_; rintro e w1 ⟨rfl, rfl⟩
              go_wp2_with fail
              refine (H2.out _).mono ?_; rintro e w1 ⟨rfl, rfl⟩
              go_wp2_with fail
              refine (H3.out _).mono ?_; rintro e w1 ⟨rfl, rfl⟩
              go_wp2_with fail
              go_ret
              exact ⟨ret1 HF.out, rfl⟩
            · have HK2 : Hid (schemeAt s.data.toList (k + 1) = r) := Lib.hid (by rw [hst]; rfl)
              clear hst
              go_wp2_with fail
              refine (H1.out _).mono ?_; rintro e w1 ⟨rfl, rfl⟩
              go_wp2_with fail
              refine (H2.out _).mono ?_; rintro e w1 ⟨rfl, rfl⟩
              go_wp2_with fail
              refine (H3.out _).mono ?_; rintro e w1 ⟨rfl, rfl⟩
              go_wp2_with fail
              go_round
              case rel => exact ⟨k + 1, by omega, by go_num, HK2⟩
              case measure => simp [intOf]; omega
          · have HK2 : Hid (schemeAt s.data.toList (k + 1) = r) := Lib.hid (by rw [hst]; rfl)
            clear hst
            go_wp2_with fail
            refine (H1.out _).mono ?_; rintro e w1 ⟨rfl, rfl⟩
            go_wp2_with fail
            refine (H2.out _).mono ?_; rintro e w1 ⟨rfl, rfl⟩
            go_wp2_with fail
            go_round
            case rel => exact ⟨k + 1, by omega, by go_num, HK2⟩
            case measure => simp [intOf]; omega
      · have HK2 : Hid (schemeAt s.data.toList (k + 1) = r) := Lib.hid (by rw [hst]; rfl)
        clear hst
        go_wp2_with fail
        refine (H1.out _).mono ?_; rintro e w1 ⟨rfl, rfl⟩
        go_wp2_with fail
        go_round
        case rel => exact ⟨k + 1, by omega, by go_num, HK2⟩
        case measure => simp [intOf]; omega
    · have HF : Hid (decide (0 < s.size) = r) := Lib.hid (by
        have e : k = s.size := by omega
        have := HK.out
        rw [e, show s.size = s.data.toList.length by rw [Array.length_toList]; rfl, schemeAt_end] at this
        rw [← this, Array.length_toList]; rfl)
      go_wp2_with fail
      go_ret
      exact ⟨ret1 (by rw [← HF.out]), rfl⟩
/-- Parts' text. -/
def tellL (sc us ho po pa qu : List UInt8) (hu hq : Bool) : List UInt8 :=
  sc ++ [58, 47, 47] ++ (if hu then us ++ [64] else []) ++ ho ++ (if po.isEmpty then [] else 58 :: po) ++ pa ++ (if hq then 63 :: qu else [])
theorem app_list (a b : ByteArray) : (a ++ b).data.toList = a.data.toList ++ b.data.toList := by rw [ByteArray.data_append, Array.toList_append]
theorem empty_iff (b : ByteArray) : (0 < b.size ∧ ¬ b.toList = [] ∧ b.toList.isEmpty = false ∧ b.data.toList.isEmpty = false) ∨ (b.size = 0 ∧ b.toList = [] ∧ b.toList.isEmpty = true ∧ b.data.toList = []) := by
  rw [ByteArray.toList_eq]
  cases h : b.data.toList with
  | nil =>
    right
    have : b.data.toList.length = 0 := by rw [h]; rfl
    rw [Array.length_toList] at this
    exact ⟨this, rfl, rfl, rfl⟩
  | cons c r =>
    left
    have : b.data.toList.length = r.length + 1 := by rw [h]; rfl
    rw [Array.length_toList] at this
    exact ⟨by change b.data.size = _ at this; show 0 < b.data.size; omega, by simp, rfl, rfl⟩
set_option maxRecDepth 100000 in
set_option maxHeartbeats 4000000 in
theorem rtell_any (sc us ho po pa qu : ByteArray) (hu hq : Bool) (h1 : sc.size ≤ 1000000) (h2 : us.size ≤ 1000000) (h3 : ho.size ≤ 1000000) (h4 : po.size ≤ 1000000) (h5 : pa.size ≤ 1000000) (h6 : qu.size ≤ 1000000) (w : World) :
    Calls Tryz.prog 22 #[.agg #[.string sc, .string us, .string ho, .string po, .string pa, .string qu, .bool hu, .bool hq]] w fun e w' => e = .returned (.string ⟨(tellL sc.data.toList us.data.toList ho.data.toList po.data.toList pa.data.toList qu.data.toList hu hq).toArray⟩) ∧ Below w.heap.size w w' := by
  obtain ⟨r, hr⟩ : ∃ r : ByteArray, (⟨(tellL sc.data.toList us.data.toList ho.data.toList po.data.toList pa.data.toList qu.data.toList hu hq).toArray⟩ : ByteArray) = r := ⟨_, rfl⟩
  have HR := Lib.hid hr
  rw [hr]
  clear hr
  rcases empty_iff po with ⟨p1, p2, p3, p4⟩ | ⟨p1, p2, p3, p4⟩
  all_goals
    have HP := Lib.hid p4
    clear p1 p4
    cases hu <;> cases hq
    all_goals
      go_enter Tryz.func22, Tryz.ntmps22
      go_wp2_with fail
      go_ret
      refine ⟨retB ?_, ?_⟩
      · have hr := HR.out
        have hp := HP.out
        rw [← hr]
        refine bytes_ext ?_
        go_light
        simp [tellL, app_list, hp]
      · go_grown
end Go.Proofs.YtcocjmbhbddgiaaGreatDoor
