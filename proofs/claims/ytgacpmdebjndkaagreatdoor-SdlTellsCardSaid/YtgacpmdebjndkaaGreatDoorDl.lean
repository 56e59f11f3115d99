/- sdl's constant, fixed, typ, args, dirs: which parts of definitions may be. -/
import Derived.Test.YtgacpmdebjndkaaGreatDoorDd
import Derived.Test.YtgacpmdebjndkaaGreatDoorDh
set_option linter.unusedSimpArgs false
set_option linter.unusedVariables false
namespace Go.Proofs.YtgacpmdebjndkaaGreatDoor
open Go.RowKit
set_option maxRecDepth 100000 in
set_option maxHeartbeats 1000000 in
theorem front_big (s ms : ByteArray) (hs : s.size ≤ 9223372036854775807) (w : World) :
    Calls Tryz.prog 40 #[.string s, .string ms] w fun e w' => e = .returned (.string ⟨(fr ms.data.toList s.data.toList).toArray⟩) ∧ w = w' := by
  obtain ⟨R, hR⟩ : ∃ R, (fr ms.data.toList s.data.toList).length = R := ⟨_, rfl⟩
  have ht := fr_take ms.data.toList s.data.toList
  rw [hR] at ht
  have HT := Lib.hid ht
  have HR : Hid (0 + (fr ms.data.toList (s.data.toList.drop 0)).length = R) := Lib.hid (by rw [List.drop_zero, Nat.zero_add]; exact hR)
  rw [← ht]
  clear hR ht
  go_enter Tryz.func40, Tryz.ntmps40
  go_wp2_with fail
  go_loop [8] (fun i => ∃ k : Nat, k ≤ s.size ∧ i = .int .i64 k ∧ Hid (k + (fr ms.data.toList (s.data.toList.drop k)).length = R)) (fun i => s.size - (intOf i).toNat)
  case atStart => exact ⟨0, Nat.zero_le _, rfl, HR⟩
  case round =>
    obtain ⟨k, hk, rfl, HK⟩ := hrel
    by_cases hlt : k < s.size
    · have hd := drop_at s k hlt
      have H1 : ∀ w, Calls Tryz.prog 39 #[.string ms, .int .u8 (s[k].toNat : Int)] w fun e w' => e = .returned (.int .i64 (Lib.indexByte ms.data.toList s[k])) ∧ w = w' := fun w => by
        have := Tryz.strings_IndexByte ms (s[k].toNat : Int) w
        rw [show ((s[k].toNat : Int)).toNat.toUInt8 = s[k] by simp] at this
        exact this.mono fun e w' ⟨h1, h2⟩ => ⟨h1, h2.symm⟩
      have hf : fr ms.data.toList (s.data.toList.drop k) = if ms.data.toList.contains s[k] then s[k] :: fr ms.data.toList (s.data.toList.drop (k + 1)) else [] := by
        rw [hd]; unfold fr; rw [List.takeWhile_cons]
      rcases ib_cases s[k] ms.data.toList with ⟨g1, n, g2⟩ | ⟨g1, g2⟩
      · rw [g1] at hf
        rw [g2] at H1
        have HK2 : Hid (k + 1 + (fr ms.data.toList (s.data.toList.drop (k + 1))).length = R) := Lib.hid (by have := HK.out; rw [hf] at this; simp at this; omega)
        have HI := Lib.hid H1
        have hn : ¬ (n : Int) < 0 := by omega
        clear hf H1 g1 g2 hd
        go_wp2_with fail
        refine (HI.out _).mono ?_; rintro e w1 ⟨rfl, rfl⟩
        go_wp2_with fail
        go_round
        case rel => exact ⟨k + 1, by omega, by go_num, HK2⟩
        case measure => simp [intOf]; omega
      · rw [g1] at hf
        rw [g2] at H1
        have HK2 : Hid (k = R) := Lib.hid (by have := HK.out; rw [hf] at this; simpa using this)
        have HI := Lib.hid H1
        have b1 : (k : Int) ≤ s.size := by omega
        have b2 : (0 : Int) ≤ k := by omega
        have HX : Hid (s.extract 0 k = ⟨(s.data.toList.take R).toArray⟩) := Lib.hid (by
          rw [← HK2.out]
          apply ByteArray.ext
          apply Array.ext'
          rw [ByteArray.data_extract, Array.toList_extract, List.extract_eq_take_drop]
          simp)
        clear hf H1 g1 g2 hd
        go_wp2_with fail
        refine (HI.out _).mono ?_; rintro e w1 ⟨rfl, rfl⟩
        go_wp2_with fail
        go_ret
        exact ⟨congrArg (fun z : ByteArray => Ending.returned (Value.string z)) HX.out, rfl⟩
    · have HX : Hid (s = ⟨(s.data.toList.take R).toArray⟩) := Lib.hid (by
        have := HK.out
        rw [List.drop_of_length_le (by rw [Array.length_toList]; exact Nat.le_of_not_lt hlt)] at this
        have hRs : s.size ≤ R := by simp [fr] at this; omega
        rw [List.take_of_length_le (by rw [Array.length_toList]; exact hRs)])
      go_wp2_with fail
      go_ret
      exact ⟨congrArg (fun z : ByteArray => Ending.returned (Value.string z)) HX.out, rfl⟩
set_option maxRecDepth 100000 in
set_option maxHeartbeats 1000000 in
theorem lname_big (s : ByteArray) (hs : s.size ≤ 9223372036854775807) (w : World) :
    Calls Tryz.prog 14 #[.string s] w fun e w' => e = .returned (.bool (nameB s.data.toList)) ∧ w = w' := by
  rcases empty_z s with ⟨h0, h1, h2, h3⟩ | ⟨h0, h1, h2, h3⟩
  · have hr : nameB s.data.toList = (!isDig s[0] && (fr nameMs s.data.toList == s.data.toList)) := by
      rw [fr_all, show (nameMs.contains ·) = nameC from funext name_ms]
      have := head_z s h0
      rw [this]; rfl
    have H1 : ∀ w, Calls Tryz.prog 39 #[.string ⟨#[48, 49, 50, 51, 52, 53, 54, 55, 56, 57]⟩, .int .u8 (s[0].toNat : Int)] w fun e w' => e = .returned (.int .i64 (if isDig s[0] then ((s[0].toNat - 48 : Nat) : Int) else -1)) ∧ w = w' := fun w => by
      have := Tryz.strings_IndexByte ⟨#[48, 49, 50, 51, 52, 53, 54, 55, 56, 57]⟩ (s[0].toNat : Int) w
      rw [show ((s[0].toNat : Int)).toNat.toUInt8 = s[0] by simp, ib_dig] at this
      exact this.mono fun e w' ⟨h1, h2⟩ => ⟨h1, h2.symm⟩
    have H2 := Lib.hid (fun w => front_big s ⟨nameMs.toArray⟩ hs w)
    obtain ⟨r, hr2⟩ : ∃ r, nameB s.data.toList = r := ⟨_, rfl⟩
    rw [hr2]
    rw [hr2] at hr
    obtain ⟨F, hF⟩ : ∃ F : ByteArray, (⟨(fr (⟨nameMs.toArray⟩ : ByteArray).data.toList s.data.toList).toArray⟩ : ByteArray) = F := ⟨_, rfl⟩
    rw [hF] at H2
    have hc : (F.toList == s.toList) = (fr nameMs s.data.toList == s.data.toList) := by rw [← hF, ByteArray.toList_eq, ByteArray.toList_eq]
    rw [← hc] at hr
    have HR := Lib.hid hr
    unfold nameMs at H2
    clear hr hr2 hF hc
    cases hd : isDig s[0] with
    | true =>
      rw [hd] at H1 HR
      simp only [if_true] at H1
      have HI := Lib.hid H1
      have HF : Hid (false = r) := Lib.hid (by rw [HR.out]; rfl)
      clear H1 HR hd
      generalize s[0].toNat - 48 = n at *
      have hn : ¬ (n : Int) < 0 := by omega
      go_enter Tryz.func14, Tryz.ntmps14
      go_wp2_with fail
      refine (HI.out _).mono ?_; rintro e w1 ⟨rfl, rfl⟩
      go_wp2_with fail
      go_ret
      exact ⟨ret_b HF.out, rfl⟩
    | false =>
      rw [hd] at H1 HR
      simp only [Bool.false_eq_true, if_false] at H1
      have HI := Lib.hid H1
      have HF : Hid ((F.toList == s.toList) = r) := Lib.hid (by rw [HR.out]; rfl)
      clear H1 HR hd
      go_enter Tryz.func14, Tryz.ntmps14
      go_wp2_with fail
      refine (HI.out _).mono ?_; rintro e w1 ⟨rfl, rfl⟩
      go_wp2_with fail
      refine (H2.out _).mono ?_; rintro e w1 ⟨rfl, rfl⟩
      go_wp2_with fail
      go_ret
      exact ⟨ret_b HF.out, rfl⟩
  · have hr : nameB s.data.toList = false := by rw [h3]; rfl
    rw [hr]
    clear h0 h3 hr
    go_enter Tryz.func14, Tryz.ntmps14
    go_wp2_with fail
    go_ret
    exact ⟨rfl, rfl⟩
set_option maxRecDepth 100000 in
set_option maxHeartbeats 4000000 in
theorem rname_big (s : ByteArray) (hs : s.size ≤ 9223372036854775807) (w : World) :
    Calls Tryz.prog 70 #[.string s] w fun e w' => e = .returned (.bool (nameB s.data.toList)) ∧ w = w' := by
  obtain ⟨r, hr⟩ : ∃ r, nameB s.data.toList = r := ⟨_, rfl⟩
  have HR : Hid (nameAt s.data.toList 0 = r) := Lib.hid hr
  rw [hr]
  clear hr
  go_enter Tryz.func70, Tryz.ntmps70
  go_wp2_with fail
  go_loop [3] (fun i => ∃ k : Nat, k ≤ s.size ∧ i = .int .i64 k ∧ Hid (nameAt s.data.toList k = r)) (fun i => s.size - (intOf i).toNat)
  case atStart => exact ⟨0, Nat.zero_le _, rfl, HR⟩
  case round =>
    obtain ⟨k, hk, rfl, HK⟩ := hrel
    by_cases hlt : k < s.size
    · have hst := nameAt_step s k hlt
      rw [HK.out] at hst
      have hcls := nm_cls s[k]
      have hc8 : s[k].toNat < 256 := UInt8.toNat_lt _
      clear HK
      rcases hcls with ⟨a1, l1, d1⟩ | ⟨a1, a2, l1, d1⟩ | ⟨a1, a2, l1, d1⟩ | ⟨a1, a2, l1, d1⟩ | ⟨a1, a2, a3, l1, d1⟩ | ⟨a1, l1, d1⟩ | ⟨a1, a2, l1, d1⟩ | ⟨a1, l1, d1⟩
      all_goals rw [l1, d1] at hst; clear l1 d1
      · have HF : Hid (false = r) := Lib.hid (by rw [hst]; simp)
        have b1 : ((s[k].toNat : Int) == 95) = false := by rw [beq_eq_false_iff_ne]; omega
        have b2 : ¬ (97 : Int) ≤ s[k].toNat := by omega
        have b3 : ¬ (65 : Int) ≤ s[k].toNat := by omega
        have b4 : ¬ (48 : Int) ≤ s[k].toNat := by omega
        clear hst
        go_wp2_with fail
        go_ret
        exact ⟨ret_b HF.out, rfl⟩
      · have b1 : ((s[k].toNat : Int) == 95) = false := by rw [beq_eq_false_iff_ne]; omega
        have b2 : ¬ (97 : Int) ≤ s[k].toNat := by omega
        have b3 : ¬ (65 : Int) ≤ s[k].toNat := by omega
        by_cases hk0 : k = 0
        · have HF : Hid (false = r) := Lib.hid (by rw [hst, decide_eq_true hk0]; simp)
          subst hk0
          clear hst
          go_wp2_with fail
          go_ret
          exact ⟨ret_b HF.out, rfl⟩
        · have HK2 : Hid (nameAt s.data.toList (k + 1) = r) := Lib.hid (by rw [hst, decide_eq_false hk0]; simp)
          have hkb : ((k : Int) == 0) = false := by rw [beq_eq_false_iff_ne]; omega
          clear hst hk0
          go_wp2_with fail
          go_round
          case rel => exact ⟨k + 1, by omega, by go_num, HK2⟩
          case measure => simp [intOf]; omega
      · have HF : Hid (false = r) := Lib.hid (by rw [hst]; simp)
        have b1 : ((s[k].toNat : Int) == 95) = false := by rw [beq_eq_false_iff_ne]; omega
        have b2 : ¬ (97 : Int) ≤ s[k].toNat := by omega
        have b3 : ¬ (65 : Int) ≤ s[k].toNat := by omega
        have b4 : ¬ (s[k].toNat : Int) ≤ 57 := by omega
        clear hst
        go_wp2_with fail
        go_ret
        exact ⟨ret_b HF.out, rfl⟩
      · have HK2 : Hid (nameAt s.data.toList (k + 1) = r) := Lib.hid (by rw [hst]; simp)
        have b2 : ¬ (97 : Int) ≤ s[k].toNat := by omega
        have b3 : ¬ (s[k].toNat : Int) ≤ 57 := by omega
        clear hst
        go_wp2_with fail
        go_round
        case rel => exact ⟨k + 1, by omega, by go_num, HK2⟩
        case measure => simp [intOf]; omega
      · have HF : Hid (false = r) := Lib.hid (by rw [hst]; simp)
        have b1 : ((s[k].toNat : Int) == 95) = false := by rw [beq_eq_false_iff_ne]; omega
        have b2 : ¬ (97 : Int) ≤ s[k].toNat := by omega
        have b3 : ¬ (s[k].toNat : Int) ≤ 90 := by omega
        have b4 : ¬ (s[k].toNat : Int) ≤ 57 := by omega
        clear hst a3
        go_wp2_with fail
        go_ret
        exact ⟨ret_b HF.out, rfl⟩
      · have HK2 : Hid (nameAt s.data.toList (k + 1) = r) := Lib.hid (by rw [hst]; simp)
        have b1 : ((s[k].toNat : Int) == 95) = true := by rw [beq_iff_eq]; omega
        have b2 : ¬ (97 : Int) ≤ s[k].toNat := by omega
        have b3 : ¬ (s[k].toNat : Int) ≤ 90 := by omega
        have b4 : ¬ (s[k].toNat : Int) ≤ 57 := by omega
        clear hst a1
        go_wp2_with fail
        go_round
        case rel => exact ⟨k + 1, by omega, by go_num, HK2⟩
        case measure => simp [intOf]; omega
      · have HK2 : Hid (nameAt s.data.toList (k + 1) = r) := Lib.hid (by rw [hst]; simp)
        have b3 : ¬ (s[k].toNat : Int) ≤ 57 := by omega
        clear hst
        go_wp2_with fail
        go_round
        case rel => exact ⟨k + 1, by omega, by go_num, HK2⟩
        case measure => simp [intOf]; omega
      · have HF : Hid (false = r) := Lib.hid (by rw [hst]; simp)
        have b1 : ((s[k].toNat : Int) == 95) = false := by rw [beq_eq_false_iff_ne]; omega
        have b2 : ¬ (s[k].toNat : Int) ≤ 122 := by omega
        have b3 : ¬ (s[k].toNat : Int) ≤ 90 := by omega
        have b4 : ¬ (s[k].toNat : Int) ≤ 57 := by omega
        clear hst
        go_wp2_with fail
        go_ret
        exact ⟨ret_b HF.out, rfl⟩
    · have HF : Hid (decide (0 < s.size) = r) := Lib.hid (by
        have := HK.out
        rw [show k = s.size by omega, nameAt_end] at this
        exact this)
      go_wp2_with fail
      go_ret
      refine ⟨ret_b (Eq.trans ?_ HF.out), rfl⟩
      simp
theorem rmt_big (nm : ByteArray) (ws : List UInt8) (u : Value) (w : World) (hu : BSl u ws w) (hn : nm.size ≤ 9223372036854775807) :
    Calls Tryz.prog 74 #[.agg #[.string nm, u]] w fun e w' => e = .returned (.bool (ttB nm.data.toList ws)) ∧ Below w.heap.size w w' := by
  obtain ⟨a, c, rfl⟩ := hu.form
  unfold ttB
  by_cases hl : ws.length ≤ 8
  · rw [decide_eq_true hl, Bool.true_and]
    exact rmt_go nm _ a c ws hl w hu (Lib.hid fun W => rname_big nm hn W)
  · rw [decide_eq_false hl, Bool.false_and, Bool.and_false]
    exact rmt_long nm a _ c (by omega) w
set_option maxRecDepth 100000 in
theorem scon_any (s : ByteArray) (w : World) :
    Calls Tryz.prog 15 #[.string s] w fun e w' => e = .returned (.bool (wordsK.contains s.data.toList)) ∧ w = w' := by
  obtain ⟨s1, h1⟩ : ∃ s1, (s.toList == [110, 117, 108, 108]) = s1 := ⟨_, rfl⟩
  obtain ⟨s2, h2⟩ : ∃ s2, (s.toList == [116, 114, 117, 101]) = s2 := ⟨_, rfl⟩
  obtain ⟨s3, h3⟩ : ∃ s3, (s.toList == [102, 97, 108, 115, 101]) = s3 := ⟨_, rfl⟩
  have e : wordsK.contains s.data.toList = (s2 || (s3 || s1)) := by
    rw [← h1, ← h2, ← h3]
    simp only [wordsK, List.contains_cons, List.contains_nil, Bool.or_false, ByteArray.toList_eq]
    cases (s.data.toList == [110, 117, 108, 108]) <;> cases (s.data.toList == [116, 114, 117, 101]) <;> cases (s.data.toList == [102, 97, 108, 115, 101]) <;> rfl
  rw [e]
  clear e
  cases s2 with
  | true =>
    go_enter Tryz.func15, Tryz.ntmps15
    go_wp2_with fail
    go_ret
    exact ⟨rfl, rfl⟩
  | false =>
    cases s3 with
    | true =>
      go_enter Tryz.func15, Tryz.ntmps15
      go_wp2_with fail
      go_ret
      exact ⟨rfl, rfl⟩
    | false =>
      cases s1 with
      | true =>
        go_enter Tryz.func15, Tryz.ntmps15
        go_wp2_with fail
        go_ret
        exact ⟨rfl, rfl⟩
      | false =>
        go_enter Tryz.func15, Tryz.ntmps15
        go_wp2_with fail
        go_ret
        exact ⟨rfl, rfl⟩
set_option maxRecDepth 100000 in
theorem rcon_any (s : ByteArray) (w : World) :
    Calls Tryz.prog 73 #[.string s] w fun e w' => e = .returned (.bool (wordsK.contains s.data.toList)) ∧ w = w' := by
  obtain ⟨s1, h1⟩ : ∃ s1, (s.toList == [110, 117, 108, 108]) = s1 := ⟨_, rfl⟩
  obtain ⟨s2, h2⟩ : ∃ s2, (s.toList == [116, 114, 117, 101]) = s2 := ⟨_, rfl⟩
  obtain ⟨s3, h3⟩ : ∃ s3, (s.toList == [102, 97, 108, 115, 101]) = s3 := ⟨_, rfl⟩
  have e : wordsK.contains s.data.toList = (s2 || (s3 || s1)) := by
    rw [← h1, ← h2, ← h3]
    simp only [wordsK, List.contains_cons, List.contains_nil, Bool.or_false, ByteArray.toList_eq]
    cases (s.data.toList == [110, 117, 108, 108]) <;> cases (s.data.toList == [116, 114, 117, 101]) <;> cases (s.data.toList == [102, 97, 108, 115, 101]) <;> rfl
  rw [e]
  clear e
  cases s2 with
  | true =>
    go_enter Tryz.func73, Tryz.ntmps73
    go_wp2_with fail
    go_ret
    exact ⟨rfl, rfl⟩
  | false =>
    cases s3 with
    | true =>
      go_enter Tryz.func73, Tryz.ntmps73
      go_wp2_with fail
      go_ret
      exact ⟨rfl, rfl⟩
    | false =>
      cases s1 with
      | true =>
        go_enter Tryz.func73, Tryz.ntmps73
        go_wp2_with fail
        go_ret
        exact ⟨rfl, rfl⟩
      | false =>
        go_enter Tryz.func73, Tryz.ntmps73
        go_wp2_with fail
        go_ret
        exact ⟨rfl, rfl⟩
theorem calls_below {f : Nat} {args : Array Value} {w : World} {b : Bool} (h : Calls Tryz.prog f args w fun e w' => e = .returned (.bool b) ∧ w = w') : Calls Tryz.prog f args w fun e w' => e = .returned (.bool b) ∧ Below w.heap.size w w' :=
  h.mono (by rintro e w' ⟨h1, rfl⟩; exact ⟨h1, Below.refl _ _⟩)
def isV (c : Cel) : Bool := c.kind == 5
/-- A cell that a literal of definitions must not have. -/
def badF (c : Cel) : Bool := c.kind == 5 || (c.kind == 4 && wordsK.contains c.text) || (!c.name.isEmpty && !nameB c.name)
def fixV (V : List Cel) : Bool := mayB V && !V.any badF
theorem fixV_lit (V : List Cel) : fixV V = (litB V && !V.any isV) := by
  rw [litB_okC, fixV]
  cases mayB V with
  | false => rfl
  | true =>
    simp only [Bool.true_and]
    induction V with
    | nil => rfl
    | cons c r ih =>
      rw [List.any_cons, List.all_cons, List.any_cons, Bool.not_or, Bool.not_or, ih]
      unfold badF isV okC
      cases (c.kind == 5) <;> cases (c.kind == 4) <;> cases wordsK.contains c.text <;> cases c.name.isEmpty <;> cases nameB c.name <;> simp
set_option maxRecDepth 100000 in
set_option maxHeartbeats 4000000 in
theorem fc_c (x0 : Int) (x1 : ByteArray) (x2 : ByteArray) (x3 : Int) (x4 : Int) (t0 t1 t2 t3 t4 : Bool) (w : World)
    (h0 : (x0 == 5) = t0)
    (h1 : (x0 == 4) = t1)
    (h3 : (x1.toList == []) = t3)
    (h3e : x1.toList.isEmpty = t3)
    (h3p : t3 = true → x1.toList = [])
    (h3n : t3 = false → ¬ x1.toList = [])
    (H2 : Hid (∀ W, Below w.heap.size w W → Calls Tryz.prog 15 #[.string x2] W fun e w' => e = .returned (.bool t2) ∧ Below W.heap.size W w'))
    (H4 : Hid (∀ W, Below w.heap.size w W → Calls Tryz.prog 14 #[.string x1] W fun e w' => e = .returned (.bool t4) ∧ Below W.heap.size W w')) :
    Calls Tryz.prog 69 #[.agg #[.int .u8 x0, .string x1, .string x2, .int .i64 x3, .int .i64 x4]] w fun e w' => e = .returned (.bool (t0 || (t1 && t2) || (!t3 && !t4))) ∧ Below w.heap.size w w' := by
  go_enter Tryz.func69, Tryz.ntmps69
  go_upto_region 1 with fail
  obtain ⟨w2, hw2⟩ : ∃ w2, w.alloc (.cells #[.int .u8 x0, .string x1, .string x2, .int .i64 x3, .int .i64 x4] 78 (0, 0)) = w2 := ⟨_, rfl⟩
  have HB2 : Hid (Below w.heap.size w w2) := Lib.hid (by rw [← hw2]; exact (Below.refl _ _).alloc (Nat.le_refl _) _)
  have k1 : w2.heap[w.heap.size]? = some (.cells #[.int .u8 x0, .string x1, .string x2, .int .i64 x3, .int .i64 x4] 78 (0, 0)) := by rw [← hw2]; exact heap_new _ _ _ rfl
  have MK : Hid (∀ W, Below w2.heap.size w2 W → W.cell? ⟨w.heap.size, 0, none⟩ = some (.int .u8 x0) ∧ W.cell? ⟨w.heap.size, 1, none⟩ = some (.string x1) ∧ W.cell? ⟨w.heap.size, 2, none⟩ = some (.string x2) ∧ W.cell? ⟨w.heap.size, 3, none⟩ = some (.int .i64 x3) ∧ W.cell? ⟨w.heap.size, 4, none⟩ = some (.int .i64 x4)) := Lib.hid fun W hW => ⟨(Lib.cell_of_heap ((hW.block _ (heap_lt k1)).trans k1) 0).trans rfl, (Lib.cell_of_heap ((hW.block _ (heap_lt k1)).trans k1) 1).trans rfl, (Lib.cell_of_heap ((hW.block _ (heap_lt k1)).trans k1) 2).trans rfl, (Lib.cell_of_heap ((hW.block _ (heap_lt k1)).trans k1) 3).trans rfl, (Lib.cell_of_heap ((hW.block _ (heap_lt k1)).trans k1) 4).trans rfl⟩
  obtain ⟨d0, d1, d2, d3, d4⟩ := MK.out w2 (Below.refl _ _)
  have HBV : Hid (Below w2.heap.size w2 w2) := Lib.hid (Below.refl _ _)
  try rw [hw2]
  clear hw2 k1
  cases t3 with
  | false =>
    have hne := h3n rfl
    cases t0 with
    | false =>
      cases t1 with
      | false =>
        cases t4 with
        | false =>
          go_wp2_with fail
          refine (H4.out _ (HB2.out.trans (HBV.out.mono HB2.out.size))).mono ?_; rintro e w5 ⟨rfl, hb⟩
          have HBV2 : Hid (Below w2.heap.size w2 w5) := Lib.hid (HBV.out.trans (hb.mono HBV.out.size))
          obtain ⟨d0, d1, d2, d3, d4⟩ := MK.out w5 HBV2.out
          clear HBV hb
          have HBV := HBV2
          clear HBV2
          go_wp2_with fail
          go_ret
          exact ⟨ret_b rfl, HB2.out.trans (HBV.out.mono HB2.out.size)⟩
        | true =>
          go_wp2_with fail
          refine (H4.out _ (HB2.out.trans (HBV.out.mono HB2.out.size))).mono ?_; rintro e w5 ⟨rfl, hb⟩
          have HBV2 : Hid (Below w2.heap.size w2 w5) := Lib.hid (HBV.out.trans (hb.mono HBV.out.size))
          obtain ⟨d0, d1, d2, d3, d4⟩ := MK.out w5 HBV2.out
          clear HBV hb
          have HBV := HBV2
          clear HBV2
          go_wp2_with fail
          go_ret
          exact ⟨ret_b rfl, HB2.out.trans (HBV.out.mono HB2.out.size)⟩
      | true =>
        cases t2 with
        | false =>
          go_wp2_with fail
          refine (H2.out _ (HB2.out.trans (HBV.out.mono HB2.out.size))).mono ?_; rintro e w5 ⟨rfl, hb⟩
          have HBV2 : Hid (Below w2.heap.size w2 w5) := Lib.hid (HBV.out.trans (hb.mono HBV.out.size))
          obtain ⟨d0, d1, d2, d3, d4⟩ := MK.out w5 HBV2.out
          clear HBV hb
          have HBV := HBV2
          clear HBV2
          cases t4 with
          | false =>
            go_wp2_with fail
            refine (H4.out _ (HB2.out.trans (HBV.out.mono HB2.out.size))).mono ?_; rintro e w5 ⟨rfl, hb⟩
            have HBV2 : Hid (Below w2.heap.size w2 w5) := Lib.hid (HBV.out.trans (hb.mono HBV.out.size))
            obtain ⟨d0, d1, d2, d3, d4⟩ := MK.out w5 HBV2.out
            clear HBV hb
            have HBV := HBV2
            clear HBV2
            go_wp2_with fail
            go_ret
            exact ⟨ret_b rfl, HB2.out.trans (HBV.out.mono HB2.out.size)⟩
          | true =>
            go_wp2_with fail
            refine (H4.out _ (HB2.out.trans (HBV.out.mono HB2.out.size))).mono ?_; rintro e w5 ⟨rfl, hb⟩
            have HBV2 : Hid (Below w2.heap.size w2 w5) := Lib.hid (HBV.out.trans (hb.mono HBV.out.size))
            obtain ⟨d0, d1, d2, d3, d4⟩ := MK.out w5 HBV2.out
            clear HBV hb
            have HBV := HBV2
            clear HBV2
            go_wp2_with fail
            go_ret
            exact ⟨ret_b rfl, HB2.out.trans (HBV.out.mono HB2.out.size)⟩
        | true =>
          go_wp2_with fail
          refine (H2.out _ (HB2.out.trans (HBV.out.mono HB2.out.size))).mono ?_; rintro e w5 ⟨rfl, hb⟩
          have HBV2 : Hid (Below w2.heap.size w2 w5) := Lib.hid (HBV.out.trans (hb.mono HBV.out.size))
          obtain ⟨d0, d1, d2, d3, d4⟩ := MK.out w5 HBV2.out
          clear HBV hb
          have HBV := HBV2
          clear HBV2
          go_wp2_with fail
          go_ret
          exact ⟨ret_b rfl, HB2.out.trans (HBV.out.mono HB2.out.size)⟩
    | true =>
      go_wp2_with fail
      go_ret
      exact ⟨ret_b rfl, HB2.out.trans (HBV.out.mono HB2.out.size)⟩
  | true =>
    have hne := h3p rfl
    cases t0 with
    | false =>
      cases t1 with
      | false =>
        go_wp2_with fail
        go_ret
        exact ⟨ret_b rfl, HB2.out.trans (HBV.out.mono HB2.out.size)⟩
      | true =>
        cases t2 with
        | false =>
          go_wp2_with fail
          refine (H2.out _ (HB2.out.trans (HBV.out.mono HB2.out.size))).mono ?_; rintro e w5 ⟨rfl, hb⟩
          have HBV2 : Hid (Below w2.heap.size w2 w5) := Lib.hid (HBV.out.trans (hb.mono HBV.out.size))
          obtain ⟨d0, d1, d2, d3, d4⟩ := MK.out w5 HBV2.out
          clear HBV hb
          have HBV := HBV2
          clear HBV2
          go_wp2_with fail
          go_ret
          exact ⟨ret_b rfl, HB2.out.trans (HBV.out.mono HB2.out.size)⟩
        | true =>
          go_wp2_with fail
          refine (H2.out _ (HB2.out.trans (HBV.out.mono HB2.out.size))).mono ?_; rintro e w5 ⟨rfl, hb⟩
          have HBV2 : Hid (Below w2.heap.size w2 w5) := Lib.hid (HBV.out.trans (hb.mono HBV.out.size))
          obtain ⟨d0, d1, d2, d3, d4⟩ := MK.out w5 HBV2.out
          clear HBV hb
          have HBV := HBV2
          clear HBV2
          go_wp2_with fail
          go_ret
          exact ⟨ret_b rfl, HB2.out.trans (HBV.out.mono HB2.out.size)⟩
    | true =>
      go_wp2_with fail
      go_ret
      exact ⟨ret_b rfl, HB2.out.trans (HBV.out.mono HB2.out.size)⟩
theorem fc_any (c : Cel) (hn : c.name.length ≤ 1000000) (w : World) : Calls Tryz.prog 69 #[.agg (celCells c)] w fun e w' => e = .returned (.bool (badF c)) ∧ Below w.heap.size w w' := by
  have hr : badF c = ((c.kind.toNat : Int) == 5 || ((c.kind.toNat : Int) == 4 && wordsK.contains c.text) || (!c.name.isEmpty && !nameB c.name)) := by unfold badF; rw [kind_eq, kind_eq]; rfl
  rw [hr]
  have hl : (⟨c.name.toArray⟩ : ByteArray).toList = c.name := by rw [ByteArray.toList_eq]
  refine fc_c _ _ _ _ _ _ _ _ _ _ w rfl rfl ?_ ?_ ?_ ?_ ?_ ?_
  · rw [hl]; cases c.name <;> rfl
  · rw [hl]
  · rw [hl]; intro h; simpa using h
  · rw [hl]; intro h; simpa using h
  · exact Lib.hid fun W _ => calls_below (scon_any _ W)
  · exact Lib.hid fun W _ => calls_below (lname_any _ (by rw [← bsz]; exact hn) W)
theorem fc_ent : ∀ args w, (callFunc 69 args).run Tryz.prog w = .ok (.enter 69 args) w := enters_of Tryz.func69 (by kernel_rfl) rfl
set_option maxRecDepth 100000 in
theorem fixed_any (V : List Cel) (v : Value) (w : World) (hv : CelSl v V w) (hs : SmallV V) (hE : EnvU w) :
    Calls Tryz.prog 47 #[v] w fun e w' => e = .returned (.bool (fixV V)) ∧ Below w.heap.size w w' := by
  have H := Lib.hid (ccheck_any V v w hv hs hE)
  have HC : Hid (∀ W : World, Below w.heap.size w W → Calls Tryz.prog 68 #[v, .func (.func 69) #[] #[]] W fun e w' => e = .returned (.bool (V.any badF)) ∧ Below W.heap.size W w') := Lib.hid fun W hW =>
    ccontains_any _ #[] fc_ent badF V v W (hv.below hW) hs.1 (Lib.hid fun W' k hk _ => by
      have := fc_any V[k] (by have := (hs.2 V[k] (List.getElem_mem hk)).1; omega) W'
      simpa using this)
  unfold fixV
  clear hv hs hE
  generalize V.any badF = ev at *
  cases hm : mayB V with
  | false =>
    rw [hm] at H
    clear hm
    go_enter Tryz.func47, Tryz.ntmps47
    go_wp2_with fail
    refine H.out.mono ?_; rintro e w1 ⟨rfl, hb⟩
    go_wp2_with fail
    go_ret
    exact ⟨rfl, hb⟩
  | true =>
    rw [hm] at H
    clear hm
    go_enter Tryz.func47, Tryz.ntmps47
    go_wp2_with fail
    refine H.out.mono ?_; rintro e w1 ⟨rfl, hb⟩
    have HB := Lib.hid hb
    have hz := hb.size
    clear hb
    go_wp2_with fail
    refine (HC.out _ HB.out).mono ?_; rintro e w2 ⟨rfl, hb⟩
    have HB2 := Lib.hid (HB.out.trans (hb.mono hz))
    clear hb
    go_wp2_with fail
    go_ret
    exact ⟨ret_b (by cases ev <;> rfl), HB2.out⟩
end Go.Proofs.YtgacpmdebjndkaaGreatDoor
