/- The walk through strings.Cut at one byte, whatever the string. -/
import Derived.WalkKit
import Derived.WalkSpells
import Derived.Handy
import Derived.Lib.Hide
import Derived.Lib.Bytealg
import Derived.Lib.IndexLaws
import Derived.Lib.Strings
import Derived.Lib.IndexBytes
import Derived.Deep.Light
import Derived.Deep.QuietTactic
import Derived.BigQuiet
import Derived.Outline
import Derived.Test.YtpkkejcndmcbiaaGreatDoorRows
set_option linter.unusedSimpArgs false
set_option linter.unusedVariables false
namespace Go.Proofs.YtpkkejcndmcbiaaGreatDoor
open Go.RowKit
/-- What stands ahead of the first c; what stands behind it; does one stand there? -/
def ahead (c : UInt8) (l : List UInt8) : List UInt8 := l.takeWhile (· != c)
def behind (c : UInt8) (l : List UInt8) : List UInt8 := (l.dropWhile (· != c)).tail
theorem behind_nil_of (c : UInt8) : ∀ l : List UInt8, l.contains c = false → ahead c l = l ∧ behind c l = []
  | [], _ => ⟨rfl, rfl⟩
  | b :: l, h => by
    rw [List.contains_cons, Bool.or_eq_false_iff] at h
    have hb : (b != c) = true := by
      have := h.1; rw [beq_eq_false_iff_ne] at this; rw [bne_iff_ne]; exact fun e => this e.symm
    obtain ⟨h1, h2⟩ := behind_nil_of c l h.2
    unfold ahead behind at *
    rw [List.takeWhile_cons_of_pos (p := (· != c)) hb, List.dropWhile_cons_of_pos (p := (· != c)) hb, h1, h2]; exact ⟨rfl, rfl⟩
theorem indexByte_ahead (c : UInt8) : ∀ l : List UInt8, Lib.indexByte l c = if l.contains c then ((ahead c l).length : Int) else -1
  | [] => rfl
  | b :: l => by
    rw [Lib.indexByte, indexByte_ahead c l, List.contains_cons]
    by_cases hb : b = c
    · subst hb; simp [ahead]
    · have h1 : (b == c) = false := by simpa using hb
      have h2 : (c == b) = false := by simpa using fun e => hb e.symm
      have h3 : (ahead c (b :: l)).length = (ahead c l).length + 1 := by
        unfold ahead; rw [List.takeWhile_cons_of_pos (by simpa using hb)]; rfl
      rw [h1, h2, h3]
      cases hl : l.contains c
      · rfl
      · have : (((ahead c l).length : Int) == -1) = false := by rw [beq_eq_false_iff_ne]; omega
        simp only [Bool.false_or, if_true, Bool.false_eq_true, if_false, this]; omega
theorem ahead_behind (c : UInt8) : ∀ l : List UInt8, l.contains c = true → l = ahead c l ++ c :: behind c l
  | [], h => by cases h
  | b :: l, h => by
    by_cases hb : b = c
    · subst hb; simp [ahead, behind]
    · have h2 : (c == b) = false := by simpa using fun e => hb e.symm
      rw [List.contains_cons, h2, Bool.false_or] at h
      have ih := ahead_behind c l h
      unfold ahead behind at *
      rw [List.takeWhile_cons_of_pos (by simpa using hb), List.dropWhile_cons_of_pos (by simpa using hb), List.cons_append, ← ih]
theorem ahead_take (c : UInt8) (l : List UInt8) (h : l.contains c = true) : l.take (ahead c l).length = ahead c l ∧ l.drop ((ahead c l).length + 1) = behind c l ∧ (ahead c l).length < l.length := by
  have e := ahead_behind c l h
  generalize ahead c l = a at *
  generalize behind c l = b at *
  subst e
  refine ⟨by simp, by simp, by simp⟩
theorem ahead_one (c : UInt8) : ahead c [c] = [] ∧ behind c [c] = [] := by simp [ahead, behind]
theorem indexByteString_run (s : ByteArray) (c : Int) (w : World) :
    (callFunc 202 #[.string s, .int .u8 c]).run Tryz.prog w = .ok (.value (.int .i64 (Lib.indexByte s.data.toList c.toNat.toUInt8))) w := by
  rw [run_callFunc_extern Tryz.func202 (by kernel_rfl) (by kernel_rfl) (by kernel_rfl) (e := Extern.BytealgIndexByte.indexByte) (by kernel_rfl), Lib.run_indexByteString]
  rfl
theorem slIndexByte_any (s : ByteArray) (c : Int) (w : World) :
    Calls Tryz.prog 171 #[.string s, .int .u8 c] w fun e w' => e = .returned (.int .i64 (Lib.indexByte s.data.toList c.toNat.toUInt8)) ∧ w = w' := by
  have h := indexByteString_run s c
  generalize Lib.indexByte s.data.toList c.toNat.toUInt8 = r at *
  go_enter Tryz.func171, Tryz.ntmps171
  go_wp2_with fail
  go_ret
  exact ⟨rfl, rfl⟩
theorem index_one (s : ByteArray) (c : UInt8) (w : World) :
    Calls Tryz.prog 175 #[.string s, .string ⟨#[c]⟩] w fun e w' => e = .returned (.int .i64 (Lib.indexByte s.data.toList c)) ∧ w = w' := by
  by_cases h : s.data.toList = [c]
  · have hs : s = ⟨#[c]⟩ := by
      obtain ⟨d⟩ := s
      have : d = #[c] := by apply Array.ext'; simpa using h
      rw [this]
    subst hs
    have e : Lib.indexByte (⟨#[c]⟩ : ByteArray).data.toList c = 0 := by rw [h]; simp [Lib.indexByte]
    rw [e]
    go_enter Tryz.func175, Tryz.ntmps175
    go_wp2_with fail
    go_ret
    exact ⟨rfl, rfl⟩
  · have hb : ([c] == s.toList) = false := by
      rw [beq_eq_false_iff_ne, ByteArray.toList_eq]; exact fun e => h e.symm
    have H := Lib.hid (fun w => slIndexByte_any s (c.toNat : Int) w)
    rw [show ((c.toNat : Int)).toNat.toUInt8 = c by simp] at H
    clear h
    go_enter Tryz.func175, Tryz.ntmps175
    go_wp2_with fail
    refine (H.out _).mono ?_; rintro e w1 ⟨rfl, rfl⟩
    go_wp2_with fail
    go_ret
    exact ⟨rfl, rfl⟩
theorem ret_cut {a b a' b' : ByteArray} {f : Bool} (h : a = a') (h' : b = b') : Ending.returned (.tuple #[.string a, .string b, .bool f]) = .returned (.tuple #[.string a', .string b', .bool f]) := by rw [h, h']
theorem bytes_ext {a : ByteArray} {l : List UInt8} (h : a.data.toList = l) : a = ⟨l.toArray⟩ := by
  obtain ⟨d⟩ := a
  have : d = l.toArray := by apply Array.ext'; simpa using h
  rw [this]
set_option maxHeartbeats 400000 in
theorem slcut_one (s : ByteArray) (c : UInt8) (hs : s.size ≤ maxLen) (w : World) :
    Calls Tryz.prog 134 #[.string s, .string ⟨#[c]⟩] w fun e w' => e = .returned (.tuple #[.string ⟨(ahead c s.data.toList).toArray⟩, .string ⟨(behind c s.data.toList).toArray⟩, .bool (s.data.toList.contains c)]) ∧ ∃ n, w' = w.drewN n := by
  have H := Lib.hid (fun w => index_one s c w)
  rw [indexByte_ahead] at H
  unfold maxLen at hs
  cases hc : s.data.toList.contains c
  · obtain ⟨h1, h2⟩ := behind_nil_of c _ hc
    rw [hc] at H
    rw [h1, h2]
    clear h1 h2 hc
    simp only [Bool.false_eq_true, if_false] at H
    go_enter Tryz.func134, Tryz.ntmps134
    go_wp2_with fail
    refine (H.out _).mono ?_; rintro e w1 ⟨rfl, rfl⟩
    go_wp2_with fail
    go_ret3
    exact ⟨ret_cut (bytes_ext rfl) rfl, 0, rfl⟩
  · obtain ⟨h1, h2, h3⟩ := ahead_take c _ hc
    rw [hc] at H
    simp only [if_true] at H
    obtain ⟨n, hn⟩ : ∃ n, (ahead c s.data.toList).length = n := ⟨_, rfl⟩
    rw [hn] at H h1 h2 h3
    have hb : n < s.size := by rw [Array.length_toList] at h3; exact h3
    have e1 : s.extract 0 n = ⟨(ahead c s.data.toList).toArray⟩ := bytes_ext (by rw [Lib.extract_data]; simpa using h1)
    have e2 : s.extract (n + 1) s.size = ⟨(behind c s.data.toList).toArray⟩ := bytes_ext (by rw [Lib.extract_to_end]; exact h2)
    have E1 := Lib.hid e1
    have E2 := Lib.hid e2
    have i1 : (n : Int) ≤ (s.size : Int) := by omega
    have i2 : (n : Int) + 1 ≤ (s.size : Int) := by omega
    clear hn h1 h2 h3 hc e1 e2
    go_enter Tryz.func134, Tryz.ntmps134
    go_wp2_with fail
    refine (H.out _).mono ?_; rintro e w1 ⟨rfl, rfl⟩
    go_wp2_with fail
    go_quiet (fail)
    go_wp2_with fail
    go_ret3
    exact ⟨ret_cut E1.out E2.out, _, rfl⟩
theorem cut_one (s : ByteArray) (c : UInt8) (hs : s.size ≤ maxLen) (w : World) :
    Calls Tryz.prog 90 #[.string s, .string ⟨#[c]⟩] w fun e w' => e = .returned (.tuple #[.string ⟨(ahead c s.data.toList).toArray⟩, .string ⟨(behind c s.data.toList).toArray⟩, .bool (s.data.toList.contains c)]) ∧ ∃ n, w' = w.drewN n := by
  have H := Lib.hid (fun w => slcut_one s c hs w)
  generalize (⟨(ahead c s.data.toList).toArray⟩ : ByteArray) = a at *
  generalize (⟨(behind c s.data.toList).toArray⟩ : ByteArray) = b at *
  generalize s.data.toList.contains c = f at *
  clear hs
  go_enter Tryz.func90, Tryz.ntmps90
  go_wp2_with fail
  refine (H.out _).mono ?_; rintro e w1 ⟨rfl, nd, rfl⟩
  go_wp2_with fail
  go_ret3
  exact ⟨rfl, _, rfl⟩
end Go.Proofs.YtpkkejcndmcbiaaGreatDoor
