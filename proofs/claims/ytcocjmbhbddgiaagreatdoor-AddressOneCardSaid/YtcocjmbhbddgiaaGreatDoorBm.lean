/- The walks through the reference's find and Parse (provostref15). -/
import Derived.Test.YtcocjmbhbddgiaaGreatDoorAy
import Derived.Deep.QuietTactic
import Derived.BigQuiet
set_option linter.unusedSimpArgs false
set_option linter.unusedVariables false
namespace Go.Proofs.YtcocjmbhbddgiaaGreatDoor
open Go.RowKit
theorem pother {b b' i : Nat} {W : World} {o : Obj} (h : W.heap[b]? = some o) (v : Value) (hne : b ≠ b') : (W.setCell ⟨b', i, none⟩ v).heap[b]? = some o := by
  rw [Below.heap_setCell _ _ _ _ hne]; exact h
theorem heap_old {b : Nat} {W : World} {o o' : Obj} (h : W.heap[b]? = some o) : (W.alloc o').heap[b]? = some o := by
  rw [Below.heap_alloc _ _ _ (Array.getElem?_eq_some_iff.1 h).1]; exact h
theorem heap_new (W : World) (o : Obj) (b : Nat) (hb : b = W.heap.size) : (W.alloc o).heap[b]? = some o := by rw [hb]; exact heap_alloc_new W o
theorem heap_lt {b : Nat} {W : World} {o : Obj} (h : W.heap[b]? = some o) : b < W.heap.size := (Array.getElem?_eq_some_iff.1 h).1
/-- The first place of one of some bytes; the length: none. -/
def findN (ms l : List UInt8) : Nat := (l.takeWhile (fun c => !ms.contains c)).length
theorem findN_le (ms l : List UInt8) : findN ms l ≤ l.length := (List.takeWhile_sublist _).length_le
theorem findN_step (s : ByteArray) (ms : List UInt8) (k : Nat) (h : k < s.size) : findN ms (s.data.toList.drop k) = if ms.contains s[k] then 0 else findN ms (s.data.toList.drop (k + 1)) + 1 := by
  have hd : s.data.toList.drop k = s[k] :: s.data.toList.drop (k + 1) := by
    rw [List.drop_eq_getElem_cons (by rw [Array.length_toList]; exact h)]; rfl
  rw [hd]
  unfold findN
  rw [List.takeWhile_cons]
  cases ms.contains s[k] <;> simp
set_option maxHeartbeats 1000000 in
theorem rfind_any (s marks : ByteArray) (hs : s.size ≤ 1000000) (hm : marks.size ≤ 1000000) (w : World) :
    Calls Tryz.prog 16 #[.string s, .string marks] w fun e w' => e = .returned (.int .i64 (findN marks.data.toList s.data.toList : Nat)) ∧ w = w' := by
  obtain ⟨r, hr⟩ : ∃ r, findN marks.data.toList s.data.toList = r := ⟨_, rfl⟩
  have HR : Hid (0 + findN marks.data.toList (s.data.toList.drop 0) = r) := Lib.hid (by rw [List.drop_zero, Nat.zero_add]; exact hr)
  rw [hr]
  clear hr
  go_enter Tryz.func16, Tryz.ntmps16
  go_wp2_with fail
  go_loop [5] (fun i => ∃ k : Nat, k ≤ s.size ∧ i = .int .i64 k ∧ Hid (k + findN marks.data.toList (s.data.toList.drop k) = r)) (fun i => s.size - (intOf i).toNat)
  case atStart => exact ⟨0, Nat.zero_le _, rfl, HR⟩
  case round =>
    obtain ⟨k, hk, rfl, HK⟩ := hrel
    by_cases hlt : k < s.size
    · have H1 := Lib.hid (fun w => among_any s[k] marks (by unfold maxLen; omega) w)
      have hst := findN_step s marks.data.toList k hlt
      cases hc : marks.data.toList.contains s[k] with
      | true =>
        rw [hc] at H1 hst
        have HF : Hid ((k : Int) = (r : Int)) := Lib.hid (by have := HK.out; rw [hst] at this; simp at this; omega)
        clear hc hst
        go_wp2_with fail
        refine (H1.out _).mono ?_; rintro e w1 ⟨rfl, rfl⟩
        go_wp2_with fail
        go_ret
        exact ⟨ret_i HF.out, rfl⟩
      | false =>
        rw [hc] at H1 hst
        have HK2 : Hid (k + 1 + findN marks.data.toList (s.data.toList.drop (k + 1)) = r) := Lib.hid (by have := HK.out; rw [hst] at this; simp at this; omega)
        clear hc hst
        go_wp2_with fail
        refine (H1.out _).mono ?_; rintro e w1 ⟨rfl, rfl⟩
        go_wp2_with fail
        go_round
        case rel => exact ⟨k + 1, by omega, by go_num, HK2⟩
        case measure => simp [intOf]; omega
    · have HF : Hid ((s.size : Int) = (r : Int)) := Lib.hid (by
        have := HK.out
        rw [List.drop_of_length_le (by rw [Array.length_toList]; exact Nat.le_of_not_lt hlt)] at this
        simp [findN] at this; omega)
      go_wp2_with fail
      go_ret
      exact ⟨ret_i HF.out, rfl⟩
def Finds (s : ByteArray) (m : ByteArray) (n : Nat) : Prop := ∀ w : World, Calls Tryz.prog 16 #[.string s, .string m] w fun e w' => e = .returned (.int .i64 n) ∧ w = w'
set_option maxRecDepth 100000 in
set_option maxHeartbeats 1000000 in
theorem rparse_no (s : ByteArray) (n1 : Nat) (H1 : Hid (Finds s ⟨#[58]⟩ n1)) (hs : s.size ≤ 1000000) (hb1 : n1 ≤ 1000000)
    (hno : 2048 < s.size ∨ (s.size ≤ 2048 ∧ s.size < n1 + 3) ∨ (s.size ≤ 2048 ∧ n1 + 3 ≤ s.size ∧ ((s.extract n1 (n1 + 3)).toList == ([58, 47, 47] : List UInt8)) = false)) (w : World) :
    Calls Tryz.prog 6 #[.string s] w fun e w' => e = .returned (.tuple #[zeroA, .int .i64 150]) ∧ Below w.heap.size w w' := by
  unfold zeroA
  rcases hno with h | ⟨h, h2⟩ | ⟨h, h2, h3⟩
  all_goals
    go_enter Tryz.func6, Tryz.ntmps6
    go_wp2_with fail
    refine (H1.out _).mono ?_; rintro e w1 ⟨rfl, rfl⟩
    go_wp2_with fail
    refine bodyPost_ret (v := .tuple #[.agg #[.string ⟨#[]⟩, .string ⟨#[]⟩, .string ⟨#[]⟩, .string ⟨#[]⟩, .string ⟨#[]⟩, .string ⟨#[]⟩, .bool false, .bool false], .int .i64 150]) (by simp [results, Tryz.results6, go_sem, *]) rfl ⟨rfl, ?_⟩
    go_grown
end Go.Proofs.YtcocjmbhbddgiaaGreatDoor
