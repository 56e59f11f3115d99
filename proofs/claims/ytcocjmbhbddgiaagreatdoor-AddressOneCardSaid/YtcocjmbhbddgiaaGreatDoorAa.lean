/- The walks through the reference's bytes (provostref15: letter, digit, among, value, free). -/
import Derived.Test.YtcocjmbhbddgiaaGreatDoorAp
import Derived.Test.YtcocjmbhbddgiaaGreatDoorRows
import Derived.WalkKit
import Derived.WalkSpells
import Derived.Handy
import Derived.Lib.Hide
import Derived.Deep.Light
import Derived.Outline
set_option linter.unusedSimpArgs false
set_option linter.unusedVariables false
namespace Go.Proofs.YtcocjmbhbddgiaaGreatDoor
open Go.RowKit
theorem ret_i {k : IntKind} {a c : Int} (h : a = c) : Ending.returned (.int k a) = .returned (.int k c) := by rw [h]
theorem letter_any (c : UInt8) (w : World) :
    Calls Tryz.prog 63 #[.int .u8 (c.toNat : Int)] w fun e w' => e = .returned (.bool (isLet c)) ∧ w = w' := by
  have hb : c.toNat < 256 := c.toNat_lt
  have hx : isLet c = decide ((97 ≤ c.toNat ∧ c.toNat ≤ 122) ∨ (65 ≤ c.toNat ∧ c.toNat ≤ 90)) := rfl
  generalize isLet c = r at *
  generalize c.toNat = n at *
  have HX := Lib.hid hx
  clear hx
  go_enter Tryz.func63, Tryz.ntmps63
  go_wp2
  all_goals
    go_ret
    refine ⟨ret1 ?_, rfl⟩
    have hx := HX.out
    go_light
    rw [hx, Bool.eq_iff_iff]
    (try simp at *) <;> omega
theorem digit_any (c : UInt8) (w : World) :
    Calls Tryz.prog 64 #[.int .u8 (c.toNat : Int)] w fun e w' => e = .returned (.bool (isDig c)) ∧ w = w' := by
  have hb : c.toNat < 256 := c.toNat_lt
  have hx : isDig c = decide (48 ≤ c.toNat ∧ c.toNat ≤ 57) := rfl
  generalize isDig c = r at *
  generalize c.toNat = n at *
  have HX := Lib.hid hx
  clear hx
  go_enter Tryz.func64, Tryz.ntmps64
  go_wp2
  all_goals
    go_ret
    refine ⟨ret1 ?_, rfl⟩
    have hx := HX.out
    go_light
    rw [hx, Bool.eq_iff_iff]
    (try simp at *) <;> omega
theorem among_any (c : UInt8) (s : ByteArray) (hs : s.size ≤ maxLen) (w : World) :
    Calls Tryz.prog 36 #[.int .u8 (c.toNat : Int), .string s] w fun e w' => e = .returned (.bool (s.data.toList.contains c)) ∧ w = w' := by
  unfold maxLen at hs
  obtain ⟨r, hr⟩ : ∃ r, s.data.toList.contains c = r := ⟨_, rfl⟩
  have HR := Lib.hid hr
  rw [hr]
  clear hr
  go_enter Tryz.func36, Tryz.ntmps36
  go_wp2_with fail
  go_loop [5] (fun i => ∃ k : Nat, k ≤ s.size ∧ i = .int .i64 k ∧ Hid (¬ c ∈ s.data.toList.take k)) (fun i => s.size - (intOf i).toNat)
  case atStart => exact ⟨0, Nat.zero_le _, rfl, Lib.hid (by simp)⟩
  case round =>
    obtain ⟨k, hk, rfl, HK⟩ := hrel
    by_cases hlt : k < s.size
    · by_cases hc : s[k] = c
      · have hq : ((s[k].toNat : Int) == (c.toNat : Int)) = true := by rw [hc]; simp
        have HC : Hid (true = r) := Lib.hid (by
          rw [← HR.out, eq_comm, List.contains_iff_mem, ← hc]
          rw [show s[k] = s.data.toList[k]'(by simpa using hlt) from by simp; rfl]
          exact List.getElem_mem _)
        clear hc
        go_wp2_with fail
        go_ret
        exact ⟨ret1 HC.out, rfl⟩
      · have hq : ((s[k].toNat : Int) == (c.toNat : Int)) = false := by
          rw [beq_eq_false_iff_ne]; intro e
          exact hc (UInt8.toNat_inj.1 (by omega))
        have HK2 : Hid (¬ c ∈ s.data.toList.take (k + 1)) := Lib.hid (by
          rw [take_snoc s k hlt, List.mem_append, List.mem_singleton]
          rintro (h | h)
          · exact HK.out h
          · exact hc h.symm)
        clear hc
        go_wp2_with fail
        go_round
        case rel => exact ⟨k + 1, by omega, by go_num, HK2⟩
        case measure => simp [intOf]; omega
    · have HC : Hid (false = r) := Lib.hid (by
        rw [← HR.out, eq_comm, Bool.eq_false_iff]
        intro q
        rw [List.contains_iff_mem] at q
        have := HK.out
        rw [List.take_of_length_le (by rw [Array.length_toList]; exact Nat.le_of_not_lt hlt)] at this
        exact this q)
      go_wp2_with fail
      go_ret
      exact ⟨ret1 HC.out, rfl⟩
set_option maxRecDepth 100000 in
set_option maxHeartbeats 4000000 in
theorem value_any (c : UInt8) (w : World) :
    Calls Tryz.prog 76 #[.int .u8 (c.toNat : Int)] w fun e w' => e = .returned (.int .i64 (hexI c.toNat)) ∧ w = w' := by
  have hb : c.toNat < 256 := c.toNat_lt
  obtain ⟨r, hr⟩ : ∃ r, hexI c.toNat = r := ⟨_, rfl⟩
  have HR := Lib.hid hr
  rw [hr]
  clear hr
  generalize c.toNat = n at *
  have x0 : ((⟨#[48, 49, 50, 51, 52, 53, 54, 55, 56, 57, 65, 66, 67, 68, 69, 70]⟩ : ByteArray)[0]).toNat = 48 := rfl
  have x1 : ((⟨#[48, 49, 50, 51, 52, 53, 54, 55, 56, 57, 65, 66, 67, 68, 69, 70]⟩ : ByteArray)[1]).toNat = 49 := rfl
  have x2 : ((⟨#[48, 49, 50, 51, 52, 53, 54, 55, 56, 57, 65, 66, 67, 68, 69, 70]⟩ : ByteArray)[2]).toNat = 50 := rfl
  have x3 : ((⟨#[48, 49, 50, 51, 52, 53, 54, 55, 56, 57, 65, 66, 67, 68, 69, 70]⟩ : ByteArray)[3]).toNat = 51 := rfl
  have x4 : ((⟨#[48, 49, 50, 51, 52, 53, 54, 55, 56, 57, 65, 66, 67, 68, 69, 70]⟩ : ByteArray)[4]).toNat = 52 := rfl
  have x5 : ((⟨#[48, 49, 50, 51, 52, 53, 54, 55, 56, 57, 65, 66, 67, 68, 69, 70]⟩ : ByteArray)[5]).toNat = 53 := rfl
  have x6 : ((⟨#[48, 49, 50, 51, 52, 53, 54, 55, 56, 57, 65, 66, 67, 68, 69, 70]⟩ : ByteArray)[6]).toNat = 54 := rfl
  have x7 : ((⟨#[48, 49, 50, 51, 52, 53, 54, 55, 56, 57, 65, 66, 67, 68, 69, 70]⟩ : ByteArray)[7]).toNat = 55 := rfl
  have x8 : ((⟨#[48, 49, 50, 51, 52, 53, 54, 55, 56, 57, 65, 66, 67, 68, 69, 70]⟩ : ByteArray)[8]).toNat = 56 := rfl
  have x9 : ((⟨#[48, 49, 50, 51, 52, 53, 54, 55, 56, 57, 65, 66, 67, 68, 69, 70]⟩ : ByteArray)[9]).toNat = 57 := rfl
  have x10 : ((⟨#[48, 49, 50, 51, 52, 53, 54, 55, 56, 57, 65, 66, 67, 68, 69, 70]⟩ : ByteArray)[10]).toNat = 65 := rfl
  have x11 : ((⟨#[48, 49, 50, 51, 52, 53, 54, 55, 56, 57, 65, 66, 67, 68, 69, 70]⟩ : ByteArray)[11]).toNat = 66 := rfl
  have x12 : ((⟨#[48, 49, 50, 51, 52, 53, 54, 55, 56, 57, 65, 66, 67, 68, 69, 70]⟩ : ByteArray)[12]).toNat = 67 := rfl
  have x13 : ((⟨#[48, 49, 50, 51, 52, 53, 54, 55, 56, 57, 65, 66, 67, 68, 69, 70]⟩ : ByteArray)[13]).toNat = 68 := rfl
  have x14 : ((⟨#[48, 49, 50, 51, 52, 53, 54, 55, 56, 57, 65, 66, 67, 68, 69, 70]⟩ : ByteArray)[14]).toNat = 69 := rfl
  have x15 : ((⟨#[48, 49, 50, 51, 52, 53, 54, 55, 56, 57, 65, 66, 67, 68, 69, 70]⟩ : ByteArray)[15]).toNat = 70 := rfl
  go_enter Tryz.func76, Tryz.ntmps76
  go_wp2_with fail
  refine wp_loop_rounds 17 ?_
  repeat any_goals (rw [rounds_succ]; go_wp2)
  all_goals
    go_ret
    refine ⟨ret_i ?_, rfl⟩
    have hx := HR.out
    rw [← hx]
    clear hx HR x0 x1 x2 x3 x4 x5 x6 x7 x8 x9 x10 x11 x12 x13 x14 x15
    (try simp only [beq_eq_false_iff_ne, beq_iff_eq, ne_eq] at *)
    unfold hexI
    repeat' split
    all_goals omega
end Go.Proofs.YtcocjmbhbddgiaaGreatDoor
