/- The walks through alive and the law AddressNames (provostlaw15). -/
import Derived.Test.YtcocjmbhbddgiaaDoorBg
set_option linter.unusedSimpArgs false
set_option linter.unusedVariables false
namespace Go.Proofs.YtcocjmbhbddgiaaDoor
open Go.RowKit
theorem parse_does (s : ByteArray) (hs : s.size ≤ 100000) {v : Value} (h : parseV s.data.toList = v) : Does 13 #[.string s] v := fun w => by
  rw [← h]; exact parse_any s hs w
theorem canon_does (s : ByteArray) (hs : s.size ≤ 100000) {v : Value} (h : canonV s.data.toList = v) : Does 22 #[.string s] v := fun w => by
  rw [← h]; exact canon_any s hs w
set_option maxRecDepth 100000 in
theorem alive_any (w : World) : Calls Tryd.prog 12 #[] w fun e w' => e = .returned (.bool true) ∧ Below w.heap.size w w' := by
  have HC : Hid (Does 22 #[.string ⟨#[72, 84, 84, 80, 58, 47, 47, 69, 120, 37, 52, 49, 109, 112, 108, 101, 46, 99, 111, 109, 58, 47, 37, 55, 101, 97, 63, 98, 61, 37, 50, 102]⟩] (.tuple #[.string ⟨#[104, 116, 116, 112, 58, 47, 47, 101, 120, 97, 109, 112, 108, 101, 46, 99, 111, 109, 47, 126, 97, 63, 98, 61, 37, 50, 70]⟩, .int .i64 0])) := Lib.hid (canon_does _ (by decide) (by kernel_rfl))
  have HT : Hid (∀ w, Calls Tryd.prog 10 #[.string ⟨#[72, 84, 84, 80, 58, 47, 47, 69, 120, 37, 52, 49, 109, 112, 108, 101, 46, 99, 111, 109, 58, 47, 37, 55, 101, 97, 63, 98, 61, 37, 50, 102]⟩, .agg #[.string ⟨#[72, 84, 84, 80]⟩, .string ⟨#[]⟩, .string ⟨#[69, 120, 37, 52, 49, 109, 112, 108, 101, 46, 99, 111, 109]⟩, .string ⟨#[]⟩, .string ⟨#[47, 37, 55, 101, 97]⟩, .string ⟨#[98, 61, 37, 50, 102]⟩, .bool false, .bool true]] w fun e w' => e = .returned (.bool true) ∧ Below w.heap.size w w') := Lib.hid (fun w => tells_yes ⟨#[72, 84, 84, 80, 58, 47, 47, 69, 120, 37, 52, 49, 109, 112, 108, 101, 46, 99, 111, 109, 58, 47, 37, 55, 101, 97, 63, 98, 61, 37, 50, 102]⟩ ⟨#[72, 84, 84, 80]⟩ ⟨#[]⟩ ⟨#[69, 120, 37, 52, 49, 109, 112, 108, 101, 46, 99, 111, 109]⟩ ⟨#[]⟩ ⟨#[47, 37, 55, 101, 97]⟩ ⟨#[98, 61, 37, 50, 102]⟩ false true (Lib.hid (parse_does _ (by decide) (by kernel_rfl))) w)
  go_enter Tryd.func12, Tryd.ntmps12
  go_wp2_with fail
  refine (HC.out _).mono ?_; rintro e w1 ⟨rfl, hb1⟩
  go_wp2_with fail
  refine (HT.out _).mono ?_; rintro e w2 ⟨rfl, hb2⟩
  have hfin := hb1.trans (hb2.mono hb1.size)
  go_wp2_with fail
  go_ret
  exact ⟨rfl, hfin⟩
set_option maxRecDepth 100000 in
set_option maxHeartbeats 1000000 in
theorem names_walk (w : World) : Calls Tryd.prog 4 #[] w fun e w' => e = .returned (.bool true) ∧ Below w.heap.size w w' := by
  have T0 : Hid (∀ w, Calls Tryd.prog 10 #[.string ⟨#[97, 58, 47, 47, 117, 58, 112, 64, 104, 58, 56, 48]⟩, .agg #[.string ⟨#[97]⟩, .string ⟨#[117, 58, 112]⟩, .string ⟨#[104]⟩, .string ⟨#[56, 48]⟩, .string ⟨#[]⟩, .string ⟨#[]⟩, .bool true, .bool false]] w fun e w' => e = .returned (.bool true) ∧ Below w.heap.size w w') := Lib.hid (fun w => tells_yes ⟨#[97, 58, 47, 47, 117, 58, 112, 64, 104, 58, 56, 48]⟩ ⟨#[97]⟩ ⟨#[117, 58, 112]⟩ ⟨#[104]⟩ ⟨#[56, 48]⟩ ⟨#[]⟩ ⟨#[]⟩ true false (Lib.hid (parse_does _ (by decide) (by kernel_rfl))) w)
  have T1 : Hid (∀ w, Calls Tryd.prog 10 #[.string ⟨#[102, 105, 108, 101, 58, 47, 47, 47, 120]⟩, .agg #[.string ⟨#[102, 105, 108, 101]⟩, .string ⟨#[]⟩, .string ⟨#[]⟩, .string ⟨#[]⟩, .string ⟨#[47, 120]⟩, .string ⟨#[]⟩, .bool false, .bool false]] w fun e w' => e = .returned (.bool true) ∧ Below w.heap.size w w') := Lib.hid (fun w => tells_yes ⟨#[102, 105, 108, 101, 58, 47, 47, 47, 120]⟩ ⟨#[102, 105, 108, 101]⟩ ⟨#[]⟩ ⟨#[]⟩ ⟨#[]⟩ ⟨#[47, 120]⟩ ⟨#[]⟩ false false (Lib.hid (parse_does _ (by decide) (by kernel_rfl))) w)
  have T2 : Hid (∀ w, Calls Tryd.prog 10 #[.string ⟨#[120, 58, 47, 47]⟩, .agg #[.string ⟨#[120]⟩, .string ⟨#[]⟩, .string ⟨#[]⟩, .string ⟨#[]⟩, .string ⟨#[]⟩, .string ⟨#[]⟩, .bool false, .bool false]] w fun e w' => e = .returned (.bool true) ∧ Below w.heap.size w w') := Lib.hid (fun w => tells_yes ⟨#[120, 58, 47, 47]⟩ ⟨#[120]⟩ ⟨#[]⟩ ⟨#[]⟩ ⟨#[]⟩ ⟨#[]⟩ ⟨#[]⟩ false false (Lib.hid (parse_does _ (by decide) (by kernel_rfl))) w)
  have N0 : Hid (∀ w, Calls Tryd.prog 11 #[.string ⟨#[47, 47, 104]⟩] w fun e w' => e = .returned (.bool true) ∧ Below w.heap.size w w') := Lib.hid (fun w => none_yes ⟨#[47, 47, 104]⟩ (Lib.hid (parse_does _ (by decide) (by kernel_rfl))) w)
  have N1 : Hid (∀ w, Calls Tryd.prog 11 #[.string ⟨#[49, 97, 58, 47, 47, 104]⟩] w fun e w' => e = .returned (.bool true) ∧ Below w.heap.size w w') := Lib.hid (fun w => none_yes ⟨#[49, 97, 58, 47, 47, 104]⟩ (Lib.hid (parse_does _ (by decide) (by kernel_rfl))) w)
  have N2 : Hid (∀ w, Calls Tryd.prog 11 #[.string ⟨#[97, 58, 98]⟩] w fun e w' => e = .returned (.bool true) ∧ Below w.heap.size w w') := Lib.hid (fun w => none_yes ⟨#[97, 58, 98]⟩ (Lib.hid (parse_does _ (by decide) (by kernel_rfl))) w)
  have N3 : Hid (∀ w, Calls Tryd.prog 11 #[.string ⟨#[97, 58, 47, 47, 104, 47, 35, 102]⟩] w fun e w' => e = .returned (.bool true) ∧ Below w.heap.size w w') := Lib.hid (fun w => none_yes ⟨#[97, 58, 47, 47, 104, 47, 35, 102]⟩ (Lib.hid (parse_does _ (by decide) (by kernel_rfl))) w)
  have N4 : Hid (∀ w, Calls Tryd.prog 11 #[.string ⟨#[97, 58, 47, 47, 91, 58, 58, 49, 93]⟩] w fun e w' => e = .returned (.bool true) ∧ Below w.heap.size w w') := Lib.hid (fun w => none_yes ⟨#[97, 58, 47, 47, 91, 58, 58, 49, 93]⟩ (Lib.hid (parse_does _ (by decide) (by kernel_rfl))) w)
  have N5 : Hid (∀ w, Calls Tryd.prog 11 #[.string ⟨#[97, 58, 47, 47, 104, 58, 56, 120]⟩] w fun e w' => e = .returned (.bool true) ∧ Below w.heap.size w w') := Lib.hid (fun w => none_yes ⟨#[97, 58, 47, 47, 104, 58, 56, 120]⟩ (Lib.hid (parse_does _ (by decide) (by kernel_rfl))) w)
  have N6 : Hid (∀ w, Calls Tryd.prog 11 #[.string ⟨#[97, 58, 47, 47, 37, 52]⟩] w fun e w' => e = .returned (.bool true) ∧ Below w.heap.size w w') := Lib.hid (fun w => none_yes ⟨#[97, 58, 47, 47, 37, 52]⟩ (Lib.hid (parse_does _ (by decide) (by kernel_rfl))) w)
  have N7 : Hid (∀ w, Calls Tryd.prog 11 #[.string ⟨#[]⟩] w fun e w' => e = .returned (.bool true) ∧ Below w.heap.size w w') := Lib.hid (fun w => none_yes ⟨#[]⟩ (Lib.hid (parse_does _ (by decide) (by kernel_rfl))) w)
  have AL := Lib.hid (fun w => alive_any w)
  have HW0 := Lib.hid (Below.refl w.heap.size w)
  go_enter Tryd.func4, Tryd.ntmps4
  go_wp2_with fail
  refine (T0.out _).mono ?_; rintro e w1 ⟨rfl, hb⟩
  have HW1 := Lib.hid (HW0.out.trans (hb.mono HW0.out.size))
  clear hb
  go_wp2_with fail
  refine (T1.out _).mono ?_; rintro e w2 ⟨rfl, hb⟩
  have HW2 := Lib.hid (HW1.out.trans (hb.mono HW1.out.size))
  clear hb
  go_wp2_with fail
  refine (T2.out _).mono ?_; rintro e w3 ⟨rfl, hb⟩
  have HW3 := Lib.hid (HW2.out.trans (hb.mono HW2.out.size))
  clear hb
  go_wp2_with fail
  refine (N0.out _).mono ?_; rintro e w4 ⟨rfl, hb⟩
  have HW4 := Lib.hid (HW3.out.trans (hb.mono HW3.out.size))
  clear hb
  go_wp2_with fail
  refine (N1.out _).mono ?_; rintro e w5 ⟨rfl, hb⟩
  have HW5 := Lib.hid (HW4.out.trans (hb.mono HW4.out.size))
  clear hb
  go_wp2_with fail
  refine (N2.out _).mono ?_; rintro e w6 ⟨rfl, hb⟩
  have HW6 := Lib.hid (HW5.out.trans (hb.mono HW5.out.size))
  clear hb
  go_wp2_with fail
  refine (N3.out _).mono ?_; rintro e w7 ⟨rfl, hb⟩
  have HW7 := Lib.hid (HW6.out.trans (hb.mono HW6.out.size))
  clear hb
  go_wp2_with fail
  refine (N4.out _).mono ?_; rintro e w8 ⟨rfl, hb⟩
  have HW8 := Lib.hid (HW7.out.trans (hb.mono HW7.out.size))
  clear hb
  go_wp2_with fail
  refine (N5.out _).mono ?_; rintro e w9 ⟨rfl, hb⟩
  have HW9 := Lib.hid (HW8.out.trans (hb.mono HW8.out.size))
  clear hb
  go_wp2_with fail
  refine (N6.out _).mono ?_; rintro e w10 ⟨rfl, hb⟩
  have HW10 := Lib.hid (HW9.out.trans (hb.mono HW9.out.size))
  clear hb
  go_wp2_with fail
  refine (N7.out _).mono ?_; rintro e w11 ⟨rfl, hb⟩
  have HW11 := Lib.hid (HW10.out.trans (hb.mono HW10.out.size))
  clear hb
  go_wp2_with fail
  refine (AL.out _).mono ?_; rintro e w12 ⟨rfl, hb⟩
  have HW12 := Lib.hid (HW11.out.trans (hb.mono HW11.out.size))
  clear hb
  go_wp2_with fail
  go_ret
  exact ⟨rfl, HW12.out⟩
end Go.Proofs.YtcocjmbhbddgiaaDoor
