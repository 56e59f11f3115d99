/- The walks through alive (provostlaw15). -/
import Derived.Test.YtcocjmbhbddgiaaGreatDoorBg
set_option linter.unusedSimpArgs false
set_option linter.unusedVariables false
namespace Go.Proofs.YtcocjmbhbddgiaaGreatDoor
open Go.RowKit
theorem parse_does (s : ByteArray) (hs : s.size ≤ 100000) {v : Value} (h : parseV s.data.toList = v) : Does 5 #[.string s] v := fun w => by
  rw [← h]; exact parse_any s hs w
theorem canon_does (s : ByteArray) (hs : s.size ≤ 100000) {v : Value} (h : canonV s.data.toList = v) : Does 7 #[.string s] v := fun w => by
  rw [← h]; exact canon_any s hs w
set_option maxRecDepth 100000 in
theorem alive_any (w : World) : Calls Tryz.prog 9 #[] w fun e w' => e = .returned (.bool true) ∧ Below w.heap.size w w' := by
  have HC : Hid (Does 7 #[.string ⟨#[72, 84, 84, 80, 58, 47, 47, 69, 120, 37, 52, 49, 109, 112, 108, 101, 46, 99, 111, 109, 58, 47, 37, 55, 101, 97, 63, 98, 61, 37, 50, 102]⟩] (.tuple #[.string ⟨#[104, 116, 116, 112, 58, 47, 47, 101, 120, 97, 109, 112, 108, 101, 46, 99, 111, 109, 47, 126, 97, 63, 98, 61, 37, 50, 70]⟩, .int .i64 0])) := Lib.hid (canon_does _ (by decide) (by kernel_rfl))
  have HT : Hid (∀ w, Calls Tryz.prog 24 #[.string ⟨#[72, 84, 84, 80, 58, 47, 47, 69, 120, 37, 52, 49, 109, 112, 108, 101, 46, 99, 111, 109, 58, 47, 37, 55, 101, 97, 63, 98, 61, 37, 50, 102]⟩, .agg #[.string ⟨#[72, 84, 84, 80]⟩, .string ⟨#[]⟩, .string ⟨#[69, 120, 37, 52, 49, 109, 112, 108, 101, 46, 99, 111, 109]⟩, .string ⟨#[]⟩, .string ⟨#[47, 37, 55, 101, 97]⟩, .string ⟨#[98, 61, 37, 50, 102]⟩, .bool false, .bool true]] w fun e w' => e = .returned (.bool true) ∧ Below w.heap.size w w') := Lib.hid (fun w => tells_yes ⟨#[72, 84, 84, 80, 58, 47, 47, 69, 120, 37, 52, 49, 109, 112, 108, 101, 46, 99, 111, 109, 58, 47, 37, 55, 101, 97, 63, 98, 61, 37, 50, 102]⟩ ⟨#[72, 84, 84, 80]⟩ ⟨#[]⟩ ⟨#[69, 120, 37, 52, 49, 109, 112, 108, 101, 46, 99, 111, 109]⟩ ⟨#[]⟩ ⟨#[47, 37, 55, 101, 97]⟩ ⟨#[98, 61, 37, 50, 102]⟩ false true (Lib.hid (parse_does _ (by decide) (by kernel_rfl))) w)
  go_enter Tryz.func9, Tryz.ntmps9
  go_wp2_with fail
  refine (HC.out _).mono ?_; rintro e w1 ⟨rfl, hb1⟩
  go_wp2_with fail
  refine (HT.out _).mono ?_; rintro e w2 ⟨rfl, hb2⟩
  have hfin := hb1.trans (hb2.mono hb1.size)
  go_wp2_with fail
  go_ret
  exact ⟨rfl, hfin⟩
end Go.Proofs.YtcocjmbhbddgiaaGreatDoor
