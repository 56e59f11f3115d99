/- The walks through the reference's mark and Int (provostref17). -/
import Derived.Test.YtcplgiimhedloaaDoorRn
set_option linter.unusedSimpArgs false
set_option linter.unusedVariables false
namespace Go.Proofs.YtcplgiimhedloaaDoor
open Go.RowKit
set_option maxRecDepth 100000 in
set_option maxHeartbeats 4000000 in
theorem rmark_any (s : ByteArray) (hs : s.size ≤ 1000000) (w : World) :
    Calls Tryd.prog 25 #[.string s] w fun e w' => e = .returned (.bool (markB s.data.toList)) ∧ w = w' := by
  have hm : markB s.data.toList = (s.toList == [46, 46, 46] || marksL.any (fun c => s.toList == [c])) := by
    rw [ByteArray.toList_eq]
    unfold markB
    congr 1
    match s.data.toList with
    | [] => decide
    | [c] =>
      show marksL.contains c = _
      rw [List.contains_eq_any_beq]
      congr 1
      funext x
      rw [Bool.eq_iff_iff]
      simp
    | _ :: _ :: _ => simp [marksL]
  generalize markB s.data.toList = r at *
  simp only [marksL, List.any_cons, List.any_nil, Bool.or_false] at hm
  have HM := Lib.hid hm
  clear hm
  have e0 : ((⟨#[33, 36, 38, 40, 41, 58, 61, 64, 91, 93, 123, 124, 125]⟩ : ByteArray).extract 0 1) = ⟨#[33]⟩ := by decide +kernel
  have e1 : ((⟨#[33, 36, 38, 40, 41, 58, 61, 64, 91, 93, 123, 124, 125]⟩ : ByteArray).extract 1 2) = ⟨#[36]⟩ := by decide +kernel
  have e2 : ((⟨#[33, 36, 38, 40, 41, 58, 61, 64, 91, 93, 123, 124, 125]⟩ : ByteArray).extract 2 3) = ⟨#[38]⟩ := by decide +kernel
  have e3 : ((⟨#[33, 36, 38, 40, 41, 58, 61, 64, 91, 93, 123, 124, 125]⟩ : ByteArray).extract 3 4) = ⟨#[40]⟩ := by decide +kernel
  have e4 : ((⟨#[33, 36, 38, 40, 41, 58, 61, 64, 91, 93, 123, 124, 125]⟩ : ByteArray).extract 4 5) = ⟨#[41]⟩ := by decide +kernel
  have e5 : ((⟨#[33, 36, 38, 40, 41, 58, 61, 64, 91, 93, 123, 124, 125]⟩ : ByteArray).extract 5 6) = ⟨#[58]⟩ := by decide +kernel
  have e6 : ((⟨#[33, 36, 38, 40, 41, 58, 61, 64, 91, 93, 123, 124, 125]⟩ : ByteArray).extract 6 7) = ⟨#[61]⟩ := by decide +kernel
  have e7 : ((⟨#[33, 36, 38, 40, 41, 58, 61, 64, 91, 93, 123, 124, 125]⟩ : ByteArray).extract 7 8) = ⟨#[64]⟩ := by decide +kernel
  have e8 : ((⟨#[33, 36, 38, 40, 41, 58, 61, 64, 91, 93, 123, 124, 125]⟩ : ByteArray).extract 8 9) = ⟨#[91]⟩ := by decide +kernel
  have e9 : ((⟨#[33, 36, 38, 40, 41, 58, 61, 64, 91, 93, 123, 124, 125]⟩ : ByteArray).extract 9 10) = ⟨#[93]⟩ := by decide +kernel
  have e10 : ((⟨#[33, 36, 38, 40, 41, 58, 61, 64, 91, 93, 123, 124, 125]⟩ : ByteArray).extract 10 11) = ⟨#[123]⟩ := by decide +kernel
  have e11 : ((⟨#[33, 36, 38, 40, 41, 58, 61, 64, 91, 93, 123, 124, 125]⟩ : ByteArray).extract 11 12) = ⟨#[124]⟩ := by decide +kernel
  have e12 : ((⟨#[33, 36, 38, 40, 41, 58, 61, 64, 91, 93, 123, 124, 125]⟩ : ByteArray).extract 12 13) = ⟨#[125]⟩ := by decide +kernel
  go_enter Tryd.func25, Tryd.ntmps25
  go_wp2_with fail
  refine wp_loop_rounds 14 ?_
  repeat any_goals (rw [rounds_succ]; go_wp2)
  all_goals
    go_ret
    refine ⟨ret_b ?_, rfl⟩
    have hm := HM.out
    clear HM
    rw [hm]
    clear hm
    simp_all
end Go.Proofs.YtcplgiimhedloaaDoor
