/- A Decimal's text, whole (money: Text). -/
import Derived.Test.YtgljbhbpjobnbaaDoorMm
set_option linter.unusedSimpArgs false
set_option linter.unusedVariables false
namespace Go.Proofs.YtgljbhbpjobnbaaDoor
open Go.RowKit
def tx (m s : Int) : List UInt8 := if may m s then txt m s.toNat else []
theorem ext_mk (l : List UInt8) (a b : Nat) : (⟨l.toArray⟩ : ByteArray).extract a b = ⟨((l.drop a).take (b - a)).toArray⟩ :=
  bytes_ext (Lib.extract_data _ _ _)
theorem cat3 (a b c : List UInt8) : (⟨a.toArray⟩ ++ ⟨b.toArray⟩ ++ ⟨c.toArray⟩ : ByteArray) = ⟨(a ++ b ++ c).toArray⟩ := by rw [cat, cat]
theorem mtext_any (m s : Int) (hm : R m) (hs : R s) (w : World) (he : EnvT w) :
    Calls Tryd.prog 4 #[.agg #[.int .i64 m, .int .i64 s]] w fun e w' => e = .returned (.tuple #[.string ⟨(tx m s).toArray⟩, .int .i64 (chk m s)]) ∧ Below w.heap.size w w' := by
  cases h : may m s with
  | false =>
    have e1 : tx m s = [] := by unfold tx; rw [h]; rfl
    have e2 : chk m s = 140 := by unfold chk; rw [h]; rfl
    rw [e1, e2]
    exact mtext_bad m s hm hs h w
  | true =>
    have e1 : tx m s = txt m s.toNat := by unfold tx; rw [h]; rfl
    have e2 : chk m s = 0 := by unfold chk; rw [h]; rfl
    have H := Lib.hid (fun w => mcheck_any m s hm hs w)
    rw [e2] at H
    rw [e1, e2]
    obtain ⟨s0, s1⟩ := may_bd h
    obtain ⟨j, rfl⟩ := Int.eq_ofNat_of_zero_le s0
    rw [Int.toNat_natCast]
    have HW := Lib.hid (fun w he => write_tab m hm w he)
    obtain ⟨p1, p2⟩ := itoa_parts m
    have hL := dec_le m hm
    have hL1 := dec_pos m.natAbs
    have HC := Lib.hid (fun w => cut_dash ⟨(Lib.itoa m).toArray⟩ ⟨(Lib.decDigits m.natAbs).toArray⟩ _ p2.symm p1 w)
    have hpad : pad m j = List.replicate (j + 1 - (Lib.decDigits m.natAbs).length) 48 ++ Lib.decDigits m.natAbs := rfl
    have htxt : txt m j = (if m < 0 then [45] else []) ++ (if j = 0 then pad m j else (pad m j).take ((pad m j).length - j) ++ 46 :: (pad m j).drop ((pad m j).length - j)) := rfl
    have hpl := pad_len m j
    generalize Lib.decDigits m.natAbs = d at *
    generalize pad m j = pd at *
    have hds : (⟨d.toArray⟩ : ByteArray).size = d.length := size_mk d
    by_cases hv : j + 1 ≤ d.length
    · -- no noughts ahead
      have HZ := Lib.hid (fun w => repeat0_any 0 (by omega) w)
      have hz0 : (⟨(List.replicate 0 (48 : UInt8)).toArray⟩ : ByteArray).size = 0 := rfl
      have hpd : pd = d := by rw [hpad, show j + 1 - d.length = 0 by omega]; rfl
      have hc : (⟨(List.replicate 0 (48 : UInt8)).toArray⟩ ++ ⟨d.toArray⟩ : ByteArray) = ⟨d.toArray⟩ := by rw [cat]; rfl
      by_cases hj : j = 0
      · subst hj
        rw [if_pos rfl, hpd] at htxt
        by_cases hn : m < 0
        · rw [decide_eq_true hn] at HC
          rw [if_pos hn] at htxt
          exact mtext_0n m _ _ _ _ w H HW HC HZ he (by omega) hz0 (by omega) rfl _ (Lib.hid (by rw [hc, htxt]; exact cat [45] d))
        · rw [decide_eq_false hn] at HC
          rw [if_neg hn] at htxt
          exact mtext_0p m _ _ _ _ w H HW HC HZ he (by omega) hz0 (by omega) rfl _ (Lib.hid (by rw [hc, htxt]; rfl))
      · rw [if_neg hj, hpd] at htxt
        by_cases hn : m < 0
        · rw [decide_eq_true hn] at HC
          rw [if_pos hn] at htxt
          refine mtext_2n m _ _ _ _ w H HW HC HZ he (by omega) hz0 (by omega) (by omega) s1 (d.length - j) (by rw [hz0, hds]; omega) (by rw [hz0, hds]; omega) _ (Lib.hid ?_)
          rw [hc, hz0, hds, ext_mk, ext_mk, htxt, show (⟨#[46]⟩ : ByteArray) = ⟨[46].toArray⟩ from rfl, cat3, show (⟨#[45]⟩ : ByteArray) = ⟨[45].toArray⟩ from rfl, cat]
          congr 2
          rw [List.drop_zero, Nat.sub_zero, List.take_of_length_le (l := List.drop (d.length - j) d) (by rw [List.length_drop]; omega)]
          simp
        · rw [decide_eq_false hn] at HC
          rw [if_neg hn] at htxt
          refine mtext_2p m _ _ _ _ w H HW HC HZ he (by omega) hz0 (by omega) (by omega) s1 (d.length - j) (by rw [hz0, hds]; omega) (by rw [hz0, hds]; omega) _ (Lib.hid ?_)
          rw [hc, hz0, hds, ext_mk, ext_mk, htxt, show (⟨#[46]⟩ : ByteArray) = ⟨[46].toArray⟩ from rfl, cat3]
          congr 2
          rw [List.drop_zero, Nat.sub_zero, List.take_of_length_le (l := List.drop (d.length - j) d) (by rw [List.length_drop]; omega)]
          simp
    · have hj : ¬ j = 0 := by omega
      have HZ := Lib.hid (fun w => repeat0_any (j + 1 - d.length) (by omega) w)
      have hzs : (⟨(List.replicate (j + 1 - d.length) (48 : UInt8)).toArray⟩ : ByteArray).size = j + 1 - d.length := by rw [size_mk, List.length_replicate]
      have hc : (⟨(List.replicate (j + 1 - d.length) (48 : UInt8)).toArray⟩ ++ ⟨d.toArray⟩ : ByteArray) = ⟨pd.toArray⟩ := by rw [cat, hpad]
      have hpl' : pd.length = j + 1 := by rw [hpl, if_pos (by omega)]
      rw [if_neg hj, hpl', show j + 1 - j = 1 by omega] at htxt
      by_cases hn : m < 0
      · rw [decide_eq_true hn] at HC
        rw [if_pos hn] at htxt
        refine mtext_1n m _ _ _ _ (j + 1 - d.length) w H HW HC HZ he (by omega) (by omega) (by omega) (by omega) (by omega) s1 1 (by rw [hzs, hds]; omega) (by rw [hzs, hds]; omega) _ (Lib.hid ?_)
        rw [hc, hzs, hds, ext_mk, ext_mk, htxt, show (⟨#[46]⟩ : ByteArray) = ⟨[46].toArray⟩ from rfl, cat3, show (⟨#[45]⟩ : ByteArray) = ⟨[45].toArray⟩ from rfl, cat]
        congr 2
        rw [List.drop_zero, List.take_of_length_le (l := List.drop 1 pd) (by rw [List.length_drop]; omega)]
        simp
      · rw [decide_eq_false hn] at HC
        rw [if_neg hn] at htxt
        refine mtext_1p m _ _ _ _ (j + 1 - d.length) w H HW HC HZ he (by omega) (by omega) (by omega) (by omega) (by omega) s1 1 (by rw [hzs, hds]; omega) (by rw [hzs, hds]; omega) _ (Lib.hid ?_)
        rw [hc, hzs, hds, ext_mk, ext_mk, htxt, show (⟨#[46]⟩ : ByteArray) = ⟨[46].toArray⟩ from rfl, cat3]
        congr 2
        rw [List.drop_zero, List.take_of_length_le (l := List.drop 1 pd) (by rw [List.length_drop]; omega)]
        simp
end Go.Proofs.YtgljbhbpjobnbaaDoor
