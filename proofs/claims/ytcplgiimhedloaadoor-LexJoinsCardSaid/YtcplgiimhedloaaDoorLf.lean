/- The walks through the program's Quote (json) and the reference's Tell (provostref17). -/
import Derived.Test.YtcplgiimhedloaaDoorLe
import Derived.Test.YtcplgiimhedloaaDoorLq
set_option linter.unusedSimpArgs false
set_option linter.unusedVariables false
namespace Go.Proofs.YtcplgiimhedloaaDoor
open Go.RowKit
set_option maxRecDepth 100000 in
theorem jquote_any (x : ByteArray) (hx : x.size ≤ 100000) (w : World) (hE : EnvU w) :
    Calls Tryd.prog 10 #[.string x] w fun e w' => e = .returned (if chkE x.data.toList = 0 then .tuple #[.string ⟨(quoteL x.data.toList).toArray⟩, .int .i64 0] else .tuple #[.string ⟨#[]⟩, .int .i64 (chkE x.data.toList)]) ∧ Below w.heap.size w w' := by
  have H1 := Lib.hid (fun V (hb : Below w.heap.size w V) => tcheck_any x (by omega) V (hE.below hb))
  have H2 := Lib.hid (fun w => quote_any x hx w)
  have hc : chkE x.data.toList = 0 ∨ chkE x.data.toList = 4 ∨ chkE x.data.toList = 10 := by
    unfold chkE
    by_cases q : 16384 < x.data.toList.length
    · rw [if_pos q]; right; left; rfl
    · rw [if_neg q]
      cases Lib.validD x.data.toList
      · right; right; rfl
      · left; rfl
  clear hE
  generalize chkE x.data.toList = c at *
  generalize (⟨(quoteL x.data.toList).toArray⟩ : ByteArray) = q at *
  rcases hc with rfl | rfl | rfl
  · go_enter Tryd.func10, Tryd.ntmps10
    go_wp2_with fail
    refine (H1.out _ (Below.refl _ _)).mono ?_; rintro e w1 ⟨rfl, hb⟩
    have HW := Lib.hid hb
    have hsz := hb.size
    clear hb
    go_wp2_with fail
    refine (H2.out _).mono ?_; rintro e w2 ⟨rfl, hb⟩
    have HW2 := Lib.hid (HW.out.trans (hb.mono hsz))
    clear hb
    go_wp2_with fail
    go_ret2
    exact ⟨rfl, HW2.out⟩
  all_goals
    go_enter Tryd.func10, Tryd.ntmps10
    go_wp2_with fail
    refine (H1.out _ (Below.refl _ _)).mono ?_; rintro e w1 ⟨rfl, hb⟩
    have HW := Lib.hid hb
    clear hb
    go_wp2_with fail
    go_ret2
    exact ⟨rfl, HW.out⟩
set_option maxRecDepth 100000 in
theorem rtell17_any (k : UInt8) (x : ByteArray) (p : Int) (hx : x.size ≤ 100000) (w : World) :
    Calls Tryd.prog 26 #[.agg #[.int .u8 (k.toNat : Int), .string x, .int .i64 p]] w fun e w' => e = .returned (.string ⟨(tellT ⟨k, x.data.toList, p⟩).toArray⟩) ∧ Below w.heap.size w w' := by
  have H2 := Lib.hid (fun w => rquoted_any x hx w)
  unfold tellT
  dsimp only
  by_cases k3 : k = 3
  · subst k3
    rw [if_pos rfl]
    generalize (⟨(quoteL x.data.toList).toArray⟩ : ByteArray) = q at *
    go_enter Tryd.func26, Tryd.ntmps26
    go_wp2_with fail
    refine (H2.out _).mono ?_; rintro e w1 ⟨rfl, hb⟩
    have HW : Below w.heap.size w w1 := ((Below.refl _ _).alloc (Nat.le_refl _) _).trans (hb.mono (by simp))
    clear hb
    go_wp2_with fail
    go_ret
    exact ⟨rfl, HW⟩
  · rw [if_neg k3]
    have ne : ((k.toNat : Int) == 3) = false := by
      rw [beq_eq_false_iff_ne]; intro e
      exact k3 (UInt8.toNat_inj.1 (by show k.toNat = 3; omega))
    have hxx : (⟨x.data.toList.toArray⟩ : ByteArray) = x := (bytes_ext' rfl).symm
    rw [hxx]
    clear hxx k3 H2
    generalize (k.toNat : Int) = n at *
    go_enter Tryd.func26, Tryd.ntmps26
    go_wp2_with fail
    go_ret
    exact ⟨rfl, (Below.refl _ _).alloc (Nat.le_refl _) _⟩
end Go.Proofs.YtcplgiimhedloaaDoor
