/- The walks through the reference's May (provostref15). -/
import Derived.Test.YtcocjmbhbddgiaaGreatDoorAc
import Derived.Deep.DeepCutAuto
set_option linter.unusedSimpArgs false
set_option linter.unusedVariables false
namespace Go.Proofs.YtcocjmbhbddgiaaGreatDoor
open Go.RowKit
def oneL (sc us ho po pa qu : List UInt8) : Bool :=
  schemeB sc && madeB (mayB [58]) us && madeB (mayB []) ho && po.all isDig && madeB (mayB [58, 64, 47]) pa && madeB (mayB [58, 64, 47, 63]) qu
def twoL (us pa qu : List UInt8) (hu hq : Bool) : Bool := (pa.isEmpty || pa.head? == some 47) && (hu || us.isEmpty) && (hq || qu.isEmpty)
def mayL (sc us ho po pa qu : List UInt8) (hu hq : Bool) : Bool :=
  oneL sc us ho po pa qu && twoL us pa qu hu hq && decide ((tellL sc us ho po pa qu hu hq).length ≤ 2048)
theorem first_cases (pa : ByteArray) : (pa.size = 0 ∧ pa.toList = [] ∧ pa.toList.isEmpty = true ∧ pa.data.toList = []) ∨ (∃ h : 0 < pa.size, ¬ pa.toList = [] ∧ pa.toList.isEmpty = false ∧ pa.data.toList.isEmpty = false ∧ pa.data.toList.head? = some (pa[0]'h)) := by
  rcases empty_iff pa with ⟨p1, p2, p3, p4⟩ | h
  · right
    refine ⟨p1, p2, p3, p4, ?_⟩
    rw [List.head?_eq_getElem?, List.getElem?_eq_getElem (by rw [Array.length_toList]; exact p1)]
    rfl
  · left; exact h
theorem bcell {W w1 : World} (hb : Below W.heap.size W w1) : (∀ b o, b < W.heap.size → w1.cell? ⟨b, o, none⟩ = W.cell? ⟨b, o, none⟩) ∧ (∀ b o, b < W.heap.size → w1.frozen? ⟨b, o, none⟩ = W.frozen? ⟨b, o, none⟩) :=
  ⟨fun b o h => hb.cell (p := ⟨b, o, none⟩) h, fun b o h => hb.frozen (p := ⟨b, o, none⟩) h⟩
theorem tell_size (sc us ho po pa qu : List UInt8) (hu hq : Bool) : (⟨(tellL sc us ho po pa qu hu hq).toArray⟩ : ByteArray).size = (tellL sc us ho po pa qu hu hq).length := by
  change (tellL sc us ho po pa qu hu hq).toArray.size = _
  rw [List.size_toArray]
set_option maxRecDepth 100000 in
set_option maxHeartbeats 4000000 in
theorem rmay_any (sc us ho po pa qu : ByteArray) (hu hq : Bool) (h1 : sc.size ≤ 100000) (h2 : us.size ≤ 100000) (h3 : ho.size ≤ 100000) (h4 : po.size ≤ 100000) (h5 : pa.size ≤ 100000) (h6 : qu.size ≤ 100000) (w : World) :
    Calls Tryz.prog 17 #[.agg #[.string sc, .string us, .string ho, .string po, .string pa, .string qu, .bool hu, .bool hq]] w fun e w' => e = .returned (.bool (mayL sc.data.toList us.data.toList ho.data.toList po.data.toList pa.data.toList qu.data.toList hu hq)) ∧ Below w.heap.size w w' := by
  have H1 := Lib.hid (fun w => rscheme_any sc (by omega) w)
  have H2 := Lib.hid (fun w => rmadeB_any us ⟨#[58]⟩ (by omega) (by decide) w)
  have H3 := Lib.hid (fun w => rmadeB_any ho ⟨#[]⟩ (by omega) (by decide) w)
  have H4 := Lib.hid (fun w => rport_any po (by omega) w)
  have H5 := Lib.hid (fun w => rmadeB_any pa ⟨#[58, 64, 47]⟩ (by omega) (by decide) w)
  have H6 := Lib.hid (fun w => rmadeB_any qu ⟨#[58, 64, 47, 63]⟩ (by omega) (by decide) w)
  have H7 := Lib.hid (fun w => rtell_any sc us ho po pa qu hu hq (by omega) (by omega) (by omega) (by omega) (by omega) (by omega) w)
  rw [show (⟨#[58]⟩ : ByteArray).data.toList = [58] from rfl] at H2
  rw [show (⟨#[]⟩ : ByteArray).data.toList = [] from rfl] at H3
  rw [show (⟨#[58, 64, 47]⟩ : ByteArray).data.toList = [58, 64, 47] from rfl] at H5
  rw [show (⟨#[58, 64, 47, 63]⟩ : ByteArray).data.toList = [58, 64, 47, 63] from rfl] at H6
  obtain ⟨r, hr⟩ : ∃ r, mayL sc.data.toList us.data.toList ho.data.toList po.data.toList pa.data.toList qu.data.toList hu hq = r := ⟨_, rfl⟩
  have hT := tell_size sc.data.toList us.data.toList ho.data.toList po.data.toList pa.data.toList qu.data.toList hu hq
  rw [hr]
  unfold mayL oneL twoL at hr
  obtain ⟨tx, htx⟩ : ∃ t : ByteArray, (⟨(tellL sc.data.toList us.data.toList ho.data.toList po.data.toList pa.data.toList qu.data.toList hu hq).toArray⟩ : ByteArray) = t := ⟨_, rfl⟩
  rw [htx] at hT H7
  clear htx
  generalize (tellL sc.data.toList us.data.toList ho.data.toList po.data.toList pa.data.toList qu.data.toList hu hq).length = n at *
  generalize schemeB sc.data.toList = b1 at *
  generalize madeB (mayB [58]) us.data.toList = b2 at *
  generalize madeB (mayB []) ho.data.toList = b3 at *
  generalize po.data.toList.all isDig = b4 at *
  generalize madeB (mayB [58, 64, 47]) pa.data.toList = b5 at *
  generalize madeB (mayB [58, 64, 47, 63]) qu.data.toList = b6 at *
  subst hT
  have HR := Lib.hid hr
  clear hr
  go_enter Tryz.func17, Tryz.ntmps17
  go_upto_region 1 with fail
  go_cut [3] (fun s3 wx => s3 = .bool (b1 && b2 && b3 && b4 && b5 && b6) ∧ wx = w.alloc (.cells #[.string sc, .string us, .string ho, .string po, .string pa, .string qu, .bool hu, .bool hq] 23))
  case first =>
    cases b1
    · go_wp2_with fail
      refine (H1.out _).mono ?_; rintro e w1 ⟨rfl, rfl⟩
      go_wp2_with fail
      go_meet
      exact ⟨rfl, rfl⟩
    cases b2
    · go_wp2_with fail
      refine (H1.out _).mono ?_; rintro e w1 ⟨rfl, rfl⟩
      go_wp2_with fail
      refine (H2.out _).mono ?_; rintro e w1 ⟨rfl, rfl⟩
      go_wp2_with fail
      go_meet
      exact ⟨rfl, rfl⟩
    cases b3
    · go_wp2_with fail
      refine (H1.out _).mono ?_; rintro e w1 ⟨rfl, rfl⟩
      go_wp2_with fail
      refine (H2.out _).mono ?_; rintro e w1 ⟨rfl, rfl⟩
      go_wp2_with fail
      refine (H3.out _).mono ?_; rintro e w1 ⟨rfl, rfl⟩
      go_wp2_with fail
      go_meet
      exact ⟨rfl, rfl⟩
    cases b4
    · go_wp2_with fail
      refine (H1.out _).mono ?_; rintro e w1 ⟨rfl, rfl⟩
      go_wp2_with fail
      refine (H2.out _).mono ?_; rintro e w1 ⟨rfl, rfl⟩
      go_wp2_with fail
      refine (H3.out _).mono ?_; rintro e w1 ⟨rfl, rfl⟩
      go_wp2_with fail
      refine (H4.out _).mono ?_; rintro e w1 ⟨rfl, rfl⟩
      go_wp2_with fail
      go_meet
      exact ⟨rfl, rfl⟩
    cases b5
    · go_wp2_with fail
      refine (H1.out _).mono ?_; rintro e w1 ⟨rfl, rfl⟩
      go_wp2_with fail
      refine (H2.out _).mono ?_; rintro e w1 ⟨rfl, rfl⟩
      go_wp2_with fail
      refine (H3.out _).mono ?_; rintro e w1 ⟨rfl, rfl⟩
      go_wp2_with fail
      refine (H4.out _).mono ?_; rintro e w1 ⟨rfl, rfl⟩
      go_wp2_with fail
      refine (H5.out _).mono ?_; rintro e w1 ⟨rfl, rfl⟩
      go_wp2_with fail
      go_meet
      exact ⟨rfl, rfl⟩
    cases b6
    · go_wp2_with fail
      refine (H1.out _).mono ?_; rintro e w1 ⟨rfl, rfl⟩
      go_wp2_with fail
      refine (H2.out _).mono ?_; rintro e w1 ⟨rfl, rfl⟩
      go_wp2_with fail
      refine (H3.out _).mono ?_; rintro e w1 ⟨rfl, rfl⟩
      go_wp2_with fail
      refine (H4.out _).mono ?_; rintro e w1 ⟨rfl, rfl⟩
      go_wp2_with fail
      refine (H5.out _).mono ?_; rintro e w1 ⟨rfl, rfl⟩
      go_wp2_with fail
      refine (H6.out _).mono ?_; rintro e w1 ⟨rfl, rfl⟩
      go_wp2_with fail
      go_meet
      exact ⟨rfl, rfl⟩
    go_wp2_with fail
    refine (H1.out _).mono ?_; rintro e w1 ⟨rfl, rfl⟩
    go_wp2_with fail
    refine (H2.out _).mono ?_; rintro e w1 ⟨rfl, rfl⟩
    go_wp2_with fail
    refine (H3.out _).mono ?_; rintro e w1 ⟨rfl, rfl⟩
    go_wp2_with fail
    refine (H4.out _).mono ?_; rintro e w1 ⟨rfl, rfl⟩
    go_wp2_with fail
    refine (H5.out _).mono ?_; rintro e w1 ⟨rfl, rfl⟩
    go_wp2_with fail
    refine (H6.out _).mono ?_; rintro e w1 ⟨rfl, rfl⟩
    go_wp2_with fail
    go_meet
    exact ⟨rfl, rfl⟩
  case rest =>
    obtain ⟨rfl, rfl⟩ := hcut
    obtain ⟨c1, hc1⟩ : ∃ c1, (b1 && b2 && b3 && b4 && b5 && b6) = c1 := ⟨_, rfl⟩
    rw [hc1]
    have HR := Lib.hid (show (c1 && twoL us.data.toList pa.data.toList qu.data.toList hu hq && decide (tx.size ≤ 2048)) = r by rw [← hc1]; exact HR.out)
    clear hc1
    obtain ⟨c2, hc2⟩ : ∃ c2, twoL us.data.toList pa.data.toList qu.data.toList hu hq = c2 := ⟨_, rfl⟩
    have HC := Lib.hid hc2
    rw [hc2] at HR
    clear hc2
    go_upto_region 2 with fail
    go_cut [4] (fun s4 wx => s4 = .bool c2 ∧ wx = w.alloc (.cells #[.string sc, .string us, .string ho, .string po, .string pa, .string qu, .bool hu, .bool hq] 23))
    case first =>
      rcases first_cases pa with ⟨p1, p2, p3, p4⟩ | ⟨p1, p2, p3, p4, p5⟩
      · rcases first_cases us with ⟨u1, u2, u3, u4⟩ | ⟨u1, u2, u3, u4, u5⟩
        all_goals
          rcases first_cases qu with ⟨q1, q2, q3, q4⟩ | ⟨q1, q2, q3, q4, q5⟩
          all_goals
            have HS := Lib.hid HC.out
            unfold twoL at HS
            rw [p4, u4, q4] at HS
            clear p4 u4 q4
            cases hu <;> cases hq
            all_goals
              go_wp2_with fail
              go_meet
              exact ⟨congrArg Value.bool HS.out, rfl⟩
      · obtain ⟨x, hx⟩ : ∃ x, (pa.data.toList.head? == some 47) = x := ⟨_, rfl⟩
        have hx2 : (pa[0] == 47) = x := by
          rw [← hx, p5]
          rfl
        have HX := Lib.hid hx
        clear p5 hx
        rcases first_cases us with ⟨u1, u2, u3, u4⟩ | ⟨u1, u2, u3, u4, u5⟩
        all_goals
          rcases first_cases qu with ⟨q1, q2, q3, q4⟩ | ⟨q1, q2, q3, q4, q5⟩
          all_goals
            have HS := Lib.hid HC.out
            unfold twoL at HS
            rw [HX.out, p4, u4, q4] at HS
            clear p4 u4 q4
            cases x
            all_goals
              first
              | have hp : ¬ ((pa[0].toNat : Int) = 47) := fun e => by
                  have : pa[0] = 47 := UInt8.toNat_inj.mp (by have : pa[0].toNat = 47 := by omega
                                                              rw [this]; rfl)
                  rw [this] at hx2
                  exact absurd hx2 (by decide)
                clear hx2
              | have hp : ((pa[0].toNat : Int) = 47) := by
                  have : pa[0] = 47 := by simpa using hx2
                  rw [this]; rfl
                clear hx2
              cases hu <;> cases hq
              all_goals
                go_wp2_with fail
                go_meet
                exact ⟨congrArg Value.bool HS.out, rfl⟩
    case rest =>
      obtain ⟨rfl, rfl⟩ := hcut
      cases c1
      · go_wp2_with fail
        go_ret
        refine ⟨ret1 HR.out, ?_⟩
        go_grown
      · cases c2
        · go_wp2_with fail
          go_ret
          refine ⟨ret1 HR.out, ?_⟩
          go_grown
        · have HR := Lib.hid HR.out
          go_wp2_with fail
          refine (H7.out _).mono ?_; rintro e w1 ⟨rfl, hb⟩
          go_wp2_with fail
          go_ret
          refine ⟨ret1 (by rw [← HR.out]; exact (decide_eq_decide.2 (by omega) : decide ((tx.size : Int) ≤ 2048) = decide (tx.size ≤ 2048))), ?_⟩
          refine Below.trans ?_ (hb.mono (by first | (simp; done) | (simp; omega)))
          go_grown
end Go.Proofs.YtcocjmbhbddgiaaGreatDoor
