/-  the law AddressBack. -/
import Derived.Test.YtcocjmbhbddgiaaDoorBj
import Derived.Test.YtcocjmbhbddgiaaDoorBh
import Derived.Test.YtcocjmbhbddgiaaDoorAs
import Derived.Test.YtcocjmbhbddgiaaDoorBl
set_option linter.unusedSimpArgs false
set_option linter.unusedVariables false
namespace Go.Proofs.YtcocjmbhbddgiaaDoor
open Go.RowKit
theorem back_walk (sc us ho po pa qu : ByteArray) (hu hq : Bool) (s : ByteArray) (w : World) :
    Calls Tryd.prog 5 #[.agg #[.string sc, .string us, .string ho, .string po, .string pa, .string qu, .bool hu, .bool hq], .string s] w fun e w' => e = .returned (.bool true) ∧ Below w.heap.size w w' := by
  by_cases g0 : sc.size ≤ 1000
  case neg => exact back_big0 sc us ho po pa qu s hu hq  (by omega) w
  by_cases g1 : us.size ≤ 1000
  case neg => exact back_big1 sc us ho po pa qu s hu hq g0 (by omega) w
  by_cases g2 : ho.size ≤ 1000
  case neg => exact back_big2 sc us ho po pa qu s hu hq g0 g1 (by omega) w
  by_cases g3 : po.size ≤ 1000
  case neg => exact back_big3 sc us ho po pa qu s hu hq g0 g1 g2 (by omega) w
  by_cases g4 : pa.size ≤ 1000
  case neg => exact back_big4 sc us ho po pa qu s hu hq g0 g1 g2 g3 (by omega) w
  by_cases g5 : qu.size ≤ 1000
  case neg => exact back_big5 sc us ho po pa qu s hu hq g0 g1 g2 g3 g4 (by omega) w
  by_cases g6 : s.size ≤ 3000
  case neg => exact back_big6 sc us ho po pa qu s hu hq g0 g1 g2 g3 g4 g5 (by omega) w
  have q1 := len_size sc
  have q2 := len_size us
  have q3 := len_size ho
  have q4 := len_size po
  have q5 := len_size pa
  have q6 := len_size qu
  obtain ⟨l, hl⟩ : ∃ l, s.data.toList = l := ⟨_, rfl⟩
  obtain rfl : s = bs l := bs_of s l hl
  rw [bs_size] at g6
  have HT : Does 6 #[.agg #[.string sc, .string us, .string ho, .string po, .string pa, .string qu, .bool hu, .bool hq]] _ := fun w => text_any sc us ho po pa qu hu hq (by omega) (by omega) (by omega) (by omega) (by omega) (by omega) w
  have HP : Does 13 #[.string (bs l)] (parseV l) := fun w => parse_any (bs l) (by rw [bs_size]; omega) w
  have hp := parts_le l
  have key : ∀ (sc2 us2 ho2 po2 pa2 qu2 : List UInt8) (hu2 hq2 : Bool), sc2.length ≤ 3000 → us2.length ≤ 3000 → ho2.length ≤ 3000 → po2.length ≤ 3000 → pa2.length ≤ 3000 → qu2.length ≤ 3000 →
      Does 6 #[addrV sc2 us2 ho2 po2 pa2 qu2 hu2 hq2] (if mayL sc2 us2 ho2 po2 pa2 qu2 hu2 hq2 then .tuple #[.string (bs (tellL sc2 us2 ho2 po2 pa2 qu2 hu2 hq2)), .int .i64 0] else .tuple #[.string ⟨#[]⟩, .int .i64 150]) := fun sc2 us2 ho2 po2 pa2 qu2 hu2 hq2 a1 a2 a3 a4 a5 a6 w =>
    text_any (bs sc2) (bs us2) (bs ho2) (bs po2) (bs pa2) (bs qu2) hu2 hq2 (by rw [bs_size]; omega) (by rw [bs_size]; omega) (by rw [bs_size]; omega) (by rw [bs_size]; omega) (by rw [bs_size]; omega) (by rw [bs_size]; omega) w
  have esc' : bs sc.data.toList = sc := (bs_of sc _ rfl).symm
  have eus : bs us.data.toList = us := (bs_of us _ rfl).symm
  have eho : bs ho.data.toList = ho := (bs_of ho _ rfl).symm
  have epo : bs po.data.toList = po := (bs_of po _ rfl).symm
  have epa : bs pa.data.toList = pa := (bs_of pa _ rfl).symm
  have equ : bs qu.data.toList = qu := (bs_of qu _ rfl).symm
  -- what s tells
  have hS : (∃ z1 : parseOk l = false, True) ∨ (parseOk l = true ∧ mayP l = true) := by
    cases hok : parseOk l with
    | false => exact Or.inl ⟨rfl, trivial⟩
    | true =>
      refine Or.inr ⟨rfl, ?_⟩
      unfold parseOk at hok; simp only [Bool.and_eq_true] at hok; exact hok.2
  have fin : ∀ (t : ByteArray) (e : Int), Hid (Does 6 #[.agg #[.string sc, .string us, .string ho, .string po, .string pa, .string qu, .bool hu, .bool hq]] (.tuple #[.string t, .int .i64 e])) → ((e = 0 ∧ Hid (∀ w, Calls Tryd.prog 10 #[.string t, .agg #[.string sc, .string us, .string ho, .string po, .string pa, .string qu, .bool hu, .bool hq]] w fun e w' => e = .returned (.bool true) ∧ Below w.heap.size w w')) ∨ (e = 150 ∧ t = ⟨#[]⟩)) →
      Calls Tryd.prog 5 #[.agg #[.string sc, .string us, .string ho, .string po, .string pa, .string qu, .bool hu, .bool hq], .string (bs l)] w fun e w' => e = .returned (.bool true) ∧ Below w.heap.size w w' := by
    intro t e HT h1
    have g6' : (bs l).size ≤ 3000 := by rw [bs_size]; exact g6
    rcases hS with ⟨hok, _⟩ | ⟨hok, hm⟩
    · have hv : parseV l = .tuple #[addrV [] [] [] [] [] [] false false, .int .i64 150] := by unfold parseV; rw [hok]; rfl
      rw [hv] at HP
      have HU := key [] [] [] [] [] [] false false (by decide) (by decide) (by decide) (by decide) (by decide) (by decide)
      rw [show mayL [] [] [] [] [] [] false false = false by decide +kernel] at HU
      rcases empty_iff (bs l) with ⟨_, s1, s2, _⟩ | ⟨_, s1, s2, _⟩
      · rcases h1 with ⟨rfl, HTE⟩ | ⟨rfl, rfl⟩
        · exact back_01 sc us ho po pa qu (bs l) hu hq g0 g1 g2 g3 g4 g5 g6' t _ _ _ _ _ _ _ _ _ HT HTE (Lib.hid HP) (Lib.hid HU) s1 s2 w
        · exact back_11 sc us ho po pa qu (bs l) hu hq g0 g1 g2 g3 g4 g5 g6' ⟨#[]⟩ _ _ _ _ _ _ _ _ _ HT (Lib.hid HP) (Lib.hid HU) s1 s2 w
      · rcases h1 with ⟨rfl, HTE⟩ | ⟨rfl, rfl⟩
        · exact back_00 sc us ho po pa qu (bs l) hu hq g0 g1 g2 g3 g4 g5 g6' t _ _ _ _ _ _ _ _ _ HT HTE (Lib.hid HP) (Lib.hid HU) s1 s2 w
        · exact back_10 sc us ho po pa qu (bs l) hu hq g0 g1 g2 g3 g4 g5 g6' ⟨#[]⟩ _ _ _ _ _ _ _ _ _ HT (Lib.hid HP) (Lib.hid HU) s1 s2 w
    · have hv : parseV l = .tuple #[addrV (scP l) (usP l) (hoP l) (poP l) (paP l) (quP l) (huP l) (hqP l), .int .i64 0] := by unfold parseV; rw [hok]; rfl
      rw [hv] at HP
      have HU := key (scP l) (usP l) (hoP l) (poP l) (paP l) (quP l) (huP l) (hqP l) (by omega) (by omega) (by omega) (by omega) (by omega) (by omega)
      have hm2 : mayL (scP l) (usP l) (hoP l) (poP l) (paP l) (quP l) (huP l) (hqP l) = true := hm
      rw [hm2] at HU
      simp only [if_true] at HU
      rcases parse_tell l hok with hp2 | ⟨hp2, hp3⟩
      · rw [show tellL (scP l) (usP l) (hoP l) (poP l) (paP l) (quP l) (huP l) (hqP l) = l from hp2] at HU
        rcases h1 with ⟨rfl, HTE⟩ | ⟨rfl, rfl⟩
        · exact back_02 sc us ho po pa qu (bs l) hu hq g0 g1 g2 g3 g4 g5 g6' t (bs l) _ _ _ _ _ _ _ _ HT HTE (Lib.hid HP) (Lib.hid HU) w
        · exact back_12 sc us ho po pa qu (bs l) hu hq g0 g1 g2 g3 g4 g5 g6' ⟨#[]⟩ (bs l) _ _ _ _ _ _ _ _ HT (Lib.hid HP) (Lib.hid HU) w
      · unfold tellP at hp3
        have HTU : Hid (∀ w, Calls Tryd.prog 10 #[.string (bs (tellL (scP l) (usP l) (hoP l) (poP l) (paP l) (quP l) (huP l) (hqP l))), addrV (scP l) (usP l) (hoP l) (poP l) (paP l) (quP l) (huP l) (hqP l)] w fun e w' => e = .returned (.bool true) ∧ Below w.heap.size w w') := Lib.hid fun w =>
          tells_yes _ _ _ _ _ _ _ _ _ (Lib.hid fun w => by
            have := parse_any (bs (tellL (scP l) (usP l) (hoP l) (poP l) (paP l) (quP l) (huP l) (hqP l))) (by rw [bs_size]; omega) w
            rw [bs_list, tell_parse hm2] at this
            exact this) w
        have hne : ((bs (tellL (scP l) (usP l) (hoP l) (poP l) (paP l) (quP l) (huP l) (hqP l))).toList == (bs l).toList) = false := by
          rw [ByteArray.toList_eq, ByteArray.toList_eq, beq_eq_false_iff_ne, bs_list, bs_list]
          intro q
          rw [q] at hp3; omega
        have hlen : ((bs (tellL (scP l) (usP l) (hoP l) (poP l) (paP l) (quP l) (huP l) (hqP l))).size : Int) = ((bs l).size : Int) - 1 := by rw [bs_size, bs_size]; omega
        rw [hp2] at HP HU HTU hne hlen
        rcases h1 with ⟨rfl, HTE⟩ | ⟨rfl, rfl⟩
        · exact back_03 sc us ho po pa qu (bs l) hu hq g0 g1 g2 g3 g4 g5 g6' t _ _ _ _ ⟨#[]⟩ _ _ _ _ HT HTE (Lib.hid HP) (Lib.hid HU) hne hlen HTU w
        · exact back_13 sc us ho po pa qu (bs l) hu hq g0 g1 g2 g3 g4 g5 g6' ⟨#[]⟩ _ _ _ _ ⟨#[]⟩ _ _ _ _ HT (Lib.hid HP) (Lib.hid HU) hne hlen HTU w
  cases hm : mayL sc.data.toList us.data.toList ho.data.toList po.data.toList pa.data.toList qu.data.toList hu hq with
  | false =>
    rw [hm] at HT
    exact fin ⟨#[]⟩ 150 (Lib.hid HT) (Or.inr ⟨rfl, rfl⟩)
  | true =>
    rw [hm] at HT
    refine fin _ 0 (Lib.hid HT) (Or.inl ⟨rfl, Lib.hid fun w => ?_⟩)
    have hlen : (tellL sc.data.toList us.data.toList ho.data.toList po.data.toList pa.data.toList qu.data.toList hu hq).length ≤ 2048 := by
      have := hm
      unfold mayL at this
      simp only [Bool.and_eq_true, decide_eq_true_eq] at this
      exact this.2
    refine tells_yes _ sc us ho po pa qu hu hq (Lib.hid fun w => ?_) w
    have := parse_any (bs (tellL sc.data.toList us.data.toList ho.data.toList po.data.toList pa.data.toList qu.data.toList hu hq)) (by rw [bs_size]; omega) w
    rw [bs_list, tell_parse hm] at this
    unfold addrV at this
    rw [esc', eus, eho, epo, epa, equ] at this
    exact this
end Go.Proofs.YtcocjmbhbddgiaaDoor
