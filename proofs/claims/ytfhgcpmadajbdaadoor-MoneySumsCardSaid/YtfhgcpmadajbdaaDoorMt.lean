/- The law on sums of Decimals, whole (provostlaw14.MoneySums). -/
import Derived.Test.YtfhgcpmadajbdaaDoorMs2
set_option linter.unusedSimpArgs false
set_option linter.unusedVariables false
namespace Go.Proofs.YtfhgcpmadajbdaaDoor
open Go.RowKit
theorem addM_R (a s b t : Int) : R (addM a s b t) ∧ R (addS a s b t) := by
  unfold addM addS
  cases h : addOk a s b t with
  | false => simp only [Bool.false_eq_true, if_false]; unfold R; omega
  | true =>
    simp only [if_true]
    unfold addOk at h
    simp only [Bool.and_eq_true] at h
    have := norm_le 18 (scl a s + scl b t)
    refine ⟨(inR_iff _).1 h.2, ?_⟩
    unfold sumN R; omega
theorem add_no {a s b t : Int} (h : ¬ addE a s b t = 0) : addM a s b t = 0 ∧ addS a s b t = 0 := by
  have : addOk a s b t = false := by rw [Bool.eq_false_iff]; exact fun q => h ((add_ok_iff _ _ _ _).2 q)
  unfold addM addS; rw [this]; exact ⟨rfl, rfl⟩
theorem add_mays {a s b t : Int} (h : addOk a s b t = true) : may a s = true ∧ may b t = true := by
  unfold addOk at h; simp only [Bool.and_eq_true] at h; exact h.1
theorem addE_no (a s b t : Int) (h : may a s = false) : addE a s b t = 140 ∧ addM a s b t = 0 ∧ addS a s b t = 0 := by
  have e : addE a s b t = 140 := by unfold addE; rw [h]; rfl
  have := add_no (a := a) (s := s) (b := b) (t := t) (by rw [e]; decide)
  exact ⟨e, this⟩
theorem beq_true {a b : Int} (h : a = b) : (a == b) = true := by simpa using h
theorem beq_no {a b : Int} (h : ¬ a = b) : (a == b) = false := by simpa using h
theorem bne_yes {a b : Int} (h : ¬ a = b) : (a != b) = true := by simpa using h
theorem sums_walk (m s n t p q : Int) (hm : R m) (hs : R s) (hn : R n) (ht : R t) (hp : R p) (hq : R q) (w : World) (he : Env w) :
    Calls Tryd.prog 8 #[.agg #[.int .i64 m, .int .i64 s], .agg #[.int .i64 n, .int .i64 t], .agg #[.int .i64 p, .int .i64 q]] w fun e w' => e = .returned (.bool true) ∧ Below w.heap.size w w' := by
  have z0 : R 0 := by unfold R; omega
  have HS := Lib.hid (fun w => madd_any m s n t hm hs hn ht w)
  have HT := Lib.hid (fun w => madd_any n t m s hn ht hm hs w)
  have HZ := Lib.hid (fun w => madd_any m s 0 0 hm hs z0 z0 w)
  have HA := Lib.hid (fun w => mcheck_any m s hm hs w)
  have HN := Lib.hid (fun w => mcmp_any m s p q hm hs hp hq w)
  have HU := Lib.hid (fun w => madd_any p q n t hp hq hn ht w)
  obtain ⟨sr1, sr2⟩ := addM_R m s n t
  obtain ⟨ur1, ur2⟩ := addM_R p q n t
  have HM := Lib.hid (fun w => mcmp_any (addM m s n t) (addS m s n t) (addM p q n t) (addS p q n t) sr1 sr2 ur1 ur2 w)
  have HK := Lib.hid (fun w => mcheck_any (addM m s n t) (addS m s n t) sr1 sr2 w)
  obtain ⟨q1, q2, q3⟩ := add_comm' n t m s
  rw [q1, q2, q3] at HT
  by_cases he0 : addE m s n t = 0
  · have hok := (add_ok_iff m s n t).1 he0
    obtain ⟨ma, mb⟩ := add_mays hok
    have mS := add_may hok
    have sS := add_scl hok
    obtain ⟨z1, z2, z3⟩ := add_zero' hm ma
    have ca : chk m s = 0 := by unfold chk; rw [ma]; rfl
    have cS : chk (addM m s n t) (addS m s n t) = 0 := by unfold chk; rw [mS]; rfl
    rw [he0] at HS HT
    rw [z1, z2, z3] at HZ
    rw [ca] at HA
    rw [cS] at HK
    have hneg : (¬ m = -9223372036854775808 ∧ ¬ n = -9223372036854775808 ∧ ¬ addM m s n t = -9223372036854775808) → Hid (∀ w, Calls Tryd.prog 11 #[.agg #[.int .i64 (-m), .int .i64 s], .agg #[.int .i64 (-n), .int .i64 t]] w fun e w' => e = .returned (.tuple #[.agg #[.int .i64 (-addM m s n t), .int .i64 (addS m s n t)], .int .i64 0]) ∧ Below w.heap.size w w') := fun ⟨g1, g2, g3⟩ => Lib.hid fun w => by
      obtain ⟨k1, k2, k3⟩ := add_neg' m s n t hok g3
      have := madd_any (-m) s (-n) t (by unfold R at *; omega) hs (by unfold R at *; omega) ht w
      rw [k2, k3, (add_ok_iff _ _ _ _).2 k1] at this
      exact this
    have mR := hm
    have nR := hn
    unfold R at mR nR
    have xR := sr1
    unfold R at xR
    generalize addM m s n t = x at *
    generalize addS m s n t = y at *
    rcases cmp_two m s p q with ⟨c1, _, mc⟩ | c1
    · by_cases hi : addE p q n t = 0
      · have uok := (add_ok_iff p q n t).1 hi
        have mU := add_may uok
        have sU := add_scl uok
        have hv : cmpV x y (addM p q n t) (addS p q n t) = cmpV m s p q := by
          rw [(cmp_fine mS mU).1, (cmp_fine ma mc).1, sS, sU, cmpI_add]
        rw [hv, (cmp_fine mS mU).2] at HM
        rw [c1] at HN
        rw [hi] at HU
        by_cases ya : m = -9223372036854775808
        · exact sums_full_ma m s n t p q x y 0 _ _ _ 0 0 0 0 w he HS HT HK HZ HA HN HU HM (beq_true ya)
        · by_cases yb : n = -9223372036854775808
          · exact sums_full_mb m s n t p q x y 0 _ _ _ 0 0 0 0 w he HS HT HK HZ HA HN HU HM (beq_no ya) (beq_true yb)
          · by_cases yc : x = -9223372036854775808
            · exact sums_full_ms m s n t p q x y 0 _ _ _ 0 0 0 0 w he HS HT HK HZ HA HN HU HM (beq_no ya) (beq_no yb) (beq_true yc)
            · exact sums_full_none m s n t p q x y 0 _ _ _ 0 0 0 0 w he HS HT HK HZ HA HN HU HM (beq_no ya) (beq_no yb) (beq_no yc) (by omega) (by omega) (by omega) (by omega) (by omega) (by omega) (hneg ⟨ya, yb, yc⟩)
      · rw [c1] at HN
        by_cases ya : m = -9223372036854775808
        · exact sums_ibad_ma m s n t p q x y 0 _ _ _ 0 _ _ _ w he HS HT HK HZ HA HN HU (beq_no hi) HM (beq_true ya)
        · by_cases yb : n = -9223372036854775808
          · exact sums_ibad_mb m s n t p q x y 0 _ _ _ 0 _ _ _ w he HS HT HK HZ HA HN HU (beq_no hi) HM (beq_no ya) (beq_true yb)
          · by_cases yc : x = -9223372036854775808
            · exact sums_ibad_ms m s n t p q x y 0 _ _ _ 0 _ _ _ w he HS HT HK HZ HA HN HU (beq_no hi) HM (beq_no ya) (beq_no yb) (beq_true yc)
            · exact sums_ibad_none m s n t p q x y 0 _ _ _ 0 _ _ _ w he HS HT HK HZ HA HN HU (beq_no hi) HM (beq_no ya) (beq_no yb) (beq_no yc) (by omega) (by omega) (by omega) (by omega) (by omega) (by omega) (hneg ⟨ya, yb, yc⟩)
    · rw [c1] at HN
      by_cases ya : m = -9223372036854775808
      · exact sums_hbad_ma m s n t p q x y 0 _ _ _ 0 _ _ _ w he HS HT HK HZ HA HN HU HM (beq_true ya)
      · by_cases yb : n = -9223372036854775808
        · exact sums_hbad_mb m s n t p q x y 0 _ _ _ 0 _ _ _ w he HS HT HK HZ HA HN HU HM (beq_no ya) (beq_true yb)
        · by_cases yc : x = -9223372036854775808
          · exact sums_hbad_ms m s n t p q x y 0 _ _ _ 0 _ _ _ w he HS HT HK HZ HA HN HU HM (beq_no ya) (beq_no yb) (beq_true yc)
          · exact sums_hbad_none m s n t p q x y 0 _ _ _ 0 _ _ _ w he HS HT HK HZ HA HN HU HM (beq_no ya) (beq_no yb) (beq_no yc) (by omega) (by omega) (by omega) (by omega) (by omega) (by omega) (hneg ⟨ya, yb, yc⟩)
  · obtain ⟨n1, n2⟩ := add_no he0
    rw [n1, n2] at HS HT HM
    cases ma : may m s with
    | true =>
      obtain ⟨z1, z2, z3⟩ := add_zero' hm ma
      have ca : chk m s = 0 := by unfold chk; rw [ma]; rfl
      rw [z1, z2, z3] at HZ
      rw [ca] at HA
      exact sums_bad_ok m s n t p q 0 0 _ _ _ _ _ _ _ _ w he HS HT (beq_no he0) (bne_yes he0) HZ HA HN HU HM
    | false =>
      obtain ⟨z3, z1, z2⟩ := addE_no m s 0 0 ma
      have ca : chk m s = 140 := by unfold chk; rw [ma]; rfl
      rw [z1, z2, z3] at HZ
      rw [ca] at HA
      exact sums_bad_bad m s n t p q 0 0 _ _ _ _ _ _ _ _ w he HS HT (beq_no he0) (bne_yes he0) HZ HA HN HU HM
end Go.Proofs.YtfhgcpmadajbdaaDoor
