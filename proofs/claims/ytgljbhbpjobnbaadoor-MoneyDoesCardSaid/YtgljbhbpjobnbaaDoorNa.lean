/- The reference's sum at every two Decimals (provostref14.Add). -/
import Derived.Test.YtgljbhbpjobnbaaDoorNk
import Derived.Test.YtgljbhbpjobnbaaDoorNka
import Derived.Test.YtgljbhbpjobnbaaDoorNkb
import Derived.Test.YtgljbhbpjobnbaaDoorNkc
import Derived.Test.YtgljbhbpjobnbaaDoorNkd
import Derived.Test.YtgljbhbpjobnbaaDoorNke
import Derived.Test.YtgljbhbpjobnbaaDoorNkf
set_option linter.unusedSimpArgs false
set_option linter.unusedVariables false
namespace Go.Proofs.YtgljbhbpjobnbaaDoor
open Go.RowKit
theorem first_g (z : Nat) : ∀ k : Nat, ∃ g, g ≤ k ∧ (∀ j, j < g → dgt z j = 0) ∧ (g = k ∨ ¬ dgt z g = 0)
  | 0 => ⟨0, Nat.le_refl _, fun j h => absurd h (by omega), Or.inl rfl⟩
  | k + 1 => by
    obtain ⟨g, h1, h2, h3⟩ := first_g z k
    rcases h3 with h3 | h3
    · subst h3
      by_cases h : dgt z g = 0
      · refine ⟨g + 1, by omega, fun j hj => ?_, Or.inl rfl⟩
        by_cases q : j = g
        · rw [q]; exact h
        · exact h2 j (by omega)
      · exact ⟨g, by omega, h2, Or.inr h⟩
    · exact ⟨g, by omega, h2, Or.inr h3⟩
theorem radd14_any (m s n t : Int) (hm : R m) (hs : R s) (hn : R n) (ht : R t) (w : World) :
    Calls Tryd.prog 7 #[.agg #[.int .i64 m, .int .i64 s], .agg #[.int .i64 n, .int .i64 t]] w fun e w' => e = .returned (.tuple #[.agg #[.int .i64 (addM m s n t), .int .i64 (addS m s n t)], .int .i64 (addE m s n t)]) ∧ Below w.heap.size w w' := by
  have H1 := fun w => rmay14_any m s hm hs w
  have H2 := fun w => rmay14_any n t hn ht w
  cases h : may m s with
  | false =>
    rw [h] at H1
    have e1 : addOk m s n t = false := by unfold addOk; rw [h]; rfl
    have e2 : addE m s n t = 140 := by unfold addE; rw [h]; rfl
    unfold addM addS
    rw [e1, e2]
    exact radd14_a m s n t w (Lib.hid H1)
  | true =>
    cases k : may n t with
    | false =>
      rw [h] at H1
      rw [k] at H2
      have e1 : addOk m s n t = false := by unfold addOk; rw [h, k]; rfl
      have e2 : addE m s n t = 140 := by unfold addE; rw [h, k]; rfl
      unfold addM addS
      rw [e1, e2]
      exact radd14_b m s n t w (Lib.hid H1) (Lib.hid H2)
    | true =>
      rw [h] at H1
      rw [k] at H2
      have H3 := fun w => rrow_any m s hm h w
      have H4 := fun w => rrow_any n t hn k w
      have b1 := mag_lt m s hm
      have b2 := mag_lt n t hn
      have H5 := fun w => rless_any (mag m s) (mag n t) (Nat.lt_trans b1 (by decide)) (Nat.lt_trans b2 (by decide)) w
      have e1 := scl_mag m s
      have e2 := scl_mag n t
      -- what comes of the sum, by its digits and its sign
      have key : ∀ (z g : Nat) (b : Bool), scl m s + scl n t = (if b then -(z : Int) else z) → g ≤ 18 → (∀ j, j < g → dgt z j = 0) → (g = 18 ∨ ¬ dgt z g = 0) →
          (inR (if b then -((z / 10 ^ g : Nat) : Int) else ((z / 10 ^ g : Nat) : Int)) = true → addM m s n t = (if b then -((z / 10 ^ g : Nat) : Int) else ((z / 10 ^ g : Nat) : Int)) ∧ addS m s n t = 18 - (g : Int) ∧ addE m s n t = 0) ∧
          (inR (if b then -((z / 10 ^ g : Nat) : Int) else ((z / 10 ^ g : Nat) : Int)) = false → addM m s n t = 0 ∧ addS m s n t = 0 ∧ addE m s n t = 20) := fun z g b hT hg hz hn' => by
        have hN : sumN m s n t = ((if b then -((z / 10 ^ g : Nat) : Int) else ((z / 10 ^ g : Nat) : Int)), 18 - g) := norm_at _ z g b hT hg hz hn'
        unfold addM addS addE addOk
        rw [h, k, hN]
        dsimp only
        generalize (if b then -((z / 10 ^ g : Nat) : Int) else ((z / 10 ^ g : Nat) : Int)) = F
        constructor
        · intro q
          rw [q]
          refine ⟨rfl, ?_, rfl⟩
          show ((18 - g : Nat) : Int) = _
          omega
        · intro q
          rw [q]
          exact ⟨rfl, rfl, rfl⟩
      generalize scl m s = x at *
      generalize scl n t = y at *
      generalize mag m s = u at *
      generalize mag n t = v at *
      by_cases p : m < 0
      · rw [decide_eq_true p] at H3
        rw [if_pos p] at e1
        by_cases q : n < 0
        · rw [decide_eq_true q] at H4
          rw [if_pos q] at e2
          by_cases l : u < v
          · rw [decide_eq_true l] at H5
            obtain ⟨z, hz⟩ : ∃ z, v + u = z := ⟨_, rfl⟩
            obtain ⟨g, hg, hlow, hend⟩ := first_g z 18
            obtain ⟨kf, ko⟩ := key z g true (by rw [if_pos rfl]; omega) hg hlow hend
            simp only [if_true] at kf ko
            have H6 : ∀ w, Calls Tryd.prog 25 #[.agg (rowV v), .agg (rowV u), .bool false] w fun e w' => e = .returned (.agg (rowV z)) ∧ Below w.heap.size w w' := (fun w => by have := rboth_plus v u w; rw [hz] at this; exact this)
            have hz40 : z < 10 ^ 40 := by have : (10 : Nat) ^ 38 + 10 ^ 38 < 10 ^ 40 := by decide
                                          omega
            cases hR : inR (-((z / 10 ^ g : Nat) : Int)) with
            | true =>
              obtain ⟨q1, q2, q3⟩ := kf hR
              rw [q1, q2, q3]
              exact radd14_ymo m s n t u v z g true w (Lib.hid H1) (Lib.hid H2) (Lib.hid H3) (Lib.hid H4) (Lib.hid H5) (Lib.hid H6) hg (Lib.hid ⟨hlow, hend⟩) (Lib.hid hz40) (Lib.hid hR)
            | false =>
              obtain ⟨q1, q2, q3⟩ := ko hR
              rw [q1, q2, q3]
              exact radd14_ymf m s n t u v z g true w (Lib.hid H1) (Lib.hid H2) (Lib.hid H3) (Lib.hid H4) (Lib.hid H5) (Lib.hid H6) hg (Lib.hid ⟨hlow, hend⟩) (Lib.hid hz40) (Lib.hid hR)
          · rw [decide_eq_false l] at H5
            obtain ⟨z, hz⟩ : ∃ z, u + v = z := ⟨_, rfl⟩
            obtain ⟨g, hg, hlow, hend⟩ := first_g z 18
            obtain ⟨kf, ko⟩ := key z g true (by rw [if_pos rfl]; omega) hg hlow hend
            simp only [if_true] at kf ko
            have H6 : ∀ w, Calls Tryd.prog 25 #[.agg (rowV u), .agg (rowV v), .bool false] w fun e w' => e = .returned (.agg (rowV z)) ∧ Below w.heap.size w w' := (fun w => by have := rboth_plus u v w; rw [hz] at this; exact this)
            have hz40 : z < 10 ^ 40 := by have : (10 : Nat) ^ 38 + 10 ^ 38 < 10 ^ 40 := by decide
                                          omega
            cases hR : inR (-((z / 10 ^ g : Nat) : Int)) with
            | true =>
              obtain ⟨q1, q2, q3⟩ := kf hR
              rw [q1, q2, q3]
              exact radd14_nmo m s n t u v z g true w (Lib.hid H1) (Lib.hid H2) (Lib.hid H3) (Lib.hid H4) (Lib.hid H5) (Lib.hid H6) hg (Lib.hid ⟨hlow, hend⟩) (Lib.hid hz40) (Lib.hid hR)
            | false =>
              obtain ⟨q1, q2, q3⟩ := ko hR
              rw [q1, q2, q3]
              exact radd14_nmf m s n t u v z g true w (Lib.hid H1) (Lib.hid H2) (Lib.hid H3) (Lib.hid H4) (Lib.hid H5) (Lib.hid H6) hg (Lib.hid ⟨hlow, hend⟩) (Lib.hid hz40) (Lib.hid hR)
        · rw [decide_eq_false q] at H4
          rw [if_neg q] at e2
          by_cases l : u < v
          · rw [decide_eq_true l] at H5
            obtain ⟨z, hz⟩ : ∃ z, v - u = z := ⟨_, rfl⟩
            obtain ⟨g, hg, hlow, hend⟩ := first_g z 18
            obtain ⟨kf, ko⟩ := key z g false (by rw [if_neg (by decide)]; omega) hg hlow hend
            simp only [Bool.false_eq_true, if_false] at kf ko
            have H6 : ∀ w, Calls Tryd.prog 25 #[.agg (rowV v), .agg (rowV u), .bool true] w fun e w' => e = .returned (.agg (rowV z)) ∧ Below w.heap.size w w' := (fun w => by have := rboth_minus z u w; rw [show z + u = v by omega] at this; exact this)
            have hz40 : z < 10 ^ 40 := by have : (10 : Nat) ^ 38 + 10 ^ 38 < 10 ^ 40 := by decide
                                          omega
            cases hR : inR (((z / 10 ^ g : Nat) : Int)) with
            | true =>
              obtain ⟨q1, q2, q3⟩ := kf hR
              rw [q1, q2, q3]
              exact radd14_ypo m s n t u v z g true w (Lib.hid H1) (Lib.hid H2) (Lib.hid H3) (Lib.hid H4) (Lib.hid H5) (Lib.hid H6) hg (Lib.hid ⟨hlow, hend⟩) (Lib.hid hz40) (Lib.hid hR)
            | false =>
              obtain ⟨q1, q2, q3⟩ := ko hR
              rw [q1, q2, q3]
              exact radd14_ypf m s n t u v z g true w (Lib.hid H1) (Lib.hid H2) (Lib.hid H3) (Lib.hid H4) (Lib.hid H5) (Lib.hid H6) hg (Lib.hid ⟨hlow, hend⟩) (Lib.hid hz40) (Lib.hid hR)
          · rw [decide_eq_false l] at H5
            obtain ⟨z, hz⟩ : ∃ z, u - v = z := ⟨_, rfl⟩
            obtain ⟨g, hg, hlow, hend⟩ := first_g z 18
            obtain ⟨kf, ko⟩ := key z g true (by rw [if_pos rfl]; omega) hg hlow hend
            simp only [if_true] at kf ko
            have H6 : ∀ w, Calls Tryd.prog 25 #[.agg (rowV u), .agg (rowV v), .bool true] w fun e w' => e = .returned (.agg (rowV z)) ∧ Below w.heap.size w w' := (fun w => by have := rboth_minus z v w; rw [show z + v = u by omega] at this; exact this)
            have hz40 : z < 10 ^ 40 := by have : (10 : Nat) ^ 38 + 10 ^ 38 < 10 ^ 40 := by decide
                                          omega
            cases hR : inR (-((z / 10 ^ g : Nat) : Int)) with
            | true =>
              obtain ⟨q1, q2, q3⟩ := kf hR
              rw [q1, q2, q3]
              exact radd14_nmo m s n t u v z g false w (Lib.hid H1) (Lib.hid H2) (Lib.hid H3) (Lib.hid H4) (Lib.hid H5) (Lib.hid H6) hg (Lib.hid ⟨hlow, hend⟩) (Lib.hid hz40) (Lib.hid hR)
            | false =>
              obtain ⟨q1, q2, q3⟩ := ko hR
              rw [q1, q2, q3]
              exact radd14_nmf m s n t u v z g false w (Lib.hid H1) (Lib.hid H2) (Lib.hid H3) (Lib.hid H4) (Lib.hid H5) (Lib.hid H6) hg (Lib.hid ⟨hlow, hend⟩) (Lib.hid hz40) (Lib.hid hR)
      · rw [decide_eq_false p] at H3
        rw [if_neg p] at e1
        by_cases q : n < 0
        · rw [decide_eq_true q] at H4
          rw [if_pos q] at e2
          by_cases l : u < v
          · rw [decide_eq_true l] at H5
            obtain ⟨z, hz⟩ : ∃ z, v - u = z := ⟨_, rfl⟩
            obtain ⟨g, hg, hlow, hend⟩ := first_g z 18
            obtain ⟨kf, ko⟩ := key z g true (by rw [if_pos rfl]; omega) hg hlow hend
            simp only [if_true] at kf ko
            have H6 : ∀ w, Calls Tryd.prog 25 #[.agg (rowV v), .agg (rowV u), .bool true] w fun e w' => e = .returned (.agg (rowV z)) ∧ Below w.heap.size w w' := (fun w => by have := rboth_minus z u w; rw [show z + u = v by omega] at this; exact this)
            have hz40 : z < 10 ^ 40 := by have : (10 : Nat) ^ 38 + 10 ^ 38 < 10 ^ 40 := by decide
                                          omega
            cases hR : inR (-((z / 10 ^ g : Nat) : Int)) with
            | true =>
              obtain ⟨q1, q2, q3⟩ := kf hR
              rw [q1, q2, q3]
              exact radd14_ymo m s n t u v z g false w (Lib.hid H1) (Lib.hid H2) (Lib.hid H3) (Lib.hid H4) (Lib.hid H5) (Lib.hid H6) hg (Lib.hid ⟨hlow, hend⟩) (Lib.hid hz40) (Lib.hid hR)
            | false =>
              obtain ⟨q1, q2, q3⟩ := ko hR
              rw [q1, q2, q3]
              exact radd14_ymf m s n t u v z g false w (Lib.hid H1) (Lib.hid H2) (Lib.hid H3) (Lib.hid H4) (Lib.hid H5) (Lib.hid H6) hg (Lib.hid ⟨hlow, hend⟩) (Lib.hid hz40) (Lib.hid hR)
          · rw [decide_eq_false l] at H5
            obtain ⟨z, hz⟩ : ∃ z, u - v = z := ⟨_, rfl⟩
            obtain ⟨g, hg, hlow, hend⟩ := first_g z 18
            obtain ⟨kf, ko⟩ := key z g false (by rw [if_neg (by decide)]; omega) hg hlow hend
            simp only [Bool.false_eq_true, if_false] at kf ko
            have H6 : ∀ w, Calls Tryd.prog 25 #[.agg (rowV u), .agg (rowV v), .bool true] w fun e w' => e = .returned (.agg (rowV z)) ∧ Below w.heap.size w w' := (fun w => by have := rboth_minus z v w; rw [show z + v = u by omega] at this; exact this)
            have hz40 : z < 10 ^ 40 := by have : (10 : Nat) ^ 38 + 10 ^ 38 < 10 ^ 40 := by decide
                                          omega
            cases hR : inR (((z / 10 ^ g : Nat) : Int)) with
            | true =>
              obtain ⟨q1, q2, q3⟩ := kf hR
              rw [q1, q2, q3]
              exact radd14_npo m s n t u v z g true w (Lib.hid H1) (Lib.hid H2) (Lib.hid H3) (Lib.hid H4) (Lib.hid H5) (Lib.hid H6) hg (Lib.hid ⟨hlow, hend⟩) (Lib.hid hz40) (Lib.hid hR)
            | false =>
              obtain ⟨q1, q2, q3⟩ := ko hR
              rw [q1, q2, q3]
              exact radd14_npf m s n t u v z g true w (Lib.hid H1) (Lib.hid H2) (Lib.hid H3) (Lib.hid H4) (Lib.hid H5) (Lib.hid H6) hg (Lib.hid ⟨hlow, hend⟩) (Lib.hid hz40) (Lib.hid hR)
        · rw [decide_eq_false q] at H4
          rw [if_neg q] at e2
          by_cases l : u < v
          · rw [decide_eq_true l] at H5
            obtain ⟨z, hz⟩ : ∃ z, v + u = z := ⟨_, rfl⟩
            obtain ⟨g, hg, hlow, hend⟩ := first_g z 18
            obtain ⟨kf, ko⟩ := key z g false (by rw [if_neg (by decide)]; omega) hg hlow hend
            simp only [Bool.false_eq_true, if_false] at kf ko
            have H6 : ∀ w, Calls Tryd.prog 25 #[.agg (rowV v), .agg (rowV u), .bool false] w fun e w' => e = .returned (.agg (rowV z)) ∧ Below w.heap.size w w' := (fun w => by have := rboth_plus v u w; rw [hz] at this; exact this)
            have hz40 : z < 10 ^ 40 := by have : (10 : Nat) ^ 38 + 10 ^ 38 < 10 ^ 40 := by decide
                                          omega
            cases hR : inR (((z / 10 ^ g : Nat) : Int)) with
            | true =>
              obtain ⟨q1, q2, q3⟩ := kf hR
              rw [q1, q2, q3]
              exact radd14_ypo m s n t u v z g false w (Lib.hid H1) (Lib.hid H2) (Lib.hid H3) (Lib.hid H4) (Lib.hid H5) (Lib.hid H6) hg (Lib.hid ⟨hlow, hend⟩) (Lib.hid hz40) (Lib.hid hR)
            | false =>
              obtain ⟨q1, q2, q3⟩ := ko hR
              rw [q1, q2, q3]
              exact radd14_ypf m s n t u v z g false w (Lib.hid H1) (Lib.hid H2) (Lib.hid H3) (Lib.hid H4) (Lib.hid H5) (Lib.hid H6) hg (Lib.hid ⟨hlow, hend⟩) (Lib.hid hz40) (Lib.hid hR)
          · rw [decide_eq_false l] at H5
            obtain ⟨z, hz⟩ : ∃ z, u + v = z := ⟨_, rfl⟩
            obtain ⟨g, hg, hlow, hend⟩ := first_g z 18
            obtain ⟨kf, ko⟩ := key z g false (by rw [if_neg (by decide)]; omega) hg hlow hend
            simp only [Bool.false_eq_true, if_false] at kf ko
            have H6 : ∀ w, Calls Tryd.prog 25 #[.agg (rowV u), .agg (rowV v), .bool false] w fun e w' => e = .returned (.agg (rowV z)) ∧ Below w.heap.size w w' := (fun w => by have := rboth_plus u v w; rw [hz] at this; exact this)
            have hz40 : z < 10 ^ 40 := by have : (10 : Nat) ^ 38 + 10 ^ 38 < 10 ^ 40 := by decide
                                          omega
            cases hR : inR (((z / 10 ^ g : Nat) : Int)) with
            | true =>
              obtain ⟨q1, q2, q3⟩ := kf hR
              rw [q1, q2, q3]
              exact radd14_npo m s n t u v z g false w (Lib.hid H1) (Lib.hid H2) (Lib.hid H3) (Lib.hid H4) (Lib.hid H5) (Lib.hid H6) hg (Lib.hid ⟨hlow, hend⟩) (Lib.hid hz40) (Lib.hid hR)
            | false =>
              obtain ⟨q1, q2, q3⟩ := ko hR
              rw [q1, q2, q3]
              exact radd14_npf m s n t u v z g false w (Lib.hid H1) (Lib.hid H2) (Lib.hid H3) (Lib.hid H4) (Lib.hid H5) (Lib.hid H6) hg (Lib.hid ⟨hlow, hend⟩) (Lib.hid hz40) (Lib.hid hR)
end Go.Proofs.YtgljbhbpjobnbaaDoor
