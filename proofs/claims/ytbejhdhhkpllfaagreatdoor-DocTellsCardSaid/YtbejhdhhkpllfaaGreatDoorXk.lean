/- The reference's Behind, all (documents). -/
import Derived.Test.YtbejhdhhkpllfaaGreatDoorXj
import Derived.Deep.LoopGhost
set_option linter.unusedSimpArgs false
set_option linter.unusedVariables false
namespace Go.Proofs.YtbejhdhhkpllfaaGreatDoor
open Go.RowKit
def endR (o : Option Nat) : Int := match o with
  | none => -1
  | some q => (q : Int)
/-- How the rounds stand: at a place, or out. -/
def RB (L : List SelD) (f r o : Nat) (a : Int) (R : Option Nat) : Prop := (∃ p g : Nat, a = (p : Int) ∧ p ≤ L.length ∧ L.length ≤ p + g ∧ g ≤ f ∧ runS L g p r o = R) ∨ (a = -1 ∧ R = none)
theorem RB.done {L : List SelD} {f o : Nat} {a : Int} {R : Option Nat} (h : RB L f 0 o a R) : a = endR R := by
  rcases h with ⟨p, g, h0, h1, h2, h3, h4⟩ | ⟨h1, h2⟩
  · rw [runS_zero] at h4
    rw [← h4, h0]; rfl
  · rw [h2, h1]; rfl
theorem RB.neg {L : List SelD} {f r o : Nat} {a : Int} {R : Option Nat} (h : RB L f r o a R) (ha : a < 0) : a = endR R := by
  rcases h with ⟨p, g, h0, h1, h2, h3, h4⟩ | ⟨h1, h2⟩
  · omega
  · rw [h2, h1]; rfl
/-- One more: what the call answers, and how the rounds stand behind it. -/
theorem RB.next {L : List SelD} {f r o : Nat} {a : Int} {R : Option Nat} (h : RB L f (r + 1) o a R) (ha : 0 ≤ a) :
    ∃ p : Nat, a = (p : Int) ∧ p ≤ L.length ∧ ((L.length ≤ p ∧ RB L f r o (-1) R) ∨ ∃ g, g < f ∧ L.length ≤ p + 1 + g ∧ RB L f r o (endR (behS L g p o)) R) := by
  rcases h with ⟨p, g, h0, h1, h2, h3, h4⟩ | ⟨h1, h2⟩
  · refine ⟨p, h0, h1, ?_⟩
    cases g with
    | zero =>
      rw [runS_out L 0 p r o (by omega)] at h4
      exact Or.inl ⟨by omega, Or.inr ⟨rfl, h4.symm⟩⟩
    | succ g =>
      refine Or.inr ⟨g, by omega, by omega, ?_⟩
      cases hu : behS L g p o with
      | none =>
        rw [runS_beh_none hu] at h4
        exact Or.inr ⟨rfl, h4.symm⟩
      | some q =>
        rw [runS_beh_some hu] at h4
        have := behS_ends L g p o q hu
        exact Or.inl ⟨q, g, rfl, by omega, by omega, by omega, h4⟩
  · omega
theorem RB.le {L : List SelD} {f r o : Nat} {a : Int} {R : Option Nat} (h : RB L f r o a R) : -1 ≤ a ∧ a ≤ L.length := by
  rcases h with ⟨p, g, h0, h1, h2, h3, h4⟩ | ⟨h1, h2⟩ <;> omega
set_option maxRecDepth 100000 in
theorem rbeh_out (sa : Option Addr) (n c p : Nat) (o : Int) (hp : n ≤ p) (hl : p ≤ 100000) (W : World) :
    Calls Tryz.prog 65 #[.slice sa n c, .int .i64 (p : Int), .int .i64 o] W fun e w' => e = .returned (.int .i64 (-1)) ∧ Below W.heap.size W w' := by
  have h1 : decide ((p : Int) < 0) = false := decide_eq_false (by omega)
  have h2 : decide (n ≤ p) = true := decide_eq_true hp
  go_enter Tryz.func65, Tryz.ntmps65
  go_wp2_with fail
  go_ret
  exact ⟨rfl, Below.refl _ _⟩
set_option maxRecDepth 100000 in
set_option maxHeartbeats 16000000 in
theorem rbeh_k1 (L : List SelD) (b off n c : Nat) (p o f m : Nat) (W : World) (x1 x2 : ByteArray) (y0 y3 : Option Addr) (y1 y2 y4 y5 : Nat) (mm : Int) 
    (w0 : World) (HWB : Hid (Below w0.heap.size w0 W)) (HNL : Hid (n = L.length)) (hn : n ≤ 100000) (hpl : p < L.length) (hf : L.length ≤ p + 1 + f) (ho : o ≤ 16)
    (q0 : W.cell? ⟨b, off + p * 6, none⟩ = some (.int .u8 1)) (q1 : W.cell? ⟨b, off + p * 6 + 1, none⟩ = some (.string x1)) (q2 : W.cell? ⟨b, off + p * 6 + 2, none⟩ = some (.string x2)) (q3 : W.cell? ⟨b, off + p * 6 + 3, none⟩ = some (.slice y0 y1 y2)) (q4 : W.cell? ⟨b, off + p * 6 + 4, none⟩ = some (.slice y3 y4 y5)) (q5 : W.cell? ⟨b, off + p * 6 + 5, none⟩ = some (.int .i64 mm))
    (tA tD tL tN zA zN on eA m0 m1 m2 oo : Bool)
    (HA : Hid (∀ W', Below W.heap.size W W' → Calls Tryz.prog 77 #[.slice y0 y1 y2] W' fun e w' => e = .returned (.bool tA) ∧ Below W'.heap.size W' w'))
    (HD : Hid (∀ W', Below W.heap.size W W' → Calls Tryz.prog 78 #[.slice y3 y4 y5] W' fun e w' => e = .returned (.bool tD) ∧ Below W'.heap.size W' w'))
    (HL : Hid (∀ W', Below W.heap.size W W' → Calls Tryz.prog 44 #[.string x1] W' fun e w' => e = .returned (.bool tL) ∧ Below W'.heap.size W' w'))
    (HN : Hid (∀ W', Below W.heap.size W W' → Calls Tryz.prog 44 #[.string x2] W' fun e w' => e = .returned (.bool tN) ∧ Below W'.heap.size W' w'))
    (hzA : (x1.toList == []) = zA) (hzAe : x1.toList.isEmpty = zA) (hzAp : zA = true → x1.toList = []) (hzAn : zA = false → ¬ x1.toList = []) (hzN : (x2.toList == []) = zN) (hzNe : x2.toList.isEmpty = zN) (hzNp : zN = true → x2.toList = []) (hzNn : zN = false → ¬ x2.toList = [])
    (hon : (x2.toList == [111, 110]) = on) (honp : on = true → x2.toList = [111, 110]) (honn : on = false → ¬ x2.toList = [111, 110])
    (heA : decide ((0 : Int) < (y1 : Int)) = eA) (heA2 : decide (0 < y1) = eA) (hm0 : decide (mm < 0) = m0) (hm1 : (mm == 0) = m1) (hm1b : (mm != 0) = !m1) (hm2 : decide (0 < mm) = m2) (hoo : ((o : Int) == 16) = oo)
    (HMM : Hid (m0 = false → mm = (m : Int))) (HMN : Hid (m0 = false → decide (0 < m) = m2 ∧ (m == 0) = m1 ∧ (m != 0) = !m1)) (HM12 : Hid (m1 = true → m2 = false)) (HM13 : Hid (m0 = false → m1 = false → m2 = true)) (HMT : Hid (L[p].many.toNat = m)) (HO15 : Hid (deepB L[p] o = true → m = 0 ∨ o ≤ 15)) (hmx : (m : Int) ≤ 9223372036854775807)
    (HQ : Hid (deepB L[p] o = !((false || false || m0 || !tA || !tD || (!true && (!zA || eA))) || ((!zA && !tL) || (!tN && (!false || !zN))) || ((false && (!m1 || on)) || (false && m1) || (m2 && oo)))))
    (HIH : Hid (∀ g, g < f → ∀ (p o : Nat) (W : World), p ≤ L.length → L.length ≤ p + 1 + g → o ≤ 16 → Below w0.heap.size w0 W →
      Calls Tryz.prog 65 #[.slice (some ⟨b, off, none⟩) n c, .int .i64 (p : Int), .int .i64 (o : Int)] W fun e w' => e = .returned (.int .i64 (endR (behS L g p o))) ∧ Below W.heap.size W w')) :
    Calls Tryz.prog 65 #[.slice (some ⟨b, off, none⟩) n c, .int .i64 (p : Int), .int .i64 (o : Int)] W fun e w' => e = .returned (.int .i64 (endR (behS L f p o))) ∧ Below W.heap.size W w' := by
  have hpn : p < n := by rw [HNL.out]; exact hpl
  obtain ⟨R, hR⟩ : ∃ R, behS L f p o = R := ⟨_, rfl⟩
  have HRR := Lib.hid hR
  rw [hR]
  clear hR
  have h1 : decide ((p : Int) < 0) = false := decide_eq_false (by omega)
  have h2 : decide (n ≤ p) = false := decide_eq_false (by omega)
  have i1 : (p : Int).toNat = p := by omega
  have i2 : (0 : Int) ≤ (p : Int) := by omega
  have i3 : (p : Int) < (n : Int) := by omega
  have pb := lt_of_cell q0
  go_enter Tryz.func65, Tryz.ntmps65
  go_upto_region 4 with fail
  obtain ⟨w2, hw2⟩ : ∃ w2, W.alloc (.cells #[.int .u8 1, .string x1, .string x2, .slice y0 y1 y2, .slice y3 y4 y5, .int .i64 mm] 52 (0, 0)) = w2 := ⟨_, rfl⟩
  have HBA : Hid (Below W.heap.size W w2) := Lib.hid (by rw [← hw2]; exact (Below.refl _ _).alloc (Nat.le_refl _) _)
  have kb : w2.heap[W.heap.size]? = some (.cells #[.int .u8 1, .string x1, .string x2, .slice y0 y1 y2, .slice y3 y4 y5, .int .i64 mm] 52 (0, 0)) := by rw [← hw2]; exact heap_new _ _ _ rfl
  obtain ⟨xb, hxb⟩ : ∃ xb, W.heap.size = xb := ⟨_, rfl⟩
  rw [hxb] at kb
  have MK : Hid (∀ W, Below w2.heap.size w2 W → W.cell? ⟨xb, 0, none⟩ = some (.int .u8 1) ∧ W.cell? ⟨xb, 1, none⟩ = some (.string x1) ∧ W.cell? ⟨xb, 2, none⟩ = some (.string x2) ∧ W.cell? ⟨xb, 3, none⟩ = some (.slice y0 y1 y2) ∧ W.cell? ⟨xb, 4, none⟩ = some (.slice y3 y4 y5) ∧ W.cell? ⟨xb, 5, none⟩ = some (.int .i64 mm)) := Lib.hid fun W hW => ⟨(Lib.cell_of_heap ((hW.block _ (heap_lt kb)).trans kb) 0).trans rfl, (Lib.cell_of_heap ((hW.block _ (heap_lt kb)).trans kb) 1).trans rfl, (Lib.cell_of_heap ((hW.block _ (heap_lt kb)).trans kb) 2).trans rfl, (Lib.cell_of_heap ((hW.block _ (heap_lt kb)).trans kb) 3).trans rfl, (Lib.cell_of_heap ((hW.block _ (heap_lt kb)).trans kb) 4).trans rfl, (Lib.cell_of_heap ((hW.block _ (heap_lt kb)).trans kb) 5).trans rfl⟩
  obtain ⟨d0, d1, d2, d3, d4, d5⟩ := MK.out w2 (Below.refl _ _)
  try rw [hw2]
  try rw [hxb]
  have HBV : Hid (Below w2.heap.size w2 w2) := Lib.hid (Below.refl _ _)
  clear hw2 kb hxb q0 q1 q2 q3 q4 q5 pb h1 h2
  cases m0 with
  | false =>
    obtain rfl := HMM.out (by first | exact rfl | trivial)
    obtain ⟨hn2, hn1, hn1b⟩ := HMN.out (by first | exact rfl | trivial)
    cases tA with
    | false =>
      go_wp2_with fail
      refine (HA.out _ (HBA.out.trans (HBV.out.mono HBA.out.size))).mono ?_; rintro e w5 ⟨rfl, hb⟩
      have HBV2 : Hid (Below w2.heap.size w2 w5) := Lib.hid (HBV.out.trans (hb.mono HBV.out.size))
      obtain ⟨d0, d1, d2, d3, d4, d5⟩ := MK.out w5 HBV2.out
      clear HBV hb
      have HBV := HBV2
      clear HBV2
      have HF : Hid ((-1 : Int) = endR R) := Lib.hid (by rw [← HRR.out, behS_no L f p o hpl (by rw [HQ.out]; rfl)]; rfl)
      go_wp2_with fail
      go_ret
      exact ⟨ret_i HF.out, HBA.out.trans (HBV.out.mono HBA.out.size)⟩
    | true =>
      go_wp2_with fail
      refine (HA.out _ (HBA.out.trans (HBV.out.mono HBA.out.size))).mono ?_; rintro e w5 ⟨rfl, hb⟩
      have HBV2 : Hid (Below w2.heap.size w2 w5) := Lib.hid (HBV.out.trans (hb.mono HBV.out.size))
      obtain ⟨d0, d1, d2, d3, d4, d5⟩ := MK.out w5 HBV2.out
      clear HBV hb
      have HBV := HBV2
      clear HBV2
      cases tD with
      | false =>
        go_wp2_with fail
        refine (HD.out _ (HBA.out.trans (HBV.out.mono HBA.out.size))).mono ?_; rintro e w5 ⟨rfl, hb⟩
        have HBV2 : Hid (Below w2.heap.size w2 w5) := Lib.hid (HBV.out.trans (hb.mono HBV.out.size))
        obtain ⟨d0, d1, d2, d3, d4, d5⟩ := MK.out w5 HBV2.out
        clear HBV hb
        have HBV := HBV2
        clear HBV2
        have HF : Hid ((-1 : Int) = endR R) := Lib.hid (by rw [← HRR.out, behS_no L f p o hpl (by rw [HQ.out]; rfl)]; rfl)
        go_wp2_with fail
        go_ret
        exact ⟨ret_i HF.out, HBA.out.trans (HBV.out.mono HBA.out.size)⟩
      | true =>
        go_wp2_with fail
        refine (HD.out _ (HBA.out.trans (HBV.out.mono HBA.out.size))).mono ?_; rintro e w5 ⟨rfl, hb⟩
        have HBV2 : Hid (Below w2.heap.size w2 w5) := Lib.hid (HBV.out.trans (hb.mono HBV.out.size))
        obtain ⟨d0, d1, d2, d3, d4, d5⟩ := MK.out w5 HBV2.out
        clear HBV hb
        have HBV := HBV2
        clear HBV2
        cases zA with
        | false =>
          have qzA := hzAn rfl
          cases tL with
          | false =>
            go_wp2_with fail
            refine (HL.out _ (HBA.out.trans (HBV.out.mono HBA.out.size))).mono ?_; rintro e w5 ⟨rfl, hb⟩
            have HBV2 : Hid (Below w2.heap.size w2 w5) := Lib.hid (HBV.out.trans (hb.mono HBV.out.size))
            obtain ⟨d0, d1, d2, d3, d4, d5⟩ := MK.out w5 HBV2.out
            clear HBV hb
            have HBV := HBV2
            clear HBV2
            have HF : Hid ((-1 : Int) = endR R) := Lib.hid (by rw [← HRR.out, behS_no L f p o hpl (by rw [HQ.out]; rfl)]; rfl)
            go_wp2_with fail
            go_ret
            exact ⟨ret_i HF.out, HBA.out.trans (HBV.out.mono HBA.out.size)⟩
          | true =>
            go_wp2_with fail
            refine (HL.out _ (HBA.out.trans (HBV.out.mono HBA.out.size))).mono ?_; rintro e w5 ⟨rfl, hb⟩
            have HBV2 : Hid (Below w2.heap.size w2 w5) := Lib.hid (HBV.out.trans (hb.mono HBV.out.size))
            obtain ⟨d0, d1, d2, d3, d4, d5⟩ := MK.out w5 HBV2.out
            clear HBV hb
            have HBV := HBV2
            clear HBV2
            cases tN with
            | false =>
              go_wp2_with fail
              refine (HN.out _ (HBA.out.trans (HBV.out.mono HBA.out.size))).mono ?_; rintro e w5 ⟨rfl, hb⟩
              have HBV2 : Hid (Below w2.heap.size w2 w5) := Lib.hid (HBV.out.trans (hb.mono HBV.out.size))
              obtain ⟨d0, d1, d2, d3, d4, d5⟩ := MK.out w5 HBV2.out
              clear HBV hb
              have HBV := HBV2
              clear HBV2
              have HF : Hid ((-1 : Int) = endR R) := Lib.hid (by rw [← HRR.out, behS_no L f p o hpl (by rw [HQ.out]; rfl)]; rfl)
              go_wp2_with fail
              go_ret
              exact ⟨ret_i HF.out, HBA.out.trans (HBV.out.mono HBA.out.size)⟩
            | true =>
              go_wp2_with fail
              refine (HN.out _ (HBA.out.trans (HBV.out.mono HBA.out.size))).mono ?_; rintro e w5 ⟨rfl, hb⟩
              have HBV2 : Hid (Below w2.heap.size w2 w5) := Lib.hid (HBV.out.trans (hb.mono HBV.out.size))
              obtain ⟨d0, d1, d2, d3, d4, d5⟩ := MK.out w5 HBV2.out
              clear HBV hb
              have HBV := HBV2
              clear HBV2
              cases m2 with
              | false =>
                have HDY : Hid (deepB L[p] o = true) := Lib.hid (by rw [HQ.out]; rfl)
                have HS0 : Hid (RB L f m (o + 1) ((p : Int) + 1) R) := Lib.hid (Or.inl ⟨p + 1, f, by omega, by omega, by omega, Nat.le_refl _, by rw [← HRR.out, behS_yes L f p o hpl HDY.out, HMT.out]⟩)
                have ho4 : m = 0 ∨ o ≤ 15 := HO15.out HDY.out
                have s1 : IntKind.i64.wrap ((p : Int) + 1) = (p : Int) + 1 := IntWalk.i64_in _ (by omega)
                have s2 : IntKind.i64.wrap ((o : Int) + 1) = (o : Int) + 1 := IntWalk.i64_in _ (by omega)
                go_wp2_with fail
                go_loopw [1, 9] (fun at_ ct wr => ∃ (a : Int) (j : Nat), at_ = .int .i64 a ∧ ct = .int .i64 (j : Int) ∧ j ≤ m ∧ -1 ≤ a ∧ a ≤ 100000 ∧ Hid (RB L f (m - j) (o + 1) a R) ∧ Hid (Below w2.heap.size w2 wr)) (fun at_ ct wr => m - (intOf ct).toNat)
                case atStart => exact ⟨(p : Int) + 1, 0, rfl, rfl, Nat.zero_le _, by omega, by omega, HS0, HBV⟩
                case round =>
                  clear HS0 HBV d0 d1 d2 d3 d4 d5
                  rename World => wr
                  obtain ⟨a, j, rfl, rfl, hj, ha1, ha2, HS, HBV⟩ := hrel
                  obtain ⟨d0, d1, d2, d3, d4, d5⟩ := MK.out wr HBV.out
                  by_cases hjm : j < m
                  · have j1 : (j : Int) < (m : Int) := by omega
                    by_cases ha : 0 ≤ a
                    · obtain ⟨r1, hr1⟩ : ∃ r1, m - j = r1 + 1 := ⟨m - j - 1, by omega⟩
                      have hs := HS.out
                      rw [hr1] at hs
                      have hr2 : m - (j + 1) = r1 := by omega
                      obtain ⟨p', rfl, hp', hs2⟩ := hs.next ha
                      obtain ⟨q, HCL, hq, HS2⟩ : ∃ q : Int, Hid (Calls Tryz.prog 65 #[.slice (some ⟨b, off, none⟩) n c, .int .i64 (p' : Int), .int .i64 ((o : Int) + 1)] wr fun e w' => e = .returned (.int .i64 q) ∧ Below wr.heap.size wr w') ∧ (-1 ≤ q ∧ q ≤ 100000) ∧ Hid (RB L f (m - (j + 1)) (o + 1) q R) := by
                        rcases hs2 with ⟨h1, h2⟩ | ⟨g, h1, h2, h3⟩
                        · exact ⟨-1, Lib.hid (rbeh_out _ n c p' _ (by have := HNL.out; omega) (by omega) wr), by omega, Lib.hid (by rw [hr2]; exact h2)⟩
                        · have hle := h3.le
                          refine ⟨endR (behS L g p' (o + 1)), Lib.hid ?_, by have := HNL.out; omega, Lib.hid (by rw [hr2]; exact h3)⟩
                          have := HIH.out g h1 p' (o + 1) wr hp' (by omega) (by omega) (HWB.out.trans ((HBA.out.trans (HBV.out.mono HBA.out.size)).mono HWB.out.size))
                          exact this
                      clear HS hs hs2 hr1 hr2 hp'
                      go_wp2_with fail
                      refine HCL.out.mono ?_; rintro e w6 ⟨rfl, hb⟩
                      have HBN : Hid (Below w2.heap.size w2 w6) := Lib.hid (HBV.out.trans (hb.mono HBV.out.size))
                      clear hb HBV
                      go_wp2_with fail
                      go_roundw
                      case rel => exact ⟨q, j + 1, rfl, by go_num, by omega, hq.1, hq.2, HS2, HBN⟩
                      case measure => simp [intOf]; omega
                    · have HF : Hid (a = endR R) := Lib.hid (HS.out.neg (by omega))
                      have ha3 : ¬ (0 : Int) ≤ a := ha
                      clear HS
                      go_wp2_with fail
                      go_ret
                      exact ⟨ret_i HF.out, HBA.out.trans (HBV.out.mono HBA.out.size)⟩
                  · have hj2 : m - j = 0 := by omega
                    have HF : Hid (a = endR R) := Lib.hid (by have h := HS.out; rw [hj2] at h; exact h.done)
                    have j1 : ¬ (j : Int) < (m : Int) := by omega
                    clear HS hj2
                    go_wp2_with fail
                    go_ret
                    exact ⟨ret_i HF.out, HBA.out.trans (HBV.out.mono HBA.out.size)⟩
              | true =>
                cases oo with
                | false =>
                  have HDY : Hid (deepB L[p] o = true) := Lib.hid (by rw [HQ.out]; rfl)
                  have HS0 : Hid (RB L f m (o + 1) ((p : Int) + 1) R) := Lib.hid (Or.inl ⟨p + 1, f, by omega, by omega, by omega, Nat.le_refl _, by rw [← HRR.out, behS_yes L f p o hpl HDY.out, HMT.out]⟩)
                  have ho4 : m = 0 ∨ o ≤ 15 := HO15.out HDY.out
                  have s1 : IntKind.i64.wrap ((p : Int) + 1) = (p : Int) + 1 := IntWalk.i64_in _ (by omega)
                  have s2 : IntKind.i64.wrap ((o : Int) + 1) = (o : Int) + 1 := IntWalk.i64_in _ (by omega)
                  go_wp2_with fail
                  go_loopw [1, 9] (fun at_ ct wr => ∃ (a : Int) (j : Nat), at_ = .int .i64 a ∧ ct = .int .i64 (j : Int) ∧ j ≤ m ∧ -1 ≤ a ∧ a ≤ 100000 ∧ Hid (RB L f (m - j) (o + 1) a R) ∧ Hid (Below w2.heap.size w2 wr)) (fun at_ ct wr => m - (intOf ct).toNat)
                  case atStart => exact ⟨(p : Int) + 1, 0, rfl, rfl, Nat.zero_le _, by omega, by omega, HS0, HBV⟩
                  case round =>
                    clear HS0 HBV d0 d1 d2 d3 d4 d5
                    rename World => wr
                    obtain ⟨a, j, rfl, rfl, hj, ha1, ha2, HS, HBV⟩ := hrel
                    obtain ⟨d0, d1, d2, d3, d4, d5⟩ := MK.out wr HBV.out
                    by_cases hjm : j < m
                    · have j1 : (j : Int) < (m : Int) := by omega
                      by_cases ha : 0 ≤ a
                      · obtain ⟨r1, hr1⟩ : ∃ r1, m - j = r1 + 1 := ⟨m - j - 1, by omega⟩
                        have hs := HS.out
                        rw [hr1] at hs
                        have hr2 : m - (j + 1) = r1 := by omega
                        obtain ⟨p', rfl, hp', hs2⟩ := hs.next ha
                        obtain ⟨q, HCL, hq, HS2⟩ : ∃ q : Int, Hid (Calls Tryz.prog 65 #[.slice (some ⟨b, off, none⟩) n c, .int .i64 (p' : Int), .int .i64 ((o : Int) + 1)] wr fun e w' => e = .returned (.int .i64 q) ∧ Below wr.heap.size wr w') ∧ (-1 ≤ q ∧ q ≤ 100000) ∧ Hid (RB L f (m - (j + 1)) (o + 1) q R) := by
                          rcases hs2 with ⟨h1, h2⟩ | ⟨g, h1, h2, h3⟩
                          · exact ⟨-1, Lib.hid (rbeh_out _ n c p' _ (by have := HNL.out; omega) (by omega) wr), by omega, Lib.hid (by rw [hr2]; exact h2)⟩
                          · have hle := h3.le
                            refine ⟨endR (behS L g p' (o + 1)), Lib.hid ?_, by have := HNL.out; omega, Lib.hid (by rw [hr2]; exact h3)⟩
                            have := HIH.out g h1 p' (o + 1) wr hp' (by omega) (by omega) (HWB.out.trans ((HBA.out.trans (HBV.out.mono HBA.out.size)).mono HWB.out.size))
                            exact this
                        clear HS hs hs2 hr1 hr2 hp'
                        go_wp2_with fail
                        refine HCL.out.mono ?_; rintro e w6 ⟨rfl, hb⟩
                        have HBN : Hid (Below w2.heap.size w2 w6) := Lib.hid (HBV.out.trans (hb.mono HBV.out.size))
                        clear hb HBV
                        go_wp2_with fail
                        go_roundw
                        case rel => exact ⟨q, j + 1, rfl, by go_num, by omega, hq.1, hq.2, HS2, HBN⟩
                        case measure => simp [intOf]; omega
                      · have HF : Hid (a = endR R) := Lib.hid (HS.out.neg (by omega))
                        have ha3 : ¬ (0 : Int) ≤ a := ha
                        clear HS
                        go_wp2_with fail
                        go_ret
                        exact ⟨ret_i HF.out, HBA.out.trans (HBV.out.mono HBA.out.size)⟩
                    · have hj2 : m - j = 0 := by omega
                      have HF : Hid (a = endR R) := Lib.hid (by have h := HS.out; rw [hj2] at h; exact h.done)
                      have j1 : ¬ (j : Int) < (m : Int) := by omega
                      clear HS hj2
                      go_wp2_with fail
                      go_ret
                      exact ⟨ret_i HF.out, HBA.out.trans (HBV.out.mono HBA.out.size)⟩
                | true =>
                  have HF : Hid ((-1 : Int) = endR R) := Lib.hid (by rw [← HRR.out, behS_no L f p o hpl (by rw [HQ.out]; rfl)]; rfl)
                  go_wp2_with fail
                  go_ret
                  exact ⟨ret_i HF.out, HBA.out.trans (HBV.out.mono HBA.out.size)⟩
        | true =>
          have qzA := hzAp rfl
          cases tN with
          | false =>
            go_wp2_with fail
            refine (HN.out _ (HBA.out.trans (HBV.out.mono HBA.out.size))).mono ?_; rintro e w5 ⟨rfl, hb⟩
            have HBV2 : Hid (Below w2.heap.size w2 w5) := Lib.hid (HBV.out.trans (hb.mono HBV.out.size))
            obtain ⟨d0, d1, d2, d3, d4, d5⟩ := MK.out w5 HBV2.out
            clear HBV hb
            have HBV := HBV2
            clear HBV2
            have HF : Hid ((-1 : Int) = endR R) := Lib.hid (by rw [← HRR.out, behS_no L f p o hpl (by rw [HQ.out]; rfl)]; rfl)
            go_wp2_with fail
            go_ret
            exact ⟨ret_i HF.out, HBA.out.trans (HBV.out.mono HBA.out.size)⟩
          | true =>
            go_wp2_with fail
            refine (HN.out _ (HBA.out.trans (HBV.out.mono HBA.out.size))).mono ?_; rintro e w5 ⟨rfl, hb⟩
            have HBV2 : Hid (Below w2.heap.size w2 w5) := Lib.hid (HBV.out.trans (hb.mono HBV.out.size))
            obtain ⟨d0, d1, d2, d3, d4, d5⟩ := MK.out w5 HBV2.out
            clear HBV hb
            have HBV := HBV2
            clear HBV2
            cases m2 with
            | false =>
              have HDY : Hid (deepB L[p] o = true) := Lib.hid (by rw [HQ.out]; rfl)
              have HS0 : Hid (RB L f m (o + 1) ((p : Int) + 1) R) := Lib.hid (Or.inl ⟨p + 1, f, by omega, by omega, by omega, Nat.le_refl _, by rw [← HRR.out, behS_yes L f p o hpl HDY.out, HMT.out]⟩)
              have ho4 : m = 0 ∨ o ≤ 15 := HO15.out HDY.out
              have s1 : IntKind.i64.wrap ((p : Int) + 1) = (p : Int) + 1 := IntWalk.i64_in _ (by omega)
              have s2 : IntKind.i64.wrap ((o : Int) + 1) = (o : Int) + 1 := IntWalk.i64_in _ (by omega)
              go_wp2_with fail
              go_loopw [1, 9] (fun at_ ct wr => ∃ (a : Int) (j : Nat), at_ = .int .i64 a ∧ ct = .int .i64 (j : Int) ∧ j ≤ m ∧ -1 ≤ a ∧ a ≤ 100000 ∧ Hid (RB L f (m - j) (o + 1) a R) ∧ Hid (Below w2.heap.size w2 wr)) (fun at_ ct wr => m - (intOf ct).toNat)
              case atStart => exact ⟨(p : Int) + 1, 0, rfl, rfl, Nat.zero_le _, by omega, by omega, HS0, HBV⟩
              case round =>
                clear HS0 HBV d0 d1 d2 d3 d4 d5
                rename World => wr
                obtain ⟨a, j, rfl, rfl, hj, ha1, ha2, HS, HBV⟩ := hrel
                obtain ⟨d0, d1, d2, d3, d4, d5⟩ := MK.out wr HBV.out
                by_cases hjm : j < m
                · have j1 : (j : Int) < (m : Int) := by omega
                  by_cases ha : 0 ≤ a
                  · obtain ⟨r1, hr1⟩ : ∃ r1, m - j = r1 + 1 := ⟨m - j - 1, by omega⟩
                    have hs := HS.out
                    rw [hr1] at hs
                    have hr2 : m - (j + 1) = r1 := by omega
                    obtain ⟨p', rfl, hp', hs2⟩ := hs.next ha
                    obtain ⟨q, HCL, hq, HS2⟩ : ∃ q : Int, Hid (Calls Tryz.prog 65 #[.slice (some ⟨b, off, none⟩) n c, .int .i64 (p' : Int), .int .i64 ((o : Int) + 1)] wr fun e w' => e = .returned (.int .i64 q) ∧ Below wr.heap.size wr w') ∧ (-1 ≤ q ∧ q ≤ 100000) ∧ Hid (RB L f (m - (j + 1)) (o + 1) q R) := by
                      rcases hs2 with ⟨h1, h2⟩ | ⟨g, h1, h2, h3⟩
                      · exact ⟨-1, Lib.hid (rbeh_out _ n c p' _ (by have := HNL.out; omega) (by omega) wr), by omega, Lib.hid (by rw [hr2]; exact h2)⟩
                      · have hle := h3.le
                        refine ⟨endR (behS L g p' (o + 1)), Lib.hid ?_, by have := HNL.out; omega, Lib.hid (by rw [hr2]; exact h3)⟩
                        have := HIH.out g h1 p' (o + 1) wr hp' (by omega) (by omega) (HWB.out.trans ((HBA.out.trans (HBV.out.mono HBA.out.size)).mono HWB.out.size))
                        exact this
                    clear HS hs hs2 hr1 hr2 hp'
                    go_wp2_with fail
                    refine HCL.out.mono ?_; rintro e w6 ⟨rfl, hb⟩
                    have HBN : Hid (Below w2.heap.size w2 w6) := Lib.hid (HBV.out.trans (hb.mono HBV.out.size))
                    clear hb HBV
                    go_wp2_with fail
                    go_roundw
                    case rel => exact ⟨q, j + 1, rfl, by go_num, by omega, hq.1, hq.2, HS2, HBN⟩
                    case measure => simp [intOf]; omega
                  · have HF : Hid (a = endR R) := Lib.hid (HS.out.neg (by omega))
                    have ha3 : ¬ (0 : Int) ≤ a := ha
                    clear HS
                    go_wp2_with fail
                    go_ret
                    exact ⟨ret_i HF.out, HBA.out.trans (HBV.out.mono HBA.out.size)⟩
                · have hj2 : m - j = 0 := by omega
                  have HF : Hid (a = endR R) := Lib.hid (by have h := HS.out; rw [hj2] at h; exact h.done)
                  have j1 : ¬ (j : Int) < (m : Int) := by omega
                  clear HS hj2
                  go_wp2_with fail
                  go_ret
                  exact ⟨ret_i HF.out, HBA.out.trans (HBV.out.mono HBA.out.size)⟩
            | true =>
              cases oo with
              | false =>
                have HDY : Hid (deepB L[p] o = true) := Lib.hid (by rw [HQ.out]; rfl)
                have HS0 : Hid (RB L f m (o + 1) ((p : Int) + 1) R) := Lib.hid (Or.inl ⟨p + 1, f, by omega, by omega, by omega, Nat.le_refl _, by rw [← HRR.out, behS_yes L f p o hpl HDY.out, HMT.out]⟩)
                have ho4 : m = 0 ∨ o ≤ 15 := HO15.out HDY.out
                have s1 : IntKind.i64.wrap ((p : Int) + 1) = (p : Int) + 1 := IntWalk.i64_in _ (by omega)
                have s2 : IntKind.i64.wrap ((o : Int) + 1) = (o : Int) + 1 := IntWalk.i64_in _ (by omega)
                go_wp2_with fail
                go_loopw [1, 9] (fun at_ ct wr => ∃ (a : Int) (j : Nat), at_ = .int .i64 a ∧ ct = .int .i64 (j : Int) ∧ j ≤ m ∧ -1 ≤ a ∧ a ≤ 100000 ∧ Hid (RB L f (m - j) (o + 1) a R) ∧ Hid (Below w2.heap.size w2 wr)) (fun at_ ct wr => m - (intOf ct).toNat)
                case atStart => exact ⟨(p : Int) + 1, 0, rfl, rfl, Nat.zero_le _, by omega, by omega, HS0, HBV⟩
                case round =>
                  clear HS0 HBV d0 d1 d2 d3 d4 d5
                  rename World => wr
                  obtain ⟨a, j, rfl, rfl, hj, ha1, ha2, HS, HBV⟩ := hrel
                  obtain ⟨d0, d1, d2, d3, d4, d5⟩ := MK.out wr HBV.out
                  by_cases hjm : j < m
                  · have j1 : (j : Int) < (m : Int) := by omega
                    by_cases ha : 0 ≤ a
                    · obtain ⟨r1, hr1⟩ : ∃ r1, m - j = r1 + 1 := ⟨m - j - 1, by omega⟩
                      have hs := HS.out
                      rw [hr1] at hs
                      have hr2 : m - (j + 1) = r1 := by omega
                      obtain ⟨p', rfl, hp', hs2⟩ := hs.next ha
                      obtain ⟨q, HCL, hq, HS2⟩ : ∃ q : Int, Hid (Calls Tryz.prog 65 #[.slice (some ⟨b, off, none⟩) n c, .int .i64 (p' : Int), .int .i64 ((o : Int) + 1)] wr fun e w' => e = .returned (.int .i64 q) ∧ Below wr.heap.size wr w') ∧ (-1 ≤ q ∧ q ≤ 100000) ∧ Hid (RB L f (m - (j + 1)) (o + 1) q R) := by
                        rcases hs2 with ⟨h1, h2⟩ | ⟨g, h1, h2, h3⟩
                        · exact ⟨-1, Lib.hid (rbeh_out _ n c p' _ (by have := HNL.out; omega) (by omega) wr), by omega, Lib.hid (by rw [hr2]; exact h2)⟩
                        · have hle := h3.le
                          refine ⟨endR (behS L g p' (o + 1)), Lib.hid ?_, by have := HNL.out; omega, Lib.hid (by rw [hr2]; exact h3)⟩
                          have := HIH.out g h1 p' (o + 1) wr hp' (by omega) (by omega) (HWB.out.trans ((HBA.out.trans (HBV.out.mono HBA.out.size)).mono HWB.out.size))
                          exact this
                      clear HS hs hs2 hr1 hr2 hp'
                      go_wp2_with fail
                      refine HCL.out.mono ?_; rintro e w6 ⟨rfl, hb⟩
                      have HBN : Hid (Below w2.heap.size w2 w6) := Lib.hid (HBV.out.trans (hb.mono HBV.out.size))
                      clear hb HBV
                      go_wp2_with fail
                      go_roundw
                      case rel => exact ⟨q, j + 1, rfl, by go_num, by omega, hq.1, hq.2, HS2, HBN⟩
                      case measure => simp [intOf]; omega
                    · have HF : Hid (a = endR R) := Lib.hid (HS.out.neg (by omega))
                      have ha3 : ¬ (0 : Int) ≤ a := ha
                      clear HS
                      go_wp2_with fail
                      go_ret
                      exact ⟨ret_i HF.out, HBA.out.trans (HBV.out.mono HBA.out.size)⟩
                  · have hj2 : m - j = 0 := by omega
                    have HF : Hid (a = endR R) := Lib.hid (by have h := HS.out; rw [hj2] at h; exact h.done)
                    have j1 : ¬ (j : Int) < (m : Int) := by omega
                    clear HS hj2
                    go_wp2_with fail
                    go_ret
                    exact ⟨ret_i HF.out, HBA.out.trans (HBV.out.mono HBA.out.size)⟩
              | true =>
                have HF : Hid ((-1 : Int) = endR R) := Lib.hid (by rw [← HRR.out, behS_no L f p o hpl (by rw [HQ.out]; rfl)]; rfl)
                go_wp2_with fail
                go_ret
                exact ⟨ret_i HF.out, HBA.out.trans (HBV.out.mono HBA.out.size)⟩
  | true =>
    have HF : Hid ((-1 : Int) = endR R) := Lib.hid (by rw [← HRR.out, behS_no L f p o hpl (by rw [HQ.out]; rfl)]; rfl)
    go_wp2_with fail
    go_ret
    exact ⟨ret_i HF.out, HBA.out.trans (HBV.out.mono HBA.out.size)⟩
set_option maxRecDepth 100000 in
set_option maxHeartbeats 16000000 in
theorem rbeh_k2 (L : List SelD) (b off n c : Nat) (p o f m : Nat) (W : World) (x1 x2 : ByteArray) (y0 y3 : Option Addr) (y1 y2 y4 y5 : Nat) (mm : Int) 
    (w0 : World) (HWB : Hid (Below w0.heap.size w0 W)) (HNL : Hid (n = L.length)) (hn : n ≤ 100000) (hpl : p < L.length) (hf : L.length ≤ p + 1 + f) (ho : o ≤ 16)
    (q0 : W.cell? ⟨b, off + p * 6, none⟩ = some (.int .u8 2)) (q1 : W.cell? ⟨b, off + p * 6 + 1, none⟩ = some (.string x1)) (q2 : W.cell? ⟨b, off + p * 6 + 2, none⟩ = some (.string x2)) (q3 : W.cell? ⟨b, off + p * 6 + 3, none⟩ = some (.slice y0 y1 y2)) (q4 : W.cell? ⟨b, off + p * 6 + 4, none⟩ = some (.slice y3 y4 y5)) (q5 : W.cell? ⟨b, off + p * 6 + 5, none⟩ = some (.int .i64 mm))
    (tA tD tL tN zA zN on eA m0 m1 m2 oo : Bool)
    (HA : Hid (∀ W', Below W.heap.size W W' → Calls Tryz.prog 77 #[.slice y0 y1 y2] W' fun e w' => e = .returned (.bool tA) ∧ Below W'.heap.size W' w'))
    (HD : Hid (∀ W', Below W.heap.size W W' → Calls Tryz.prog 78 #[.slice y3 y4 y5] W' fun e w' => e = .returned (.bool tD) ∧ Below W'.heap.size W' w'))
    (HL : Hid (∀ W', Below W.heap.size W W' → Calls Tryz.prog 44 #[.string x1] W' fun e w' => e = .returned (.bool tL) ∧ Below W'.heap.size W' w'))
    (HN : Hid (∀ W', Below W.heap.size W W' → Calls Tryz.prog 44 #[.string x2] W' fun e w' => e = .returned (.bool tN) ∧ Below W'.heap.size W' w'))
    (hzA : (x1.toList == []) = zA) (hzAe : x1.toList.isEmpty = zA) (hzAp : zA = true → x1.toList = []) (hzAn : zA = false → ¬ x1.toList = []) (hzN : (x2.toList == []) = zN) (hzNe : x2.toList.isEmpty = zN) (hzNp : zN = true → x2.toList = []) (hzNn : zN = false → ¬ x2.toList = [])
    (hon : (x2.toList == [111, 110]) = on) (honp : on = true → x2.toList = [111, 110]) (honn : on = false → ¬ x2.toList = [111, 110])
    (heA : decide ((0 : Int) < (y1 : Int)) = eA) (heA2 : decide (0 < y1) = eA) (hm0 : decide (mm < 0) = m0) (hm1 : (mm == 0) = m1) (hm1b : (mm != 0) = !m1) (hm2 : decide (0 < mm) = m2) (hoo : ((o : Int) == 16) = oo)
    (HMM : Hid (m0 = false → mm = (m : Int))) (HMN : Hid (m0 = false → decide (0 < m) = m2 ∧ (m == 0) = m1 ∧ (m != 0) = !m1)) (HM12 : Hid (m1 = true → m2 = false)) (HM13 : Hid (m0 = false → m1 = false → m2 = true)) (HMT : Hid (L[p].many.toNat = m)) (HO15 : Hid (deepB L[p] o = true → m = 0 ∨ o ≤ 15)) (hmx : (m : Int) ≤ 9223372036854775807)
    (HQ : Hid (deepB L[p] o = !((false || false || m0 || !tA || !tD || (!false && (!zA || eA))) || ((!zA && !tL) || (!tN && (!false || !zN))) || ((true && (!m1 || on)) || (false && m1) || (m2 && oo)))))
    (HIH : Hid (∀ g, g < f → ∀ (p o : Nat) (W : World), p ≤ L.length → L.length ≤ p + 1 + g → o ≤ 16 → Below w0.heap.size w0 W →
      Calls Tryz.prog 65 #[.slice (some ⟨b, off, none⟩) n c, .int .i64 (p : Int), .int .i64 (o : Int)] W fun e w' => e = .returned (.int .i64 (endR (behS L g p o))) ∧ Below W.heap.size W w')) :
    Calls Tryz.prog 65 #[.slice (some ⟨b, off, none⟩) n c, .int .i64 (p : Int), .int .i64 (o : Int)] W fun e w' => e = .returned (.int .i64 (endR (behS L f p o))) ∧ Below W.heap.size W w' := by
  have hpn : p < n := by rw [HNL.out]; exact hpl
  obtain ⟨R, hR⟩ : ∃ R, behS L f p o = R := ⟨_, rfl⟩
  have HRR := Lib.hid hR
  rw [hR]
  clear hR
  have h1 : decide ((p : Int) < 0) = false := decide_eq_false (by omega)
  have h2 : decide (n ≤ p) = false := decide_eq_false (by omega)
  have i1 : (p : Int).toNat = p := by omega
  have i2 : (0 : Int) ≤ (p : Int) := by omega
  have i3 : (p : Int) < (n : Int) := by omega
  have pb := lt_of_cell q0
  go_enter Tryz.func65, Tryz.ntmps65
  go_upto_region 4 with fail
  obtain ⟨w2, hw2⟩ : ∃ w2, W.alloc (.cells #[.int .u8 2, .string x1, .string x2, .slice y0 y1 y2, .slice y3 y4 y5, .int .i64 mm] 52 (0, 0)) = w2 := ⟨_, rfl⟩
  have HBA : Hid (Below W.heap.size W w2) := Lib.hid (by rw [← hw2]; exact (Below.refl _ _).alloc (Nat.le_refl _) _)
  have kb : w2.heap[W.heap.size]? = some (.cells #[.int .u8 2, .string x1, .string x2, .slice y0 y1 y2, .slice y3 y4 y5, .int .i64 mm] 52 (0, 0)) := by rw [← hw2]; exact heap_new _ _ _ rfl
  obtain ⟨xb, hxb⟩ : ∃ xb, W.heap.size = xb := ⟨_, rfl⟩
  rw [hxb] at kb
  have MK : Hid (∀ W, Below w2.heap.size w2 W → W.cell? ⟨xb, 0, none⟩ = some (.int .u8 2) ∧ W.cell? ⟨xb, 1, none⟩ = some (.string x1) ∧ W.cell? ⟨xb, 2, none⟩ = some (.string x2) ∧ W.cell? ⟨xb, 3, none⟩ = some (.slice y0 y1 y2) ∧ W.cell? ⟨xb, 4, none⟩ = some (.slice y3 y4 y5) ∧ W.cell? ⟨xb, 5, none⟩ = some (.int .i64 mm)) := Lib.hid fun W hW => ⟨(Lib.cell_of_heap ((hW.block _ (heap_lt kb)).trans kb) 0).trans rfl, (Lib.cell_of_heap ((hW.block _ (heap_lt kb)).trans kb) 1).trans rfl, (Lib.cell_of_heap ((hW.block _ (heap_lt kb)).trans kb) 2).trans rfl, (Lib.cell_of_heap ((hW.block _ (heap_lt kb)).trans kb) 3).trans rfl, (Lib.cell_of_heap ((hW.block _ (heap_lt kb)).trans kb) 4).trans rfl, (Lib.cell_of_heap ((hW.block _ (heap_lt kb)).trans kb) 5).trans rfl⟩
  obtain ⟨d0, d1, d2, d3, d4, d5⟩ := MK.out w2 (Below.refl _ _)
  try rw [hw2]
  try rw [hxb]
  have HBV : Hid (Below w2.heap.size w2 w2) := Lib.hid (Below.refl _ _)
  clear hw2 kb hxb q0 q1 q2 q3 q4 q5 pb h1 h2
  cases m0 with
  | false =>
    obtain rfl := HMM.out (by first | exact rfl | trivial)
    obtain ⟨hn2, hn1, hn1b⟩ := HMN.out (by first | exact rfl | trivial)
    cases tA with
    | false =>
      go_wp2_with fail
      refine (HA.out _ (HBA.out.trans (HBV.out.mono HBA.out.size))).mono ?_; rintro e w5 ⟨rfl, hb⟩
      have HBV2 : Hid (Below w2.heap.size w2 w5) := Lib.hid (HBV.out.trans (hb.mono HBV.out.size))
      obtain ⟨d0, d1, d2, d3, d4, d5⟩ := MK.out w5 HBV2.out
      clear HBV hb
      have HBV := HBV2
      clear HBV2
      have HF : Hid ((-1 : Int) = endR R) := Lib.hid (by rw [← HRR.out, behS_no L f p o hpl (by rw [HQ.out]; rfl)]; rfl)
      go_wp2_with fail
      go_ret
      exact ⟨ret_i HF.out, HBA.out.trans (HBV.out.mono HBA.out.size)⟩
    | true =>
      go_wp2_with fail
      refine (HA.out _ (HBA.out.trans (HBV.out.mono HBA.out.size))).mono ?_; rintro e w5 ⟨rfl, hb⟩
      have HBV2 : Hid (Below w2.heap.size w2 w5) := Lib.hid (HBV.out.trans (hb.mono HBV.out.size))
      obtain ⟨d0, d1, d2, d3, d4, d5⟩ := MK.out w5 HBV2.out
      clear HBV hb
      have HBV := HBV2
      clear HBV2
      cases tD with
      | false =>
        go_wp2_with fail
        refine (HD.out _ (HBA.out.trans (HBV.out.mono HBA.out.size))).mono ?_; rintro e w5 ⟨rfl, hb⟩
        have HBV2 : Hid (Below w2.heap.size w2 w5) := Lib.hid (HBV.out.trans (hb.mono HBV.out.size))
        obtain ⟨d0, d1, d2, d3, d4, d5⟩ := MK.out w5 HBV2.out
        clear HBV hb
        have HBV := HBV2
        clear HBV2
        have HF : Hid ((-1 : Int) = endR R) := Lib.hid (by rw [← HRR.out, behS_no L f p o hpl (by rw [HQ.out]; rfl)]; rfl)
        go_wp2_with fail
        go_ret
        exact ⟨ret_i HF.out, HBA.out.trans (HBV.out.mono HBA.out.size)⟩
      | true =>
        go_wp2_with fail
        refine (HD.out _ (HBA.out.trans (HBV.out.mono HBA.out.size))).mono ?_; rintro e w5 ⟨rfl, hb⟩
        have HBV2 : Hid (Below w2.heap.size w2 w5) := Lib.hid (HBV.out.trans (hb.mono HBV.out.size))
        obtain ⟨d0, d1, d2, d3, d4, d5⟩ := MK.out w5 HBV2.out
        clear HBV hb
        have HBV := HBV2
        clear HBV2
        cases zA with
        | false =>
          have qzA := hzAn rfl
          have HF : Hid ((-1 : Int) = endR R) := Lib.hid (by rw [← HRR.out, behS_no L f p o hpl (by rw [HQ.out]; rfl)]; rfl)
          go_wp2_with fail
          go_ret
          exact ⟨ret_i HF.out, HBA.out.trans (HBV.out.mono HBA.out.size)⟩
        | true =>
          have qzA := hzAp rfl
          cases eA with
          | false =>
            cases tN with
            | false =>
              go_wp2_with fail
              refine (HN.out _ (HBA.out.trans (HBV.out.mono HBA.out.size))).mono ?_; rintro e w5 ⟨rfl, hb⟩
              have HBV2 : Hid (Below w2.heap.size w2 w5) := Lib.hid (HBV.out.trans (hb.mono HBV.out.size))
              obtain ⟨d0, d1, d2, d3, d4, d5⟩ := MK.out w5 HBV2.out
              clear HBV hb
              have HBV := HBV2
              clear HBV2
              have HF : Hid ((-1 : Int) = endR R) := Lib.hid (by rw [← HRR.out, behS_no L f p o hpl (by rw [HQ.out]; rfl)]; rfl)
              go_wp2_with fail
              go_ret
              exact ⟨ret_i HF.out, HBA.out.trans (HBV.out.mono HBA.out.size)⟩
            | true =>
              go_wp2_with fail
              refine (HN.out _ (HBA.out.trans (HBV.out.mono HBA.out.size))).mono ?_; rintro e w5 ⟨rfl, hb⟩
              have HBV2 : Hid (Below w2.heap.size w2 w5) := Lib.hid (HBV.out.trans (hb.mono HBV.out.size))
              obtain ⟨d0, d1, d2, d3, d4, d5⟩ := MK.out w5 HBV2.out
              clear HBV hb
              have HBV := HBV2
              clear HBV2
              cases m1 with
              | false =>
                have HF : Hid ((-1 : Int) = endR R) := Lib.hid (by rw [← HRR.out, behS_no L f p o hpl (by rw [HQ.out]; rfl)]; rfl)
                go_wp2_with fail
                go_ret
                exact ⟨ret_i HF.out, HBA.out.trans (HBV.out.mono HBA.out.size)⟩
              | true =>
                obtain rfl : m2 = false := HM12.out (by first | exact rfl | trivial)
                cases on with
                | false =>
                  have qon := honn rfl
                  have HDY : Hid (deepB L[p] o = true) := Lib.hid (by rw [HQ.out]; rfl)
                  have HS0 : Hid (RB L f m (o + 1) ((p : Int) + 1) R) := Lib.hid (Or.inl ⟨p + 1, f, by omega, by omega, by omega, Nat.le_refl _, by rw [← HRR.out, behS_yes L f p o hpl HDY.out, HMT.out]⟩)
                  have ho4 : m = 0 ∨ o ≤ 15 := HO15.out HDY.out
                  have s1 : IntKind.i64.wrap ((p : Int) + 1) = (p : Int) + 1 := IntWalk.i64_in _ (by omega)
                  have s2 : IntKind.i64.wrap ((o : Int) + 1) = (o : Int) + 1 := IntWalk.i64_in _ (by omega)
                  go_wp2_with fail
                  go_loopw [1, 9] (fun at_ ct wr => ∃ (a : Int) (j : Nat), at_ = .int .i64 a ∧ ct = .int .i64 (j : Int) ∧ j ≤ m ∧ -1 ≤ a ∧ a ≤ 100000 ∧ Hid (RB L f (m - j) (o + 1) a R) ∧ Hid (Below w2.heap.size w2 wr)) (fun at_ ct wr => m - (intOf ct).toNat)
                  case atStart => exact ⟨(p : Int) + 1, 0, rfl, rfl, Nat.zero_le _, by omega, by omega, HS0, HBV⟩
                  case round =>
                    clear HS0 HBV d0 d1 d2 d3 d4 d5
                    rename World => wr
                    obtain ⟨a, j, rfl, rfl, hj, ha1, ha2, HS, HBV⟩ := hrel
                    obtain ⟨d0, d1, d2, d3, d4, d5⟩ := MK.out wr HBV.out
                    by_cases hjm : j < m
                    · have j1 : (j : Int) < (m : Int) := by omega
                      by_cases ha : 0 ≤ a
                      · obtain ⟨r1, hr1⟩ : ∃ r1, m - j = r1 + 1 := ⟨m - j - 1, by omega⟩
                        have hs := HS.out
                        rw [hr1] at hs
                        have hr2 : m - (j + 1) = r1 := by omega
                        obtain ⟨p', rfl, hp', hs2⟩ := hs.next ha
                        obtain ⟨q, HCL, hq, HS2⟩ : ∃ q : Int, Hid (Calls Tryz.prog 65 #[.slice (some ⟨b, off, none⟩) n c, .int .i64 (p' : Int), .int .i64 ((o : Int) + 1)] wr fun e w' => e = .returned (.int .i64 q) ∧ Below wr.heap.size wr w') ∧ (-1 ≤ q ∧ q ≤ 100000) ∧ Hid (RB L f (m - (j + 1)) (o + 1) q R) := by
                          rcases hs2 with ⟨h1, h2⟩ | ⟨g, h1, h2, h3⟩
                          · exact ⟨-1, Lib.hid (rbeh_out _ n c p' _ (by have := HNL.out; omega) (by omega) wr), by omega, Lib.hid (by rw [hr2]; exact h2)⟩
                          · have hle := h3.le
                            refine ⟨endR (behS L g p' (o + 1)), Lib.hid ?_, by have := HNL.out; omega, Lib.hid (by rw [hr2]; exact h3)⟩
                            have := HIH.out g h1 p' (o + 1) wr hp' (by omega) (by omega) (HWB.out.trans ((HBA.out.trans (HBV.out.mono HBA.out.size)).mono HWB.out.size))
                            exact this
                        clear HS hs hs2 hr1 hr2 hp'
                        go_wp2_with fail
                        refine HCL.out.mono ?_; rintro e w6 ⟨rfl, hb⟩
                        have HBN : Hid (Below w2.heap.size w2 w6) := Lib.hid (HBV.out.trans (hb.mono HBV.out.size))
                        clear hb HBV
                        go_wp2_with fail
                        go_roundw
                        case rel => exact ⟨q, j + 1, rfl, by go_num, by omega, hq.1, hq.2, HS2, HBN⟩
                        case measure => simp [intOf]; omega
                      · have HF : Hid (a = endR R) := Lib.hid (HS.out.neg (by omega))
                        have ha3 : ¬ (0 : Int) ≤ a := ha
                        clear HS
                        go_wp2_with fail
                        go_ret
                        exact ⟨ret_i HF.out, HBA.out.trans (HBV.out.mono HBA.out.size)⟩
                    · have hj2 : m - j = 0 := by omega
                      have HF : Hid (a = endR R) := Lib.hid (by have h := HS.out; rw [hj2] at h; exact h.done)
                      have j1 : ¬ (j : Int) < (m : Int) := by omega
                      clear HS hj2
                      go_wp2_with fail
                      go_ret
                      exact ⟨ret_i HF.out, HBA.out.trans (HBV.out.mono HBA.out.size)⟩
                | true =>
                  have qon := honp rfl
                  have HF : Hid ((-1 : Int) = endR R) := Lib.hid (by rw [← HRR.out, behS_no L f p o hpl (by rw [HQ.out]; rfl)]; rfl)
                  go_wp2_with fail
                  go_ret
                  exact ⟨ret_i HF.out, HBA.out.trans (HBV.out.mono HBA.out.size)⟩
          | true =>
            have HF : Hid ((-1 : Int) = endR R) := Lib.hid (by rw [← HRR.out, behS_no L f p o hpl (by rw [HQ.out]; rfl)]; rfl)
            go_wp2_with fail
            go_ret
            exact ⟨ret_i HF.out, HBA.out.trans (HBV.out.mono HBA.out.size)⟩
  | true =>
    have HF : Hid ((-1 : Int) = endR R) := Lib.hid (by rw [← HRR.out, behS_no L f p o hpl (by rw [HQ.out]; rfl)]; rfl)
    go_wp2_with fail
    go_ret
    exact ⟨ret_i HF.out, HBA.out.trans (HBV.out.mono HBA.out.size)⟩
set_option maxRecDepth 100000 in
set_option maxHeartbeats 16000000 in
theorem rbeh_k3 (L : List SelD) (b off n c : Nat) (p o f m : Nat) (W : World) (x1 x2 : ByteArray) (y0 y3 : Option Addr) (y1 y2 y4 y5 : Nat) (mm : Int) 
    (w0 : World) (HWB : Hid (Below w0.heap.size w0 W)) (HNL : Hid (n = L.length)) (hn : n ≤ 100000) (hpl : p < L.length) (hf : L.length ≤ p + 1 + f) (ho : o ≤ 16)
    (q0 : W.cell? ⟨b, off + p * 6, none⟩ = some (.int .u8 3)) (q1 : W.cell? ⟨b, off + p * 6 + 1, none⟩ = some (.string x1)) (q2 : W.cell? ⟨b, off + p * 6 + 2, none⟩ = some (.string x2)) (q3 : W.cell? ⟨b, off + p * 6 + 3, none⟩ = some (.slice y0 y1 y2)) (q4 : W.cell? ⟨b, off + p * 6 + 4, none⟩ = some (.slice y3 y4 y5)) (q5 : W.cell? ⟨b, off + p * 6 + 5, none⟩ = some (.int .i64 mm))
    (tA tD tL tN zA zN on eA m0 m1 m2 oo : Bool)
    (HA : Hid (∀ W', Below W.heap.size W W' → Calls Tryz.prog 77 #[.slice y0 y1 y2] W' fun e w' => e = .returned (.bool tA) ∧ Below W'.heap.size W' w'))
    (HD : Hid (∀ W', Below W.heap.size W W' → Calls Tryz.prog 78 #[.slice y3 y4 y5] W' fun e w' => e = .returned (.bool tD) ∧ Below W'.heap.size W' w'))
    (HL : Hid (∀ W', Below W.heap.size W W' → Calls Tryz.prog 44 #[.string x1] W' fun e w' => e = .returned (.bool tL) ∧ Below W'.heap.size W' w'))
    (HN : Hid (∀ W', Below W.heap.size W W' → Calls Tryz.prog 44 #[.string x2] W' fun e w' => e = .returned (.bool tN) ∧ Below W'.heap.size W' w'))
    (hzA : (x1.toList == []) = zA) (hzAe : x1.toList.isEmpty = zA) (hzAp : zA = true → x1.toList = []) (hzAn : zA = false → ¬ x1.toList = []) (hzN : (x2.toList == []) = zN) (hzNe : x2.toList.isEmpty = zN) (hzNp : zN = true → x2.toList = []) (hzNn : zN = false → ¬ x2.toList = [])
    (hon : (x2.toList == [111, 110]) = on) (honp : on = true → x2.toList = [111, 110]) (honn : on = false → ¬ x2.toList = [111, 110])
    (heA : decide ((0 : Int) < (y1 : Int)) = eA) (heA2 : decide (0 < y1) = eA) (hm0 : decide (mm < 0) = m0) (hm1 : (mm == 0) = m1) (hm1b : (mm != 0) = !m1) (hm2 : decide (0 < mm) = m2) (hoo : ((o : Int) == 16) = oo)
    (HMM : Hid (m0 = false → mm = (m : Int))) (HMN : Hid (m0 = false → decide (0 < m) = m2 ∧ (m == 0) = m1 ∧ (m != 0) = !m1)) (HM12 : Hid (m1 = true → m2 = false)) (HM13 : Hid (m0 = false → m1 = false → m2 = true)) (HMT : Hid (L[p].many.toNat = m)) (HO15 : Hid (deepB L[p] o = true → m = 0 ∨ o ≤ 15)) (hmx : (m : Int) ≤ 9223372036854775807)
    (HQ : Hid (deepB L[p] o = !((false || false || m0 || !tA || !tD || (!false && (!zA || eA))) || ((!zA && !tL) || (!tN && (!true || !zN))) || ((false && (!m1 || on)) || (true && m1) || (m2 && oo)))))
    (HIH : Hid (∀ g, g < f → ∀ (p o : Nat) (W : World), p ≤ L.length → L.length ≤ p + 1 + g → o ≤ 16 → Below w0.heap.size w0 W →
      Calls Tryz.prog 65 #[.slice (some ⟨b, off, none⟩) n c, .int .i64 (p : Int), .int .i64 (o : Int)] W fun e w' => e = .returned (.int .i64 (endR (behS L g p o))) ∧ Below W.heap.size W w')) :
    Calls Tryz.prog 65 #[.slice (some ⟨b, off, none⟩) n c, .int .i64 (p : Int), .int .i64 (o : Int)] W fun e w' => e = .returned (.int .i64 (endR (behS L f p o))) ∧ Below W.heap.size W w' := by
  have hpn : p < n := by rw [HNL.out]; exact hpl
  obtain ⟨R, hR⟩ : ∃ R, behS L f p o = R := ⟨_, rfl⟩
  have HRR := Lib.hid hR
  rw [hR]
  clear hR
  have h1 : decide ((p : Int) < 0) = false := decide_eq_false (by omega)
  have h2 : decide (n ≤ p) = false := decide_eq_false (by omega)
  have i1 : (p : Int).toNat = p := by omega
  have i2 : (0 : Int) ≤ (p : Int) := by omega
  have i3 : (p : Int) < (n : Int) := by omega
  have pb := lt_of_cell q0
  go_enter Tryz.func65, Tryz.ntmps65
  go_upto_region 4 with fail
  obtain ⟨w2, hw2⟩ : ∃ w2, W.alloc (.cells #[.int .u8 3, .string x1, .string x2, .slice y0 y1 y2, .slice y3 y4 y5, .int .i64 mm] 52 (0, 0)) = w2 := ⟨_, rfl⟩
  have HBA : Hid (Below W.heap.size W w2) := Lib.hid (by rw [← hw2]; exact (Below.refl _ _).alloc (Nat.le_refl _) _)
  have kb : w2.heap[W.heap.size]? = some (.cells #[.int .u8 3, .string x1, .string x2, .slice y0 y1 y2, .slice y3 y4 y5, .int .i64 mm] 52 (0, 0)) := by rw [← hw2]; exact heap_new _ _ _ rfl
  obtain ⟨xb, hxb⟩ : ∃ xb, W.heap.size = xb := ⟨_, rfl⟩
  rw [hxb] at kb
  have MK : Hid (∀ W, Below w2.heap.size w2 W → W.cell? ⟨xb, 0, none⟩ = some (.int .u8 3) ∧ W.cell? ⟨xb, 1, none⟩ = some (.string x1) ∧ W.cell? ⟨xb, 2, none⟩ = some (.string x2) ∧ W.cell? ⟨xb, 3, none⟩ = some (.slice y0 y1 y2) ∧ W.cell? ⟨xb, 4, none⟩ = some (.slice y3 y4 y5) ∧ W.cell? ⟨xb, 5, none⟩ = some (.int .i64 mm)) := Lib.hid fun W hW => ⟨(Lib.cell_of_heap ((hW.block _ (heap_lt kb)).trans kb) 0).trans rfl, (Lib.cell_of_heap ((hW.block _ (heap_lt kb)).trans kb) 1).trans rfl, (Lib.cell_of_heap ((hW.block _ (heap_lt kb)).trans kb) 2).trans rfl, (Lib.cell_of_heap ((hW.block _ (heap_lt kb)).trans kb) 3).trans rfl, (Lib.cell_of_heap ((hW.block _ (heap_lt kb)).trans kb) 4).trans rfl, (Lib.cell_of_heap ((hW.block _ (heap_lt kb)).trans kb) 5).trans rfl⟩
  obtain ⟨d0, d1, d2, d3, d4, d5⟩ := MK.out w2 (Below.refl _ _)
  try rw [hw2]
  try rw [hxb]
  have HBV : Hid (Below w2.heap.size w2 w2) := Lib.hid (Below.refl _ _)
  clear hw2 kb hxb q0 q1 q2 q3 q4 q5 pb h1 h2
  cases m0 with
  | false =>
    obtain rfl := HMM.out (by first | exact rfl | trivial)
    obtain ⟨hn2, hn1, hn1b⟩ := HMN.out (by first | exact rfl | trivial)
    cases tA with
    | false =>
      go_wp2_with fail
      refine (HA.out _ (HBA.out.trans (HBV.out.mono HBA.out.size))).mono ?_; rintro e w5 ⟨rfl, hb⟩
      have HBV2 : Hid (Below w2.heap.size w2 w5) := Lib.hid (HBV.out.trans (hb.mono HBV.out.size))
      obtain ⟨d0, d1, d2, d3, d4, d5⟩ := MK.out w5 HBV2.out
      clear HBV hb
      have HBV := HBV2
      clear HBV2
      have HF : Hid ((-1 : Int) = endR R) := Lib.hid (by rw [← HRR.out, behS_no L f p o hpl (by rw [HQ.out]; rfl)]; rfl)
      go_wp2_with fail
      go_ret
      exact ⟨ret_i HF.out, HBA.out.trans (HBV.out.mono HBA.out.size)⟩
    | true =>
      go_wp2_with fail
      refine (HA.out _ (HBA.out.trans (HBV.out.mono HBA.out.size))).mono ?_; rintro e w5 ⟨rfl, hb⟩
      have HBV2 : Hid (Below w2.heap.size w2 w5) := Lib.hid (HBV.out.trans (hb.mono HBV.out.size))
      obtain ⟨d0, d1, d2, d3, d4, d5⟩ := MK.out w5 HBV2.out
      clear HBV hb
      have HBV := HBV2
      clear HBV2
      cases tD with
      | false =>
        go_wp2_with fail
        refine (HD.out _ (HBA.out.trans (HBV.out.mono HBA.out.size))).mono ?_; rintro e w5 ⟨rfl, hb⟩
        have HBV2 : Hid (Below w2.heap.size w2 w5) := Lib.hid (HBV.out.trans (hb.mono HBV.out.size))
        obtain ⟨d0, d1, d2, d3, d4, d5⟩ := MK.out w5 HBV2.out
        clear HBV hb
        have HBV := HBV2
        clear HBV2
        have HF : Hid ((-1 : Int) = endR R) := Lib.hid (by rw [← HRR.out, behS_no L f p o hpl (by rw [HQ.out]; rfl)]; rfl)
        go_wp2_with fail
        go_ret
        exact ⟨ret_i HF.out, HBA.out.trans (HBV.out.mono HBA.out.size)⟩
      | true =>
        go_wp2_with fail
        refine (HD.out _ (HBA.out.trans (HBV.out.mono HBA.out.size))).mono ?_; rintro e w5 ⟨rfl, hb⟩
        have HBV2 : Hid (Below w2.heap.size w2 w5) := Lib.hid (HBV.out.trans (hb.mono HBV.out.size))
        obtain ⟨d0, d1, d2, d3, d4, d5⟩ := MK.out w5 HBV2.out
        clear HBV hb
        have HBV := HBV2
        clear HBV2
        cases zA with
        | false =>
          have qzA := hzAn rfl
          have HF : Hid ((-1 : Int) = endR R) := Lib.hid (by rw [← HRR.out, behS_no L f p o hpl (by rw [HQ.out]; rfl)]; rfl)
          go_wp2_with fail
          go_ret
          exact ⟨ret_i HF.out, HBA.out.trans (HBV.out.mono HBA.out.size)⟩
        | true =>
          have qzA := hzAp rfl
          cases eA with
          | false =>
            cases tN with
            | false =>
              go_wp2_with fail
              refine (HN.out _ (HBA.out.trans (HBV.out.mono HBA.out.size))).mono ?_; rintro e w5 ⟨rfl, hb⟩
              have HBV2 : Hid (Below w2.heap.size w2 w5) := Lib.hid (HBV.out.trans (hb.mono HBV.out.size))
              obtain ⟨d0, d1, d2, d3, d4, d5⟩ := MK.out w5 HBV2.out
              clear HBV hb
              have HBV := HBV2
              clear HBV2
              cases zN with
              | false =>
                have qzN := hzNn rfl
                have HF : Hid ((-1 : Int) = endR R) := Lib.hid (by rw [← HRR.out, behS_no L f p o hpl (by rw [HQ.out]; rfl)]; rfl)
                go_wp2_with fail
                go_ret
                exact ⟨ret_i HF.out, HBA.out.trans (HBV.out.mono HBA.out.size)⟩
              | true =>
                have qzN := hzNp rfl
                cases m1 with
                | false =>
                  obtain rfl : m2 = true := HM13.out (by first | exact rfl | trivial) (by first | exact rfl | trivial)
                  cases oo with
                  | false =>
                    have HDY : Hid (deepB L[p] o = true) := Lib.hid (by rw [HQ.out]; rfl)
                    have HS0 : Hid (RB L f m (o + 1) ((p : Int) + 1) R) := Lib.hid (Or.inl ⟨p + 1, f, by omega, by omega, by omega, Nat.le_refl _, by rw [← HRR.out, behS_yes L f p o hpl HDY.out, HMT.out]⟩)
                    have ho4 : m = 0 ∨ o ≤ 15 := HO15.out HDY.out
                    have s1 : IntKind.i64.wrap ((p : Int) + 1) = (p : Int) + 1 := IntWalk.i64_in _ (by omega)
                    have s2 : IntKind.i64.wrap ((o : Int) + 1) = (o : Int) + 1 := IntWalk.i64_in _ (by omega)
                    go_wp2_with fail
                    go_loopw [1, 9] (fun at_ ct wr => ∃ (a : Int) (j : Nat), at_ = .int .i64 a ∧ ct = .int .i64 (j : Int) ∧ j ≤ m ∧ -1 ≤ a ∧ a ≤ 100000 ∧ Hid (RB L f (m - j) (o + 1) a R) ∧ Hid (Below w2.heap.size w2 wr)) (fun at_ ct wr => m - (intOf ct).toNat)
                    case atStart => exact ⟨(p : Int) + 1, 0, rfl, rfl, Nat.zero_le _, by omega, by omega, HS0, HBV⟩
                    case round =>
                      clear HS0 HBV d0 d1 d2 d3 d4 d5
                      rename World => wr
                      obtain ⟨a, j, rfl, rfl, hj, ha1, ha2, HS, HBV⟩ := hrel
                      obtain ⟨d0, d1, d2, d3, d4, d5⟩ := MK.out wr HBV.out
                      by_cases hjm : j < m
                      · have j1 : (j : Int) < (m : Int) := by omega
                        by_cases ha : 0 ≤ a
                        · obtain ⟨r1, hr1⟩ : ∃ r1, m - j = r1 + 1 := ⟨m - j - 1, by omega⟩
                          have hs := HS.out
                          rw [hr1] at hs
                          have hr2 : m - (j + 1) = r1 := by omega
                          obtain ⟨p', rfl, hp', hs2⟩ := hs.next ha
                          obtain ⟨q, HCL, hq, HS2⟩ : ∃ q : Int, Hid (Calls Tryz.prog 65 #[.slice (some ⟨b, off, none⟩) n c, .int .i64 (p' : Int), .int .i64 ((o : Int) + 1)] wr fun e w' => e = .returned (.int .i64 q) ∧ Below wr.heap.size wr w') ∧ (-1 ≤ q ∧ q ≤ 100000) ∧ Hid (RB L f (m - (j + 1)) (o + 1) q R) := by
                            rcases hs2 with ⟨h1, h2⟩ | ⟨g, h1, h2, h3⟩
                            · exact ⟨-1, Lib.hid (rbeh_out _ n c p' _ (by have := HNL.out; omega) (by omega) wr), by omega, Lib.hid (by rw [hr2]; exact h2)⟩
                            · have hle := h3.le
                              refine ⟨endR (behS L g p' (o + 1)), Lib.hid ?_, by have := HNL.out; omega, Lib.hid (by rw [hr2]; exact h3)⟩
                              have := HIH.out g h1 p' (o + 1) wr hp' (by omega) (by omega) (HWB.out.trans ((HBA.out.trans (HBV.out.mono HBA.out.size)).mono HWB.out.size))
                              exact this
                          clear HS hs hs2 hr1 hr2 hp'
                          go_wp2_with fail
                          refine HCL.out.mono ?_; rintro e w6 ⟨rfl, hb⟩
                          have HBN : Hid (Below w2.heap.size w2 w6) := Lib.hid (HBV.out.trans (hb.mono HBV.out.size))
                          clear hb HBV
                          go_wp2_with fail
                          go_roundw
                          case rel => exact ⟨q, j + 1, rfl, by go_num, by omega, hq.1, hq.2, HS2, HBN⟩
                          case measure => simp [intOf]; omega
                        · have HF : Hid (a = endR R) := Lib.hid (HS.out.neg (by omega))
                          have ha3 : ¬ (0 : Int) ≤ a := ha
                          clear HS
                          go_wp2_with fail
                          go_ret
                          exact ⟨ret_i HF.out, HBA.out.trans (HBV.out.mono HBA.out.size)⟩
                      · have hj2 : m - j = 0 := by omega
                        have HF : Hid (a = endR R) := Lib.hid (by have h := HS.out; rw [hj2] at h; exact h.done)
                        have j1 : ¬ (j : Int) < (m : Int) := by omega
                        clear HS hj2
                        go_wp2_with fail
                        go_ret
                        exact ⟨ret_i HF.out, HBA.out.trans (HBV.out.mono HBA.out.size)⟩
                  | true =>
                    have HF : Hid ((-1 : Int) = endR R) := Lib.hid (by rw [← HRR.out, behS_no L f p o hpl (by rw [HQ.out]; rfl)]; rfl)
                    go_wp2_with fail
                    go_ret
                    exact ⟨ret_i HF.out, HBA.out.trans (HBV.out.mono HBA.out.size)⟩
                | true =>
                  have HF : Hid ((-1 : Int) = endR R) := Lib.hid (by rw [← HRR.out, behS_no L f p o hpl (by rw [HQ.out]; rfl)]; rfl)
                  go_wp2_with fail
                  go_ret
                  exact ⟨ret_i HF.out, HBA.out.trans (HBV.out.mono HBA.out.size)⟩
            | true =>
              go_wp2_with fail
              refine (HN.out _ (HBA.out.trans (HBV.out.mono HBA.out.size))).mono ?_; rintro e w5 ⟨rfl, hb⟩
              have HBV2 : Hid (Below w2.heap.size w2 w5) := Lib.hid (HBV.out.trans (hb.mono HBV.out.size))
              obtain ⟨d0, d1, d2, d3, d4, d5⟩ := MK.out w5 HBV2.out
              clear HBV hb
              have HBV := HBV2
              clear HBV2
              cases m1 with
              | false =>
                obtain rfl : m2 = true := HM13.out (by first | exact rfl | trivial) (by first | exact rfl | trivial)
                cases oo with
                | false =>
                  have HDY : Hid (deepB L[p] o = true) := Lib.hid (by rw [HQ.out]; rfl)
                  have HS0 : Hid (RB L f m (o + 1) ((p : Int) + 1) R) := Lib.hid (Or.inl ⟨p + 1, f, by omega, by omega, by omega, Nat.le_refl _, by rw [← HRR.out, behS_yes L f p o hpl HDY.out, HMT.out]⟩)
                  have ho4 : m = 0 ∨ o ≤ 15 := HO15.out HDY.out
                  have s1 : IntKind.i64.wrap ((p : Int) + 1) = (p : Int) + 1 := IntWalk.i64_in _ (by omega)
                  have s2 : IntKind.i64.wrap ((o : Int) + 1) = (o : Int) + 1 := IntWalk.i64_in _ (by omega)
                  go_wp2_with fail
                  go_loopw [1, 9] (fun at_ ct wr => ∃ (a : Int) (j : Nat), at_ = .int .i64 a ∧ ct = .int .i64 (j : Int) ∧ j ≤ m ∧ -1 ≤ a ∧ a ≤ 100000 ∧ Hid (RB L f (m - j) (o + 1) a R) ∧ Hid (Below w2.heap.size w2 wr)) (fun at_ ct wr => m - (intOf ct).toNat)
                  case atStart => exact ⟨(p : Int) + 1, 0, rfl, rfl, Nat.zero_le _, by omega, by omega, HS0, HBV⟩
                  case round =>
                    clear HS0 HBV d0 d1 d2 d3 d4 d5
                    rename World => wr
                    obtain ⟨a, j, rfl, rfl, hj, ha1, ha2, HS, HBV⟩ := hrel
                    obtain ⟨d0, d1, d2, d3, d4, d5⟩ := MK.out wr HBV.out
                    by_cases hjm : j < m
                    · have j1 : (j : Int) < (m : Int) := by omega
                      by_cases ha : 0 ≤ a
                      · obtain ⟨r1, hr1⟩ : ∃ r1, m - j = r1 + 1 := ⟨m - j - 1, by omega⟩
                        have hs := HS.out
                        rw [hr1] at hs
                        have hr2 : m - (j + 1) = r1 := by omega
                        obtain ⟨p', rfl, hp', hs2⟩ := hs.next ha
                        obtain ⟨q, HCL, hq, HS2⟩ : ∃ q : Int, Hid (Calls Tryz.prog 65 #[.slice (some ⟨b, off, none⟩) n c, .int .i64 (p' : Int), .int .i64 ((o : Int) + 1)] wr fun e w' => e = .returned (.int .i64 q) ∧ Below wr.heap.size wr w') ∧ (-1 ≤ q ∧ q ≤ 100000) ∧ Hid (RB L f (m - (j + 1)) (o + 1) q R) := by
                          rcases hs2 with ⟨h1, h2⟩ | ⟨g, h1, h2, h3⟩
                          · exact ⟨-1, Lib.hid (rbeh_out _ n c p' _ (by have := HNL.out; omega) (by omega) wr), by omega, Lib.hid (by rw [hr2]; exact h2)⟩
                          · have hle := h3.le
                            refine ⟨endR (behS L g p' (o + 1)), Lib.hid ?_, by have := HNL.out; omega, Lib.hid (by rw [hr2]; exact h3)⟩
                            have := HIH.out g h1 p' (o + 1) wr hp' (by omega) (by omega) (HWB.out.trans ((HBA.out.trans (HBV.out.mono HBA.out.size)).mono HWB.out.size))
                            exact this
                        clear HS hs hs2 hr1 hr2 hp'
                        go_wp2_with fail
                        refine HCL.out.mono ?_; rintro e w6 ⟨rfl, hb⟩
                        have HBN : Hid (Below w2.heap.size w2 w6) := Lib.hid (HBV.out.trans (hb.mono HBV.out.size))
                        clear hb HBV
                        go_wp2_with fail
                        go_roundw
                        case rel => exact ⟨q, j + 1, rfl, by go_num, by omega, hq.1, hq.2, HS2, HBN⟩
                        case measure => simp [intOf]; omega
                      · have HF : Hid (a = endR R) := Lib.hid (HS.out.neg (by omega))
                        have ha3 : ¬ (0 : Int) ≤ a := ha
                        clear HS
                        go_wp2_with fail
                        go_ret
                        exact ⟨ret_i HF.out, HBA.out.trans (HBV.out.mono HBA.out.size)⟩
                    · have hj2 : m - j = 0 := by omega
                      have HF : Hid (a = endR R) := Lib.hid (by have h := HS.out; rw [hj2] at h; exact h.done)
                      have j1 : ¬ (j : Int) < (m : Int) := by omega
                      clear HS hj2
                      go_wp2_with fail
                      go_ret
                      exact ⟨ret_i HF.out, HBA.out.trans (HBV.out.mono HBA.out.size)⟩
                | true =>
                  have HF : Hid ((-1 : Int) = endR R) := Lib.hid (by rw [← HRR.out, behS_no L f p o hpl (by rw [HQ.out]; rfl)]; rfl)
                  go_wp2_with fail
                  go_ret
                  exact ⟨ret_i HF.out, HBA.out.trans (HBV.out.mono HBA.out.size)⟩
              | true =>
                have HF : Hid ((-1 : Int) = endR R) := Lib.hid (by rw [← HRR.out, behS_no L f p o hpl (by rw [HQ.out]; rfl)]; rfl)
                go_wp2_with fail
                go_ret
                exact ⟨ret_i HF.out, HBA.out.trans (HBV.out.mono HBA.out.size)⟩
          | true =>
            have HF : Hid ((-1 : Int) = endR R) := Lib.hid (by rw [← HRR.out, behS_no L f p o hpl (by rw [HQ.out]; rfl)]; rfl)
            go_wp2_with fail
            go_ret
            exact ⟨ret_i HF.out, HBA.out.trans (HBV.out.mono HBA.out.size)⟩
  | true =>
    have HF : Hid ((-1 : Int) = endR R) := Lib.hid (by rw [← HRR.out, behS_no L f p o hpl (by rw [HQ.out]; rfl)]; rfl)
    go_wp2_with fail
    go_ret
    exact ⟨ret_i HF.out, HBA.out.trans (HBV.out.mono HBA.out.size)⟩
set_option maxRecDepth 100000 in
set_option maxHeartbeats 16000000 in
theorem rbeh_k0 (L : List SelD) (b off n c : Nat) (p o f m : Nat) (W : World) (kk : Int) (x1 x2 : ByteArray) (y0 y3 : Option Addr) (y1 y2 y4 y5 : Nat) (mm : Int) (a1 a3 k1 k2 k3 : Bool) (hno : (a1 || a3) = true) (ha1 : decide (kk < 1) = a1) (ha3 : decide (3 < kk) = a3) (hk1 : (kk == 1) = k1)
    (w0 : World) (HWB : Hid (Below w0.heap.size w0 W)) (HNL : Hid (n = L.length)) (hn : n ≤ 100000) (hpl : p < L.length) (hf : L.length ≤ p + 1 + f) (ho : o ≤ 16)
    (q0 : W.cell? ⟨b, off + p * 6, none⟩ = some (.int .u8 kk)) (q1 : W.cell? ⟨b, off + p * 6 + 1, none⟩ = some (.string x1)) (q2 : W.cell? ⟨b, off + p * 6 + 2, none⟩ = some (.string x2)) (q3 : W.cell? ⟨b, off + p * 6 + 3, none⟩ = some (.slice y0 y1 y2)) (q4 : W.cell? ⟨b, off + p * 6 + 4, none⟩ = some (.slice y3 y4 y5)) (q5 : W.cell? ⟨b, off + p * 6 + 5, none⟩ = some (.int .i64 mm))
    (tA tD tL tN zA zN on eA m0 m1 m2 oo : Bool)
    (HA : Hid (∀ W', Below W.heap.size W W' → Calls Tryz.prog 77 #[.slice y0 y1 y2] W' fun e w' => e = .returned (.bool tA) ∧ Below W'.heap.size W' w'))
    (HD : Hid (∀ W', Below W.heap.size W W' → Calls Tryz.prog 78 #[.slice y3 y4 y5] W' fun e w' => e = .returned (.bool tD) ∧ Below W'.heap.size W' w'))
    (HL : Hid (∀ W', Below W.heap.size W W' → Calls Tryz.prog 44 #[.string x1] W' fun e w' => e = .returned (.bool tL) ∧ Below W'.heap.size W' w'))
    (HN : Hid (∀ W', Below W.heap.size W W' → Calls Tryz.prog 44 #[.string x2] W' fun e w' => e = .returned (.bool tN) ∧ Below W'.heap.size W' w'))
    (hzA : (x1.toList == []) = zA) (hzAe : x1.toList.isEmpty = zA) (hzAp : zA = true → x1.toList = []) (hzAn : zA = false → ¬ x1.toList = []) (hzN : (x2.toList == []) = zN) (hzNe : x2.toList.isEmpty = zN) (hzNp : zN = true → x2.toList = []) (hzNn : zN = false → ¬ x2.toList = [])
    (hon : (x2.toList == [111, 110]) = on) (honp : on = true → x2.toList = [111, 110]) (honn : on = false → ¬ x2.toList = [111, 110])
    (heA : decide ((0 : Int) < (y1 : Int)) = eA) (heA2 : decide (0 < y1) = eA) (hm0 : decide (mm < 0) = m0) (hm1 : (mm == 0) = m1) (hm1b : (mm != 0) = !m1) (hm2 : decide (0 < mm) = m2) (hoo : ((o : Int) == 16) = oo)
    (HMM : Hid (m0 = false → mm = (m : Int))) (HMN : Hid (m0 = false → decide (0 < m) = m2 ∧ (m == 0) = m1 ∧ (m != 0) = !m1)) (HM12 : Hid (m1 = true → m2 = false)) (HM13 : Hid (m0 = false → m1 = false → m2 = true)) (HMT : Hid (L[p].many.toNat = m)) (HO15 : Hid (deepB L[p] o = true → m = 0 ∨ o ≤ 15)) (hmx : (m : Int) ≤ 9223372036854775807)
    (HQ : Hid (deepB L[p] o = !((a1 || a3 || m0 || !tA || !tD || (!k1 && (!zA || eA))) || ((!zA && !tL) || (!tN && (!k3 || !zN))) || ((k2 && (!m1 || on)) || (k3 && m1) || (m2 && oo)))))
    (HIH : Hid (∀ g, g < f → ∀ (p o : Nat) (W : World), p ≤ L.length → L.length ≤ p + 1 + g → o ≤ 16 → Below w0.heap.size w0 W →
      Calls Tryz.prog 65 #[.slice (some ⟨b, off, none⟩) n c, .int .i64 (p : Int), .int .i64 (o : Int)] W fun e w' => e = .returned (.int .i64 (endR (behS L g p o))) ∧ Below W.heap.size W w')) :
    Calls Tryz.prog 65 #[.slice (some ⟨b, off, none⟩) n c, .int .i64 (p : Int), .int .i64 (o : Int)] W fun e w' => e = .returned (.int .i64 (endR (behS L f p o))) ∧ Below W.heap.size W w' := by
  have hpn : p < n := by rw [HNL.out]; exact hpl
  obtain ⟨R, hR⟩ : ∃ R, behS L f p o = R := ⟨_, rfl⟩
  have HRR := Lib.hid hR
  rw [hR]
  clear hR
  have h1 : decide ((p : Int) < 0) = false := decide_eq_false (by omega)
  have h2 : decide (n ≤ p) = false := decide_eq_false (by omega)
  have i1 : (p : Int).toNat = p := by omega
  have i2 : (0 : Int) ≤ (p : Int) := by omega
  have i3 : (p : Int) < (n : Int) := by omega
  have pb := lt_of_cell q0
  go_enter Tryz.func65, Tryz.ntmps65
  go_upto_region 4 with fail
  obtain ⟨w2, hw2⟩ : ∃ w2, W.alloc (.cells #[.int .u8 kk, .string x1, .string x2, .slice y0 y1 y2, .slice y3 y4 y5, .int .i64 mm] 52 (0, 0)) = w2 := ⟨_, rfl⟩
  have HBA : Hid (Below W.heap.size W w2) := Lib.hid (by rw [← hw2]; exact (Below.refl _ _).alloc (Nat.le_refl _) _)
  have kb : w2.heap[W.heap.size]? = some (.cells #[.int .u8 kk, .string x1, .string x2, .slice y0 y1 y2, .slice y3 y4 y5, .int .i64 mm] 52 (0, 0)) := by rw [← hw2]; exact heap_new _ _ _ rfl
  obtain ⟨xb, hxb⟩ : ∃ xb, W.heap.size = xb := ⟨_, rfl⟩
  rw [hxb] at kb
  have MK : Hid (∀ W, Below w2.heap.size w2 W → W.cell? ⟨xb, 0, none⟩ = some (.int .u8 kk) ∧ W.cell? ⟨xb, 1, none⟩ = some (.string x1) ∧ W.cell? ⟨xb, 2, none⟩ = some (.string x2) ∧ W.cell? ⟨xb, 3, none⟩ = some (.slice y0 y1 y2) ∧ W.cell? ⟨xb, 4, none⟩ = some (.slice y3 y4 y5) ∧ W.cell? ⟨xb, 5, none⟩ = some (.int .i64 mm)) := Lib.hid fun W hW => ⟨(Lib.cell_of_heap ((hW.block _ (heap_lt kb)).trans kb) 0).trans rfl, (Lib.cell_of_heap ((hW.block _ (heap_lt kb)).trans kb) 1).trans rfl, (Lib.cell_of_heap ((hW.block _ (heap_lt kb)).trans kb) 2).trans rfl, (Lib.cell_of_heap ((hW.block _ (heap_lt kb)).trans kb) 3).trans rfl, (Lib.cell_of_heap ((hW.block _ (heap_lt kb)).trans kb) 4).trans rfl, (Lib.cell_of_heap ((hW.block _ (heap_lt kb)).trans kb) 5).trans rfl⟩
  obtain ⟨d0, d1, d2, d3, d4, d5⟩ := MK.out w2 (Below.refl _ _)
  try rw [hw2]
  try rw [hxb]
  have HBV : Hid (Below w2.heap.size w2 w2) := Lib.hid (Below.refl _ _)
  clear hw2 kb hxb q0 q1 q2 q3 q4 q5 pb h1 h2
  cases a1 with
  | false =>
    cases a3 with
    | false =>
      exact absurd hno (by simp)
    | true =>
      have HF : Hid ((-1 : Int) = endR R) := Lib.hid (by rw [← HRR.out, behS_no L f p o hpl (by rw [HQ.out]; rfl)]; rfl)
      go_wp2_with fail
      go_ret
      exact ⟨ret_i HF.out, HBA.out.trans (HBV.out.mono HBA.out.size)⟩
  | true =>
    have HF : Hid ((-1 : Int) = endR R) := Lib.hid (by rw [← HRR.out, behS_no L f p o hpl (by rw [HQ.out]; rfl)]; rfl)
    go_wp2_with fail
    go_ret
    exact ⟨ret_i HF.out, HBA.out.trans (HBV.out.mono HBA.out.size)⟩
end Go.Proofs.YtbejhdhhkpllfaaGreatDoor
