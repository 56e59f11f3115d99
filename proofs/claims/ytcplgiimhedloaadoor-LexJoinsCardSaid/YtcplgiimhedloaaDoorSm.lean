/- The walk through the reference's Same (provostref17). -/
import Derived.Test.YtcplgiimhedloaaDoorTk
set_option linter.unusedSimpArgs false
set_option linter.unusedVariables false
namespace Go.Proofs.YtcplgiimhedloaaDoor
open Go.RowKit
set_option maxRecDepth 100000 in
theorem rsame17_len (v1 v2 : Option Addr) (c1 c2 : Nat) (at_ : Bool) (n m : Nat) (hn : n ≤ 100000) (hm : m ≤ 100000) (hne : n ≠ m) (w : World) :
    Calls Tryd.prog 9 #[.slice v1 n c1, .slice v2 m c2, .bool at_] w fun e w' => e = .returned (.bool false) ∧ Below w.heap.size w w' := by
  have h1 : ((n : Int) != (m : Int)) = true := by rw [bne_iff_ne]; omega
  clear hne
  go_enter Tryd.func9, Tryd.ntmps9
  go_wp2_with fail
  go_ret
  exact ⟨rfl, Below.refl _ _⟩
set_option maxRecDepth 100000 in
set_option maxHeartbeats 1000000 in
theorem rsame17_row (L M : List Tok) (b1 o1 c1 b2 o2 c2 : Nat) (at_ : Bool) (hl : L.length ≤ 100000) (hlm : L.length = M.length) (w : World) (h1 : TokRow b1 o1 L w) (h2 : TokRow b2 o2 M w) :
    Calls Tryd.prog 9 #[.slice (some ⟨b1, o1, none⟩) L.length c1, .slice (some ⟨b2, o2, none⟩) L.length c2, .bool at_] w fun e w' => e = .returned (.bool (sameT at_ L M)) ∧ Below w.heap.size w w' := by
  have H1 := Lib.hid h1
  have H2 := Lib.hid h2
  have HM := Lib.hid hlm
  obtain ⟨r, hr⟩ : ∃ r, sameT at_ L M = r := ⟨_, rfl⟩
  have HR : Hid (sameT at_ (L.drop 0) (M.drop 0) = r) := Lib.hid hr
  rw [hr]
  clear hr h1 h2 hlm
  have hnn : ((L.length : Int) != (L.length : Int)) = false := by rw [bne_eq_false_iff_eq]
  go_enter Tryd.func9, Tryd.ntmps9
  go_wp2_with fail
  go_loopw [7] (fun i wr => ∃ k : Nat, k ≤ L.length ∧ i = .int .i64 k ∧ Hid (sameT at_ (L.drop k) (M.drop k) = r) ∧ Hid (Below w.heap.size w wr)) (fun i wr => L.length - (intOf i).toNat)
  case atStart => exact ⟨0, Nat.zero_le _, rfl, HR, Lib.hid (Below.refl _ _)⟩
  case round =>
    rename World => wr
    obtain ⟨k, hk, rfl, HS, HB⟩ := hrel
    by_cases hlt : k < L.length
    · have hltm : k < M.length := by rw [← HM.out]; exact hlt
      obtain ⟨a0, a1, a2⟩ := (H1.out.below' HB.out) k hlt
      obtain ⟨d0, d1, d2⟩ := (H2.out.below' HB.out) k hltm
      have hstep := HS.out
      rw [sameT_drop _ _ _ k hlt hltm] at hstep
      have hP : sameP at_ L[k] M[k] = (L[k].kind == M[k].kind && L[k].text == M[k].text && (!at_ || L[k].pos == M[k].pos)) := rfl
      generalize sameP at_ L[k] M[k] = sp at *
      have hkk : ((L[k].kind.toNat : Int) = (M[k].kind.toNat : Int)) ↔ L[k].kind = M[k].kind := by
        constructor
        · intro h; exact UInt8.toNat_inj.1 (by omega)
        · intro h; rw [h]
      generalize (L[k].kind.toNat : Int) = ka at *
      generalize (M[k].kind.toNat : Int) = kb at *
      generalize L[k].pos = pa at *
      generalize M[k].pos = pb at *
      have hxl : (⟨L[k].text.toArray⟩ : ByteArray).toList = L[k].text := by rw [ByteArray.toList_eq]
      have hyl : (⟨M[k].text.toArray⟩ : ByteArray).toList = M[k].text := by rw [ByteArray.toList_eq]
      generalize (⟨L[k].text.toArray⟩ : ByteArray) = x at *
      generalize (⟨M[k].text.toArray⟩ : ByteArray) = y at *
      by_cases e0 : L[k].kind = M[k].kind
      · have q0 : (ka != kb) = false := by rw [bne_eq_false_iff_eq]; exact hkk.2 e0
        by_cases e1 : L[k].text = M[k].text
        · have q1 : (x.toList != y.toList) = false := by rw [hxl, hyl, bne_eq_false_iff_eq]; exact e1
          have q1' : (x.toList == y.toList) = true := by rw [hxl, hyl]; exact beq_iff_eq.2 e1
          cases at_ with
          | false =>
            have HS2 : Hid (sameT false (L.drop (k + 1)) (M.drop (k + 1)) = r) := Lib.hid (by rw [← hstep, hP, beq_iff_eq.2 e0, beq_iff_eq.2 e1]; rfl)
            clear hstep hP hkk hxl hyl e0 e1 HS
            go_wp2_with fail
            go_quiet (fail)
            go_wp2_with fail
            go_roundw
            case rel => exact ⟨k + 1, by omega, by go_num, HS2, Lib.hid (below_dN _ HB.out)⟩
            case measure => simp [intOf]; omega
          | true =>
            by_cases e2 : pa = pb
            · have q2 : (pa != pb) = false := by rw [bne_eq_false_iff_eq]; exact e2
              have HS2 : Hid (sameT true (L.drop (k + 1)) (M.drop (k + 1)) = r) := Lib.hid (by rw [← hstep, hP, beq_iff_eq.2 e0, beq_iff_eq.2 e1, beq_iff_eq.2 e2]; rfl)
              clear hstep hP hkk hxl hyl e0 e1 e2 HS
              go_wp2_with fail
              go_quiet (fail)
              go_wp2_with fail
              go_roundw
              case rel => exact ⟨k + 1, by omega, by go_num, HS2, Lib.hid (below_dN _ HB.out)⟩
              case measure => simp [intOf]; omega
            · have q2 : (pa != pb) = true := by rw [bne_iff_ne]; exact e2
              have HF : Hid (false = r) := Lib.hid (by rw [← hstep, hP, beq_eq_false_iff_ne.2 e2]; simp)
              clear hstep hP hkk hxl hyl e0 e1 e2 HS
              go_wp2_with fail
              go_quiet (fail)
              go_wp2_with fail
              go_ret
              exact ⟨ret_b HF.out, below_dN _ HB.out⟩
        · have q1 : (x.toList != y.toList) = true := by rw [hxl, hyl, bne_iff_ne]; exact e1
          have q1' : (x.toList == y.toList) = false := by rw [hxl, hyl]; exact beq_eq_false_iff_ne.2 e1
          have HF : Hid (false = r) := Lib.hid (by rw [← hstep, hP, beq_eq_false_iff_ne.2 e1]; simp)
          clear hstep hP hkk hxl hyl e0 e1 HS
          go_wp2_with fail
          go_quiet (fail)
          go_wp2_with fail
          go_ret
          exact ⟨ret_b HF.out, below_dN _ HB.out⟩
      · have q0 : (ka != kb) = true := by rw [bne_iff_ne]; exact fun h => e0 (hkk.1 h)
        have HF : Hid (false = r) := Lib.hid (by rw [← hstep, hP, beq_eq_false_iff_ne.2 e0]; simp)
        clear hstep hP hkk hxl hyl e0 HS
        go_wp2_with fail
        go_quiet (fail)
        go_wp2_with fail
        go_ret
        exact ⟨ret_b HF.out, below_dN _ HB.out⟩
    · have HF : Hid (true = r) := Lib.hid (by
        have hm : M.length = L.length := HM.out.symm
        rw [← HS.out, List.drop_of_length_le (by omega), List.drop_of_length_le (by omega)]; rfl)
      clear HS
      go_wp2_with fail
      go_ret
      exact ⟨ret_b HF.out, HB.out⟩
set_option maxRecDepth 100000 in
theorem rsame17_none (c1 : Nat) (a : Option Addr) (v : Option Addr) (c2 : Nat) (at_ : Bool) (w : World) :
    Calls Tryd.prog 9 #[.slice a 0 c1, .slice v 0 c2, .bool at_] w fun e w' => e = .returned (.bool true) ∧ Below w.heap.size w w' := by
  go_enter Tryd.func9, Tryd.ntmps9
  go_wp2_with fail
  refine wp_loop_rounds 1 ?_; rw [rounds_succ]
  go_wp2_with fail
  go_ret
  exact ⟨rfl, Below.refl _ _⟩
theorem rsame17_any (L M : List Tok) (u v : Value) (at_ : Bool) (hl : L.length ≤ 100000) (hm : M.length ≤ 100000) (w : World) (h1 : TokSl u L w) (h2 : TokSl v M w) :
    Calls Tryd.prog 9 #[u, v, .bool at_] w fun e w' => e = .returned (.bool (sameT at_ L M)) ∧ Below w.heap.size w w' := by
  by_cases hlm : L.length = M.length
  · rcases h1 with ⟨a1, c1, rfl, rfl, _⟩ | ⟨b1, o1, c1, rfl, h1⟩
    · obtain rfl : M = [] := List.eq_nil_of_length_eq_zero hlm.symm
      rcases h2 with ⟨a2, c2, rfl, _, _⟩ | ⟨b2, o2, c2, rfl, h2⟩
      · exact rsame17_none c1 a1 a2 c2 _ w
      · exact rsame17_none c1 a1 _ c2 _ w
    · rcases h2 with ⟨a2, c2, rfl, rfl, _⟩ | ⟨b2, o2, c2, rfl, h2⟩
      · obtain rfl : L = [] := List.eq_nil_of_length_eq_zero hlm
        exact rsame17_none c1 _ a2 c2 _ w
      · rw [← hlm]
        exact rsame17_row L M b1 o1 c1 b2 o2 c2 at_ hl hlm w h1 h2
  · rw [sameT_len _ _ _ hlm]
    rcases h1 with ⟨a1, c1, rfl, rfl, _⟩ | ⟨b1, o1, c1, rfl, h1⟩
    · rcases h2 with ⟨a2, c2, rfl, rfl, _⟩ | ⟨b2, o2, c2, rfl, h2⟩
      · exact absurd rfl hlm
      · exact rsame17_len a1 _ _ _ at_ 0 _ (by omega) hm hlm w
    · rcases h2 with ⟨a2, c2, rfl, rfl, _⟩ | ⟨b2, o2, c2, rfl, h2⟩
      · exact rsame17_len _ a2 _ _ at_ _ 0 hl (by omega) hlm w
      · exact rsame17_len _ _ _ _ at_ _ _ hl hm hlm w
end Go.Proofs.YtcplgiimhedloaaDoor
