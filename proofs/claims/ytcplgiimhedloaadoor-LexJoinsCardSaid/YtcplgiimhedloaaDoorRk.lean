/- The walk through the reference's Join (provostref17). -/
import Derived.Test.YtcplgiimhedloaaDoorRj
set_option linter.unusedSimpArgs false
set_option linter.unusedVariables false
namespace Go.Proofs.YtcplgiimhedloaaDoor
open Go.RowKit
def MayDoes : Prop := ∀ (k : UInt8) (x : ByteArray) (p : Int), x.size ≤ 100000 → ∀ w : World,
    Calls Tryd.prog 12 #[.agg #[.int .u8 (k.toNat : Int), .string x, .int .i64 p]] w fun e w' => e = .returned (.bool (okT ⟨k, x.data.toList, p⟩)) ∧ Below w.heap.size w w'
theorem okTs_last (L : List Tok) (k : Nat) (h : k < L.length) (hl : ¬ k + 1 < L.length) : okTs (L.drop k) = okT L[k] := by
  rw [List.drop_eq_getElem_cons h, List.drop_of_length_le (by omega)]; rfl
theorem okTs_step (L : List Tok) (k : Nat) (h : k < L.length) (hl : k + 1 < L.length) : okTs (L.drop k) = (okT L[k] && !(L[k].kind == 0) && okTs (L.drop (k + 1))) := by
  rw [List.drop_eq_getElem_cons h]
  rw [List.drop_eq_getElem_cons hl]
  rfl
/-- What Join answers. -/
def joinE (L : List Tok) : Value := if okTs L then .tuple #[.string ⟨(joinT L).toArray⟩, .int .i64 0] else .tuple #[.string ⟨#[]⟩, .int .i64 8]
theorem joinE_no {L : List Tok} (h : okTs L = false) : Ending.returned (.tuple #[.string ⟨#[]⟩, .int .i64 8]) = Ending.returned (joinE L) := by unfold joinE; rw [h]; rfl
theorem joinE_yes {L : List Tok} (h : okTs L = true) : Ending.returned (.tuple #[.string ⟨(joinT L).toArray⟩, .int .i64 0]) = Ending.returned (joinE L) := by unfold joinE; rw [h]; rfl
set_option maxRecDepth 100000 in
set_option maxHeartbeats 1000000 in
theorem rjoin17_row (HT : TellDoes) (HM : MayDoes) (L : List Tok) (b off cap : Nat) (hl : L.length ≤ 3000) (hz : ∀ t ∈ L, t.text.length ≤ 20000) (w : World) (h1 : TokRow b off L w) :
    Calls Tryd.prog 6 #[.slice (some ⟨b, off, none⟩) L.length cap] w fun e w' => e = .returned (joinE L) ∧ Below w.heap.size w w' := by
  have H1 := Lib.hid h1
  have HZ := Lib.hid hz
  have HTT := Lib.hid HT
  have HMM := Lib.hid HM
  obtain ⟨r, hr⟩ : ∃ r, okTs L = r := ⟨_, rfl⟩
  have HR0 := Lib.hid hr
  have HR : Hid (okTs (L.drop 0) = r) := Lib.hid hr
  obtain ⟨E, hE⟩ : ∃ E, joinE L = E := ⟨_, rfl⟩
  have HE := Lib.hid hE
  rw [hE]
  clear hr hE h1 hz HT HM
  go_enter Tryd.func6, Tryd.ntmps6
  go_wp2_with fail
  go_loopw [4] (fun i wr => ∃ (k : Nat), k ≤ L.length ∧ i = .int .i64 k ∧ Hid (okTs (L.drop k) = r) ∧ Hid (Below w.heap.size w wr)) (fun i wr => L.length - (intOf i).toNat)
  case atStart => exact ⟨0, Nat.zero_le _, rfl, HR, Lib.hid (Below.refl _ _)⟩
  case round =>
    rename World => wr
    obtain ⟨k, hk, rfl, HS, HB⟩ := hrel
    by_cases hlt : k < L.length
    · obtain ⟨a0, a1, a2⟩ := (H1.out.below' HB.out) k hlt
      have hxs := HZ.out L[k] (List.getElem_mem _)
      have hxz : (⟨L[k].text.toArray⟩ : ByteArray).size = L[k].text.length := by show L[k].text.toArray.size = _; simp
      have H2 := Lib.hid (HMM.out L[k].kind ⟨L[k].text.toArray⟩ L[k].pos (by omega))
      have htt : (⟨L[k].kind, (⟨L[k].text.toArray⟩ : ByteArray).data.toList, L[k].pos⟩ : Tok) = L[k] := by simp
      rw [htt] at H2
      have hsz := HB.out.size
      have hstep := HS.out
      have hlast := okTs_last L k hlt
      have hnext := okTs_step L k hlt
      have hkind : ((L[k].kind.toNat : Int) = 0) ↔ L[k].kind = 0 := by
        constructor
        · intro h; exact UInt8.toNat_inj.1 (by show L[k].kind.toNat = 0; omega)
        · intro h; rw [h]; rfl
      clear hxs hxz htt HS
      cases hm : okT L[k] with
      | false =>
        rw [hm] at H2
        have HF : Hid (Ending.returned (.tuple #[.string ⟨#[]⟩, .int .i64 8]) = Ending.returned E) := Lib.hid (by
          have h0 : okTs (L.drop k) = false := by
            by_cases hk1 : k + 1 < L.length
            · rw [hnext hk1, hm]; rfl
            · rw [hlast hk1, hm]
          rw [← HE.out]
          exact joinE_no (HR0.out.trans (hstep.symm.trans h0)))
        clear hm hnext hlast hstep hkind
        generalize (L[k].kind.toNat : Int) = ka at *
        generalize L[k].pos = pa at *
        generalize (⟨L[k].text.toArray⟩ : ByteArray) = x at *
        go_wp2_with fail
        refine (H2.out _).mono ?_; rintro e w1 ⟨rfl, hb⟩
        have HB1 := Lib.hid (HB.out.trans (hb.mono hsz))
        clear hb
        go_wp2_with fail
        go_ret2
        exact ⟨HF.out, HB1.out⟩
      | true =>
        rw [hm] at H2
        by_cases kk : L[k].kind = 0
        · have q0 : ((L[k].kind.toNat : Int) == 0) = true := beq_iff_eq.2 (hkind.2 kk)
          by_cases hk1 : k + 1 < L.length
          · have HF : Hid (Ending.returned (.tuple #[.string ⟨#[]⟩, .int .i64 8]) = Ending.returned E) := Lib.hid (by
              have h0 : okTs (L.drop k) = false := by rw [hnext hk1, kk]; simp
              rw [← HE.out]
              exact joinE_no (HR0.out.trans (hstep.symm.trans h0)))
            have hki : (k : Int) < (L.length : Int) - 1 := by omega
            have hcell : wr.cell? ⟨b, off + k * 3, none⟩ = some (.int .u8 0) := by rw [a0, kk]; rfl
            clear hm hnext hlast hstep hkind kk
            generalize (L[k].kind.toNat : Int) = ka at *
            generalize L[k].pos = pa at *
            generalize (⟨L[k].text.toArray⟩ : ByteArray) = x at *
            have HC := Lib.hid a0
            clear hcell
            go_wp2_with fail
            refine (H2.out _).mono ?_; rintro e w1 ⟨rfl, hb⟩
            have a01 : w1.cell? ⟨b, off + k * 3, none⟩ = some (.int .u8 ka) := (hb.cell (p := ⟨b, _, none⟩) (lt_of_cell HC.out)).trans HC.out
            have HB1 := Lib.hid (HB.out.trans (hb.mono hsz))
            clear hb
            go_wp2_with fail
            go_ret2
            exact ⟨HF.out, HB1.out⟩
          · have HS2 : Hid (okTs (L.drop (k + 1)) = r) := Lib.hid (by
              rw [← hstep, hlast hk1, hm, List.drop_of_length_le (by omega)]; rfl)
            have hki : ¬ (k : Int) < (L.length : Int) - 1 := by omega
            clear hm hnext hlast hstep hkind kk
            generalize (L[k].kind.toNat : Int) = ka at *
            generalize L[k].pos = pa at *
            generalize (⟨L[k].text.toArray⟩ : ByteArray) = x at *
            have HC := Lib.hid a0
            go_wp2_with fail
            refine (H2.out _).mono ?_; rintro e w1 ⟨rfl, hb⟩
            have a01 : w1.cell? ⟨b, off + k * 3, none⟩ = some (.int .u8 ka) := (hb.cell (p := ⟨b, _, none⟩) (lt_of_cell HC.out)).trans HC.out
            have HB1 := Lib.hid (HB.out.trans (hb.mono hsz))
            clear hb
            go_wp2_with fail
            go_roundw
            case rel => exact ⟨k + 1, by omega, by go_num, HS2, HB1⟩
            case measure => simp [intOf]; omega
        · have q0 : ((L[k].kind.toNat : Int) == 0) = false := beq_eq_false_iff_ne.2 fun h => kk (hkind.1 h)
          have HS2 : Hid (okTs (L.drop (k + 1)) = r) := Lib.hid (by
            by_cases hk1 : k + 1 < L.length
            · rw [← hstep, hnext hk1, hm, beq_eq_false_iff_ne.2 kk]; simp
            · rw [← hstep, hlast hk1, hm, List.drop_of_length_le (by omega)]; rfl)
          clear hm hnext hlast hstep hkind kk
          generalize (L[k].kind.toNat : Int) = ka at *
          generalize L[k].pos = pa at *
          generalize (⟨L[k].text.toArray⟩ : ByteArray) = x at *
          have HC := Lib.hid a0
          go_wp2_with fail
          refine (H2.out _).mono ?_; rintro e w1 ⟨rfl, hb⟩
          have a01 : w1.cell? ⟨b, off + k * 3, none⟩ = some (.int .u8 ka) := (hb.cell (p := ⟨b, _, none⟩) (lt_of_cell HC.out)).trans HC.out
          have HB1 := Lib.hid (HB.out.trans (hb.mono hsz))
          clear hb
          go_wp2_with fail
          go_roundw
          case rel => exact ⟨k + 1, by omega, by go_num, HS2, HB1⟩
          case measure => simp [intOf]; omega
    · have HF : Hid (Ending.returned (.tuple #[.string ⟨(joinT L).toArray⟩, .int .i64 0]) = Ending.returned E) := Lib.hid (by
        have h0 := HS.out
        rw [List.drop_of_length_le (by omega)] at h0
        rw [← HE.out]
        exact joinE_yes (HR0.out.trans h0.symm))
      have hsz := HB.out.size
      have H3 := Lib.hid (rjoined_row HTT.out L b off cap hl HZ.out wr (H1.out.below' HB.out))
      clear HS
      generalize (⟨(joinT L).toArray⟩ : ByteArray) = q at *
      go_wp2_with fail
      refine H3.out.mono ?_; rintro e w1 ⟨rfl, hb⟩
      have HB1 := Lib.hid (HB.out.trans (hb.mono hsz))
      clear hb
      go_wp2_with fail
      go_ret2
      exact ⟨HF.out, HB1.out⟩
set_option maxRecDepth 100000 in
theorem rjoin17_none (a : Option Addr) (cap : Nat) (w : World) :
    Calls Tryd.prog 6 #[.slice a 0 cap] w fun e w' => e = .returned (joinE []) ∧ Below w.heap.size w w' := by
  have H3 := Lib.hid (fun w => rjoined_none a cap w)
  go_enter Tryd.func6, Tryd.ntmps6
  go_wp2_with fail
  refine wp_loop_rounds 1 ?_; rw [rounds_succ]
  go_wp2_with fail
  refine (H3.out _).mono ?_; rintro e w1 ⟨rfl, hb⟩
  go_wp2_with fail
  go_ret2
  exact ⟨rfl, hb⟩
theorem rjoin17_any (HT : TellDoes) (HM : MayDoes) (L : List Tok) (u : Value) (hl : L.length ≤ 3000) (hz : ∀ t ∈ L, t.text.length ≤ 20000) (w : World) (h1 : TokSl u L w) :
    Calls Tryd.prog 6 #[u] w fun e w' => e = .returned (joinE L) ∧ Below w.heap.size w w' := by
  rcases h1 with ⟨a1, c1, rfl, rfl, _⟩ | ⟨b1, o1, c1, rfl, h1⟩
  · exact rjoin17_none a1 c1 w
  · exact rjoin17_row HT HM L b1 o1 c1 hl hz w h1
end Go.Proofs.YtcplgiimhedloaaDoor
