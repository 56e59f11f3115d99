/- The walks through the reference's Joined and Join (provostref17). -/
import Derived.Test.YtcplgiimhedloaaDoorSm
set_option linter.unusedSimpArgs false
set_option linter.unusedVariables false
namespace Go.Proofs.YtcplgiimhedloaaDoor
open Go.RowKit
def TellDoes : Prop := ∀ (k : UInt8) (x : ByteArray) (p : Int), x.size ≤ 100000 → ∀ w : World,
    Calls Tryd.prog 26 #[.agg #[.int .u8 (k.toNat : Int), .string x, .int .i64 p]] w fun e w' => e = .returned (.string ⟨(tellT ⟨k, x.data.toList, p⟩).toArray⟩) ∧ Below w.heap.size w w'
theorem quoteC_len (c : UInt8) : (quoteC c).length ≤ 6 := by
  unfold quoteC
  repeat' split
  all_goals simp
theorem quoteL_len (l : List UInt8) : (quoteL l).length ≤ 6 * l.length + 2 := by
  unfold quoteL
  have : (l.flatMap quoteC).length ≤ 6 * l.length := by
    induction l with
    | nil => simp
    | cons c r ih =>
      rw [List.flatMap_cons, List.length_append, List.length_cons]
      have := quoteC_len c
      omega
  simp only [List.length_append, List.length_cons, List.length_nil]
  omega
theorem tellT_len (t : Tok) : (tellT t).length ≤ 6 * t.text.length + 2 := by
  unfold tellT
  split
  · exact quoteL_len _
  · omega
theorem joinT_drop0 (L : List Tok) (h : 0 < L.length) : joinT L = tellT L[0] ++ restT (L.drop 1) := by
  cases L with
  | nil => simp at h
  | cons t r => rfl
theorem restT_drop (L : List Tok) (k : Nat) (h : k < L.length) : restT (L.drop k) = (if L[k].kind = 0 then [] else [32]) ++ tellT L[k] ++ restT (L.drop (k + 1)) := by
  rw [List.drop_eq_getElem_cons h, restT]
def leftT (L : List Tok) (k : Nat) : List UInt8 := if k = 0 then joinT L else restT (L.drop k)
theorem str_app (a b : ByteArray) : (a ++ b).data.toList = a.data.toList ++ b.data.toList := by simp
theorem size_app (a b : ByteArray) : (a ++ b).size = a.size + b.size := by simp
set_option maxRecDepth 100000 in
set_option maxHeartbeats 1000000 in
theorem rjoined_row (HT : TellDoes) (L : List Tok) (b off cap : Nat) (hl : L.length ≤ 3000) (hz : ∀ t ∈ L, t.text.length ≤ 20000) (w : World) (h1 : TokRow b off L w) :
    Calls Tryd.prog 13 #[.slice (some ⟨b, off, none⟩) L.length cap] w fun e w' => e = .returned (.string ⟨(joinT L).toArray⟩) ∧ Below w.heap.size w w' := by
  have H1 := Lib.hid h1
  have HZ := Lib.hid hz
  have HTT := Lib.hid HT
  obtain ⟨J, hJ⟩ : ∃ J, joinT L = J := ⟨_, rfl⟩
  have HJ : Hid (([] : List UInt8) ++ leftT L 0 = J) := Lib.hid (by unfold leftT; rw [if_pos rfl]; exact hJ)
  rw [hJ]
  clear hJ h1 hz HT
  go_enter Tryd.func13, Tryd.ntmps13
  go_wp2_with fail
  go_loopw [3, 4] (fun s i wr => ∃ (k : Nat) (S : ByteArray), k ≤ L.length ∧ i = .int .i64 k ∧ s = .string S ∧ S.size ≤ k * 120003 ∧ Hid (S.data.toList ++ leftT L k = J) ∧ Hid (Below w.heap.size w wr)) (fun s i wr => L.length - (intOf i).toNat)
  case atStart => exact ⟨0, ⟨#[]⟩, Nat.zero_le _, rfl, rfl, by decide, HJ, Lib.hid (Below.refl _ _)⟩
  case round =>
    rename World => wr
    obtain ⟨k, S, hk, rfl, rfl, hS, HS, HB⟩ := hrel
    by_cases hlt : k < L.length
    · obtain ⟨a0, a1, a2⟩ := (H1.out.below' HB.out) k hlt
      have hxs := HZ.out L[k] (List.getElem_mem _)
      have hxz : (⟨L[k].text.toArray⟩ : ByteArray).size = L[k].text.length := by show L[k].text.toArray.size = _; simp
      have H2 := Lib.hid (HTT.out L[k].kind ⟨L[k].text.toArray⟩ L[k].pos (by omega))
      have htl := tellT_len L[k]
      have htt : (⟨L[k].kind, (⟨L[k].text.toArray⟩ : ByteArray).data.toList, L[k].pos⟩ : Tok) = L[k] := by simp
      rw [htt] at H2
      have hqs : (⟨(tellT L[k]).toArray⟩ : ByteArray).size = (tellT L[k]).length := by show (tellT L[k]).toArray.size = _; simp
      have hql : (⟨(tellT L[k]).toArray⟩ : ByteArray).data.toList = tellT L[k] := by simp
      have hsz := HB.out.size
      have hstep := HS.out
      by_cases k0 : k = 0
      · have hst2 : (S.data.toList ++ tellT L[k]) ++ restT (L.drop (k + 1)) = J := by
          rw [← hstep]
          unfold leftT
          rw [if_pos k0, List.append_assoc]
          subst k0
          rw [joinT_drop0 L hlt]
        rw [← hql] at hst2
        have hq2 : (⟨(tellT L[k]).toArray⟩ : ByteArray).size ≤ 120002 := by omega
        have hn : ¬ 0 < k := by omega
        have hn2 : decide (0 < k) = false := decide_eq_false hn
        clear htl hxs hxz htt hqs hql HS hstep
        generalize (L[k].kind.toNat : Int) = ka at *
        generalize L[k].pos = pa at *
        generalize (⟨L[k].text.toArray⟩ : ByteArray) = x at *
        generalize (⟨(tellT L[k]).toArray⟩ : ByteArray) = q at *
        have HS2 : Hid ((S ++ q).data.toList ++ leftT L (k + 1) = J) := Lib.hid (by unfold leftT; rw [if_neg (by omega), str_app]; exact hst2)
        clear hst2 k0
        go_wp2_with fail
        refine (H2.out _).mono ?_; rintro e w1 ⟨rfl, hb⟩
        have HB1 := Lib.hid (HB.out.trans (hb.mono hsz))
        clear hb
        go_wp2_with fail
        go_roundw
        case rel => exact ⟨k + 1, S ++ q, by omega, by go_num, rfl, by rw [size_app]; omega, HS2, HB1⟩
        case measure => simp [intOf]; omega
      · have hkp : 0 < k := by omega
        unfold leftT at hstep
        rw [if_neg k0, restT_drop L k hlt] at hstep
        rw [← hql] at hstep
        have hq2 : (⟨(tellT L[k]).toArray⟩ : ByteArray).size ≤ 120002 := by omega
        by_cases kk : L[k].kind = 0
        · have q0 : ((L[k].kind.toNat : Int) != 0) = false := by rw [kk]; rfl
          rw [if_pos kk] at hstep
          clear htl hxs hxz htt hqs hql HS kk
          generalize (L[k].kind.toNat : Int) = ka at *
          generalize L[k].pos = pa at *
          generalize (⟨L[k].text.toArray⟩ : ByteArray) = x at *
          generalize (⟨(tellT L[k]).toArray⟩ : ByteArray) = q at *
          have HS2 : Hid ((S ++ q).data.toList ++ leftT L (k + 1) = J) := Lib.hid (by
            unfold leftT; rw [if_neg (by omega), str_app, ← hstep]; simp)
          clear hstep k0
          go_wp2_with fail
          refine (H2.out _).mono ?_; rintro e w1 ⟨rfl, hb⟩
          have HB1 := Lib.hid (HB.out.trans (hb.mono hsz))
          clear hb
          go_wp2_with fail
          go_roundw
          case rel => exact ⟨k + 1, S ++ q, by omega, by go_num, rfl, by rw [size_app]; omega, HS2, HB1⟩
          case measure => simp [intOf]; omega
        · have q0 : ((L[k].kind.toNat : Int) != 0) = true := by
            rw [bne_iff_ne]; intro h; exact kk (UInt8.toNat_inj.1 (by show L[k].kind.toNat = 0; omega))
          rw [if_neg kk] at hstep
          clear htl hxs hxz htt hqs hql HS kk
          generalize (L[k].kind.toNat : Int) = ka at *
          generalize L[k].pos = pa at *
          generalize (⟨L[k].text.toArray⟩ : ByteArray) = x at *
          generalize (⟨(tellT L[k]).toArray⟩ : ByteArray) = q at *
          have HS2 : Hid ((S ++ ⟨#[32]⟩ ++ q).data.toList ++ leftT L (k + 1) = J) := Lib.hid (by
            unfold leftT; rw [if_neg (by omega), str_app, str_app, ← hstep]; simp)
          clear hstep k0
          go_wp2_with fail
          refine (H2.out _).mono ?_; rintro e w1 ⟨rfl, hb⟩
          have HB1 := Lib.hid (HB.out.trans (hb.mono hsz))
          clear hb
          go_wp2_with fail
          go_roundw
          case rel => exact ⟨k + 1, S ++ ⟨#[32]⟩ ++ q, by omega, by go_num, rfl, by rw [size_app, size_app]; have : (⟨#[32]⟩ : ByteArray).size = 1 := rfl; omega, HS2, HB1⟩
          case measure => simp [intOf]; omega
    · have HF : Hid ((⟨J.toArray⟩ : ByteArray) = S) := Lib.hid (by
        have := HS.out
        have hk0 : leftT L k = [] := by
          unfold leftT
          by_cases k0 : k = 0
          · rw [if_pos k0]
            have : L = [] := List.eq_nil_of_length_eq_zero (by omega)
            rw [this]; rfl
          · rw [if_neg k0, List.drop_of_length_le (by omega)]; rfl
        rw [hk0, List.append_nil] at this
        rw [← this])
      clear HS
      go_wp2_with fail
      go_ret
      exact ⟨retB HF.out.symm, HB.out⟩
set_option maxRecDepth 100000 in
theorem rjoined_none (a : Option Addr) (cap : Nat) (w : World) :
    Calls Tryd.prog 13 #[.slice a 0 cap] w fun e w' => e = .returned (.string ⟨(joinT []).toArray⟩) ∧ Below w.heap.size w w' := by
  go_enter Tryd.func13, Tryd.ntmps13
  go_wp2_with fail
  refine wp_loop_rounds 1 ?_; rw [rounds_succ]
  go_wp2_with fail
  go_ret
  exact ⟨rfl, Below.refl _ _⟩
theorem rjoined_any (HT : TellDoes) (L : List Tok) (u : Value) (hl : L.length ≤ 3000) (hz : ∀ t ∈ L, t.text.length ≤ 20000) (w : World) (h1 : TokSl u L w) :
    Calls Tryd.prog 13 #[u] w fun e w' => e = .returned (.string ⟨(joinT L).toArray⟩) ∧ Below w.heap.size w w' := by
  rcases h1 with ⟨a1, c1, rfl, rfl, _⟩ | ⟨b1, o1, c1, rfl, h1⟩
  · exact rjoined_none a1 c1 w
  · exact rjoined_row HT L b1 o1 c1 hl hz w h1
end Go.Proofs.YtcplgiimhedloaaDoor
