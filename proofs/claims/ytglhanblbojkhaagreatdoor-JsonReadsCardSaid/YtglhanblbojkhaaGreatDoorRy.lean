/- The walks through the reference's JSON reader (provostref04): take. -/
import Derived.Test.YtglhanblbojkhaaGreatDoorRr
import Derived.Laws.EntriesVeiled
set_option linter.unusedSimpArgs false
set_option linter.unusedVariables false
namespace Go.Proofs.YtglhanblbojkhaaGreatDoor
open Go.RowKit
theorem keepB {wr W W' : World} (hb : Below W.heap.size W W') (hS : Below wr.heap.size wr W) : Below wr.heap.size wr W' := hS.trans (hb.mono hS.size)
/-- Where a take ends. -/
def TakeE (r : Nat) (s : ByteArray) (v : Value) (o : Option (List UInt8)) (W : World) : Prop := match o with
  | none => ∃ a, a ≤ s.size ∧ RdR r s a v 40 W
  | some t => ∃ a, a ≤ s.size ∧ s.data.toList.drop a = t ∧ RdR r s a v 0 W
set_option maxRecDepth 100000 in
set_option maxHeartbeats 1000000 in
theorem rtake_err (r : Nat) (s what : ByteArray) (at_ : Nat) (v : Value) (e : Int) (he : ¬ e = 0) (ha : at_ ≤ s.size) (hs : s.size ≤ 1000000) (hw : what.size ≤ 10) (hp : 0 < what.size) (h0 : ¬ what[0] = 0) (w : World) (h : RdR r s at_ v e w) :
    Calls Tryz.prog 52 #[.pointer (some ⟨r, 0, none⟩), .string what] w fun x w' => x = .returned (.tuple #[]) ∧ RdR r s at_ v e w' ∧ RK r w w' := by
  have HH := Lib.hid h
  have hlt := h.lt
  have HLA : Hid (∀ W, Below w.heap.size w W → Calls Tryz.prog 48 #[.pointer (some ⟨r, 0, none⟩)] W fun x w' => x = .returned (.int .u8 0) ∧ Below W.heap.size W w') := Lib.hid fun W hW => rlook_err r s at_ v e he W (HH.out.below hW)
  have HFA : Hid (∀ W, Below w.heap.size w W → Calls Tryz.prog 27 #[.pointer (some ⟨r, 0, none⟩), .int .i64 40] W fun x w' => x = .returned (.tuple #[]) ∧ RdR r s at_ v e w' ∧ RK r W w') := Lib.hid fun W hW => by
    have := rfail_any r s at_ v e 40 W (HH.out.below hW)
    rw [if_neg he] at this
    exact this
  have t0 : ((what[0].toNat : Int) == 0) = false := beq_eq_false_iff_ne.2 fun e => h0 (UInt8.toNat_inj.1 (by show what[0].toNat = 0; omega))
  have t1 : ((0 : Int) != (what[0].toNat : Int)) = true := bne_iff_ne.2 fun e => by rw [← e] at t0; exact absurd t0 (by decide)
  have HS0 : Hid (Below w.heap.size w w) := Lib.hid (Below.refl _ _)
  clear h h0 he t0
  go_enter Tryz.func52, Tryz.ntmps52
  go_wp2_with fail
  refine wp_loop_rounds 1 ?_; rw [rounds_succ]
  go_wp2_with fail
  go_region_held3 (fun W => Below w.heap.size w W)
    (first | assumption | exact keepB (W := w) ⟨rfl, rfl, rfl, Nat.le_refl _, fun _ _ => rfl⟩ HS0.out | exact keepB (by assumption) (by assumption))
    (first | ((with_reducible refine (HLA.out _ (by assumption)).mono ?_); rintro e w5 ⟨rfl, hb⟩))
  all_goals
    rename_i hS
    have HB := Lib.hid hS
    clear hS
    go_wp2_with fail
    refine (HFA.out _ HB.out).mono ?_; rintro x w6 ⟨rfl, hr, hk⟩
    have HE : Hid (RdR r s at_ v e w6 ∧ RK r w w6) := Lib.hid ⟨hr, (RK.of_below HB.out hlt).trans hk⟩
    clear hr hk
    go_wp2_with fail
    first | go_end0 | refine bodyPost_ret (results_none rfl _ _ _) rfl ?_
    exact ⟨rfl, HE.out⟩
set_option maxRecDepth 100000 in
set_option maxHeartbeats 1000000 in
theorem rtake_go (r : Nat) (s what : ByteArray) (at_ : Nat) (v : Value) (ha : at_ ≤ s.size) (hs : s.size ≤ 1000000) (hw : what.size ≤ 10) (h0 : ∀ c ∈ what.data.toList, c ≠ 0) (w : World) (h : RdR r s at_ v 0 w) :
    Calls Tryz.prog 52 #[.pointer (some ⟨r, 0, none⟩), .string what] w fun x w' => x = .returned (.tuple #[]) ∧ TakeE r s v (tkJ what.data.toList (s.data.toList.drop at_)) w' ∧ RK r w w' := by
  have HH := Lib.hid h
  obtain ⟨o, ho⟩ : ∃ o, tkJ what.data.toList (s.data.toList.drop at_) = o := ⟨_, rfl⟩
  have HO : Hid ((if (what.data.toList.drop 0).isPrefixOf (s.data.toList.drop at_) then some (s.data.toList.drop (at_ + what.size)) else none) = o) := Lib.hid (by
    rw [← ho]; unfold tkJ
    rw [List.drop_zero, List.drop_drop]
    rfl)
  have HLK : Hid (∀ a, a ≤ s.size → ∀ W, RdR r s a v 0 W → Calls Tryz.prog 48 #[.pointer (some ⟨r, 0, none⟩)] W fun x w' => x = .returned (.int .u8 ((lookJ 0 (s.data.toList.drop a)).toNat : Int)) ∧ Below W.heap.size W w') := Lib.hid fun a h1 W h2 => rlook_any r s a v 0 h1 hs W h2
  have HZ := Lib.hid h0
  rw [ho]
  clear h ho h0
  go_enter Tryz.func52, Tryz.ntmps52
  go_wp2_with fail
  go_loopg [4] what.size (fun gk ct wr => ∃ j a : Nat, ct = .int .i64 j ∧ (gk + j ≤ what.size ∧ what.size ≤ gk + j) ∧ a ≤ s.size ∧ Hid (a = at_ + j) ∧ Hid ((if (what.data.toList.drop j).isPrefixOf (s.data.toList.drop a) then some (s.data.toList.drop (at_ + what.size)) else none) = o) ∧ Hid (RdR r s a v 0 wr) ∧ Hid (RK r w wr))
  case atStart => exact ⟨0, at_, rfl, ⟨by omega, by omega⟩, ha, Lib.hid rfl, HO, HH, Lib.hid (RK.refl _ _)⟩
  case round =>
    rename World => wr
    obtain ⟨j, a, rfl, ⟨hg, hg'⟩, hal, HA, HP, HR, HK⟩ := hrel
    have hlt := HR.out.lt
    have HLA : Hid (∀ W, Below wr.heap.size wr W → Calls Tryz.prog 48 #[.pointer (some ⟨r, 0, none⟩)] W fun x w' => x = .returned (.int .u8 ((lookJ 0 (s.data.toList.drop a)).toNat : Int)) ∧ Below W.heap.size W w') := Lib.hid fun W hW => HLK.out a hal W (HR.out.below hW)
    by_cases hg0 : gk = 0
    · subst hg0
      have hjn : ¬ j < what.size := by omega
      have HF : Hid (TakeE r s v o wr) := Lib.hid (by
        have := HP.out
        rw [List.drop_eq_nil_of_le (by rw [Array.length_toList]; show what.size ≤ _; omega), if_pos (by cases s.data.toList.drop a <;> rfl)] at this
        rw [← this]
        refine ⟨a, hal, ?_, HR.out⟩
        rw [HA.out, show j = what.size from by omega])
      clear hg hg'
      go_wp2_with fail
      go_end0
      exact ⟨rfl, HF.out, HK.out⟩
    · have hjm : j < what.size := by omega
      have hdw := drop_at what j hjm
      have hc0 : what[j] ≠ 0 := HZ.out _ (List.mem_of_mem_drop (i := j) (by rw [hdw]; exact List.mem_cons_self ..))
      have HS0 : Hid (Below wr.heap.size wr wr) := Lib.hid (Below.refl _ _)
      by_cases hc : lookJ 0 (s.data.toList.drop a) = what[j]
      · have hst : a < s.size ∧ s.data.toList.drop a = what[j] :: s.data.toList.drop (a + 1) := by
          unfold lookJ at hc
          rw [if_neg (by simp)] at hc
          by_cases hlt2 : a < s.size
          · rw [drop_at s a hlt2] at hc ⊢
            rw [List.headD_cons] at hc
            rw [hc]
            exact ⟨hlt2, rfl⟩
          · rw [List.drop_eq_nil_of_le (by rw [Array.length_toList]; show s.size ≤ _; omega)] at hc
            exact absurd hc.symm hc0
        obtain ⟨ha2, hda⟩ := hst
        have HPN : Hid ((if (what.data.toList.drop (j + 1)).isPrefixOf (s.data.toList.drop (a + 1)) then some (s.data.toList.drop (at_ + what.size)) else none) = o) := Lib.hid (by
          have := HP.out
          rw [hdw, hda, List.isPrefixOf, beq_self_eq_true, Bool.true_and] at this
          exact this)
        have HAN : Hid (a + 1 = at_ + (j + 1)) := Lib.hid (by have := HA.out; omega)
        rw [hc] at HLA
        have t0 : ((what[j].toNat : Int) != (what[j].toNat : Int)) = false := by simp
        clear hc hdw hda hc0
        go_wp2_with fail
        go_region_held3 (fun W => Below wr.heap.size wr W)
          (first | assumption | exact keepB (W := wr) ⟨rfl, rfl, rfl, Nat.le_refl _, fun _ _ => rfl⟩ HS0.out | exact keepB (by assumption) (by assumption))
          (first | ((with_reducible refine (HLA.out _ (by assumption)).mono ?_); rintro e w5 ⟨rfl, hb⟩))
        all_goals
          rename_i hS
          have HB := Lib.hid hS
          clear hS
          have HRN := Lib.hid (HR.out.below HB.out)
          obtain ⟨c0, c1, c2, c3⟩ := HRN.out.cells
          have f1 := HRN.out.frozen 1
          go_wp2_with fail
          rw [show ((a : Int) + 1) = ((a + 1 : Nat) : Int) from by omega]
          have HRM := Lib.hid (HRN.out.at_ (a + 1))
          have HKM := Lib.hid ((HK.out.trans (RK.of_below HB.out hlt)).trans (RK.set r 1 _ (.int .i64 ((a + 1 : Nat) : Int))))
          go_roundg (gk - 1)
          case measure => omega
          case rel => exact ⟨j + 1, a + 1, by go_num, ⟨by omega, by omega⟩, by omega, HAN, HPN, HRM, HKM⟩
      · have HFA : Hid (∀ W, Below wr.heap.size wr W → Calls Tryz.prog 27 #[.pointer (some ⟨r, 0, none⟩), .int .i64 40] W fun x w' => x = .returned (.tuple #[]) ∧ RdR r s a v 40 w' ∧ RK r W w') := Lib.hid fun W hW => by
          have := rfail_any r s a v 0 40 W (HR.out.below hW)
          rw [if_pos rfl] at this
          exact this
        have hnone : o = none := by
          rw [← HP.out, if_neg]
          rw [hdw]
          intro h
          unfold lookJ at hc
          rw [if_neg (by simp)] at hc
          cases hL : s.data.toList.drop a with
          | nil => rw [hL] at h; exact absurd h (by simp [List.isPrefixOf])
          | cons c t =>
            rw [hL] at h hc
            rw [List.isPrefixOf, Bool.and_eq_true, beq_iff_eq] at h
            exact hc h.1.symm
        have HF : Hid (∀ W, RdR r s a v 40 W → TakeE r s v o W) := Lib.hid fun W hW => by rw [hnone]; exact ⟨a, hal, hW⟩
        have t0 : (((lookJ 0 (s.data.toList.drop a)).toNat : Int) != (what[j].toNat : Int)) = true := bne_iff_ne.2 fun e => hc (UInt8.toNat_inj.1 (by omega))
        clear hnone hc hdw hc0
        generalize ((lookJ 0 (s.data.toList.drop a)).toNat : Int) = ci at *
        go_wp2_with fail
        go_region_held3 (fun W => Below wr.heap.size wr W)
          (first | assumption | exact keepB (W := wr) ⟨rfl, rfl, rfl, Nat.le_refl _, fun _ _ => rfl⟩ HS0.out | exact keepB (by assumption) (by assumption))
          (first | ((with_reducible refine (HLA.out _ (by assumption)).mono ?_); rintro e w5 ⟨rfl, hb⟩))
        all_goals
          rename_i hS
          have HB := Lib.hid hS
          clear hS
          go_wp2_with fail
          refine (HFA.out _ HB.out).mono ?_; rintro x w6 ⟨rfl, hr, hk⟩
          have HE : Hid (TakeE r s v o w6 ∧ RK r w w6) := Lib.hid ⟨HF.out _ hr, (HK.out.trans (RK.of_below HB.out hlt)).trans hk⟩
          clear hr hk
          go_wp2_with fail
          first | go_end0 | refine bodyPost_ret (results_none rfl _ _ _) rfl ?_
          exact ⟨rfl, HE.out⟩
end Go.Proofs.YtglhanblbojkhaaGreatDoor
