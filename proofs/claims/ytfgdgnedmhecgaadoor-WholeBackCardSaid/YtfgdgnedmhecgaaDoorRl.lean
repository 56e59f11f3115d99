/- The walks through the laws WholeReads, WholeBack, WholeNames. -/
import Derived.Test.YtfgdgnedmhecgaaDoorRc
import Derived.Test.YtfgdgnedmhecgaaDoorWc
import Derived.Test.YtfgdgnedmhecgaaDoorWl
set_option linter.unusedSimpArgs false
set_option linter.unusedVariables false
namespace Go.Proofs.YtfgdgnedmhecgaaDoor
open Go.RowKit
set_option maxHeartbeats 1000000 in
theorem reads_walk (s : ByteArray) (n : Int) (hs : s.size ≤ 2000) (hr : R n) (w : World) (he : Env w) :
    Calls Tryd.prog 3 #[.string s, .int .i64 n] w fun e w' => e = .returned (.bool true) ∧ Below w.heap.size w w' := by
  have HE := Lib.hid he
  clear he
  have HR := Lib.hid (fun w => rread_any s w (by unfold maxLen; omega))
  go_enter Tryd.func3, Tryd.ntmps3
  go_wp2_with fail
  refine (read_any s (by omega) _ HE.out).mono ?_; rintro e w1 ⟨rfl, hb1⟩
  go_wp2_with fail
  refine (HR.out _).mono ?_; rintro e w2 ⟨rfl, rfl⟩
  go_wp2_with fail
  refine (write_any n hr _ (HE.out.stays hb1)).mono ?_; rintro e w2 ⟨rfl, hb2⟩
  go_wp2_with fail
  refine (rwrite_any n hr _).mono ?_; rintro e w3 ⟨rfl, rfl⟩
  go_wp2_with fail
  refine (small_any n hr _).mono ?_; rintro e w3 ⟨rfl, rfl⟩
  go_wp2_with fail
  refine (rsmall_any n _).mono ?_; rintro e w3 ⟨rfl, rfl⟩
  go_wp2_with fail
  go_ret
  refine ⟨ret1 ?_, hb1.trans (hb2.mono hb1.size)⟩
  simp
set_option maxHeartbeats 1000000 in
theorem lreads_any (s : ByteArray) (v x : Int) (hs : s.size ≤ 2000) (w : World) (he : Env w) :
    Calls Tryd.prog 13 #[.string s, .int .i64 v, .int .i64 x] w fun e w' => e = .returned (.bool (rdV s.data.toList == v && rdE s.data.toList == x)) ∧ Below w.heap.size w w' := by
  go_enter Tryd.func13, Tryd.ntmps13
  go_wp2_with fail
  refine (read_any s (by omega) _ he).mono ?_; rintro e w1 ⟨rfl, hb1⟩
  go_wp2_with fail
  refine (is_any _ _ _ _ _).mono ?_; rintro e w2 ⟨rfl, rfl⟩
  go_wp2_with fail
  go_ret
  exact ⟨rfl, hb1⟩
theorem lreads_itoa (n : Int) (hr : R n) (w : World) (he : Env w) :
    Calls Tryd.prog 13 #[.string ⟨(Lib.itoa n).toArray⟩, .int .i64 n, .int .i64 0] w fun e w' => e = .returned (.bool true) ∧ Below w.heap.size w w' :=
  (lreads_any ⟨(Lib.itoa n).toArray⟩ n 0 (by have := len_itoa hr; change (Lib.itoa n).toArray.size ≤ 2000; rw [List.size_toArray]; omega) w he).mono fun e w' ⟨h1, h2⟩ => ⟨by
    rw [h1]; exact ret1 (by rw [show (⟨(Lib.itoa n).toArray⟩ : ByteArray).data.toList = Lib.itoa n from rfl, rdV_itoa n hr, rdE_itoa n hr]; simp), h2⟩
theorem rdV_R (l : List UInt8) : R (rdV l) := by
  unfold rdV; split
  · exact val_R _
  · unfold R; omega
set_option maxHeartbeats 1000000 in
theorem back_err (s : ByteArray) (n : Int) (hs : s.size ≤ 2000) (hr : R n) (h : ¬ rdE s.data.toList = 0) (w : World) (he : Env w) :
    Calls Tryd.prog 4 #[.int .i64 n, .string s] w fun e w' => e = .returned (.bool true) ∧ Below w.heap.size w w' := by
  have HE := Lib.hid he
  have h1 : (rdE s.data.toList != 0) = true := by simpa using h
  clear he h
  go_enter Tryd.func4, Tryd.ntmps4
  go_wp2_with fail
  refine (alive_any _).mono ?_; rintro e w1 ⟨rfl, hb1⟩
  go_wp2_with fail
  refine (read_any s (by omega) _ (HE.out.stays hb1)).mono ?_; rintro e w2 ⟨rfl, hb2⟩
  go_wp2_with fail
  have HE2 := Lib.hid ((HE.out.stays hb1).stays hb2)
  refine (write_any n hr _ HE2.out).mono ?_; rintro e w3 ⟨rfl, hb3⟩
  go_wp2_with fail
  refine (lreads_itoa n hr _ (HE2.out.stays hb3)).mono ?_; rintro e w4 ⟨rfl, hb4⟩
  go_wp2_with fail
  go_ret
  have b12 := hb1.trans (hb2.mono hb1.size)
  have b13 := b12.trans (hb3.mono b12.size)
  exact ⟨rfl, b13.trans (hb4.mono b13.size)⟩
set_option maxHeartbeats 1000000 in
theorem back_ok (s : ByteArray) (n m : Int) (b : Bool) (hs : s.size ≤ 2000) (hr : R n) (hm : R m) (h : rdE s.data.toList = 0) (hv : rdV s.data.toList = m) (t : ByteArray) (ht : (Lib.itoa m).toArray = t.data) (hb : (t.toList == s.toList) = b) (hz : b = false → s = ⟨#[45, 48]⟩ ∧ m = 0) (w : World) (he : Env w) :
    Calls Tryd.prog 4 #[.int .i64 n, .string s] w fun e w' => e = .returned (.bool true) ∧ Below w.heap.size w w' := by
  have HE := Lib.hid he
  have HR := Lib.hid (fun w he => read_any s (by omega) w he)
  rw [h, hv] at HR
  have HW := Lib.hid (fun w he => (write_any m hm w he).mono (R' := fun e w' => e = .returned (.string t) ∧ Below w.heap.size w w') fun e w' ⟨h1, h2⟩ => ⟨by rw [h1, ht], h2⟩)
  clear he h hv ht
  have hcase : b = true ∨ (b = false ∧ s = ⟨#[45, 48]⟩ ∧ m = 0) := by cases b <;> simp_all
  clear hz
  rcases hcase with rfl | ⟨rfl, rfl, rfl⟩
  all_goals
    go_enter Tryd.func4, Tryd.ntmps4
    go_wp2_with fail
    refine (alive_any _).mono ?_; rintro e w1 ⟨rfl, hb1⟩
    go_wp2_with fail
    refine (HR.out _ (HE.out.stays hb1)).mono ?_; rintro e w2 ⟨rfl, hb2⟩
    go_wp2_with fail
    have HE2 := Lib.hid ((HE.out.stays hb1).stays hb2)
    refine (write_any n hr _ HE2.out).mono ?_; rintro e w3 ⟨rfl, hb3⟩
    go_wp2_with fail
    have HE3 := Lib.hid (HE2.out.stays hb3)
    refine (lreads_itoa n hr _ HE3.out).mono ?_; rintro e w4 ⟨rfl, hb4⟩
    go_wp2_with fail
    refine (HW.out _ (HE3.out.stays hb4)).mono ?_; rintro e w5 ⟨rfl, hb5⟩
    go_wp2_with fail
    all_goals
      have b12 := hb1.trans (hb2.mono hb1.size)
      have b13 := b12.trans (hb3.mono b12.size)
      have b14 := b13.trans (hb4.mono b13.size)
      have b15 := b14.trans (hb5.mono b14.size)
      go_ret
      exact ⟨rfl, b15⟩
theorem back_walk (s : ByteArray) (n : Int) (hs : s.size ≤ 2000) (hr : R n) (w : World) (he : Env w) :
    Calls Tryd.prog 4 #[.int .i64 n, .string s] w fun e w' => e = .returned (.bool true) ∧ Below w.heap.size w w' := by
  by_cases h : rdE s.data.toList = 0
  · refine back_ok s n _ _ hs hr (rdV_R _) h rfl ⟨(Lib.itoa (rdV s.data.toList)).toArray⟩ rfl rfl ?_ w he
    rcases itoa_read _ h with h1 | ⟨h1, h2⟩
    · intro hb
      rw [ByteArray.toList_eq, ByteArray.toList_eq, show (⟨(Lib.itoa (rdV s.data.toList)).toArray⟩ : ByteArray).data.toList = Lib.itoa (rdV s.data.toList) from rfl, h1] at hb
      simp at hb
    · intro _
      refine ⟨?_, h2⟩
      apply ByteArray.ext
      rw [← Array.toArray_toList (xs := s.data), h1]
  · exact back_err s n hs hr h w he
set_option maxHeartbeats 1000000 in
theorem back_long (s : ByteArray) (n : Int) (hm : s.size ≤ maxLen) (hs : 2000 < s.size) (w : World) :
    Calls Tryd.prog 4 #[.int .i64 n, .string s] w fun e w' => e = .returned (.bool true) ∧ Below w.heap.size w w' := by
  unfold maxLen at hm
  go_enter Tryd.func4, Tryd.ntmps4
  go_wp2_with fail
  refine (alive_any _).mono ?_; rintro e w1 ⟨rfl, hb1⟩
  go_wp2
  go_ret
  exact ⟨rfl, hb1⟩
set_option maxHeartbeats 1000000 in
theorem reads_long (s : ByteArray) (n : Int) (hm : s.size ≤ maxLen) (hs : 2000 < s.size) (w : World) :
    Calls Tryd.prog 3 #[.string s, .int .i64 n] w fun e w' => e = .returned (.bool true) ∧ Below w.heap.size w w' := by
  unfold maxLen at hm
  go_enter Tryd.func3, Tryd.ntmps3
  go_wp2
  go_ret
  exact ⟨rfl, Below.refl _ _⟩
theorem walk_reads (s : ByteArray) (n : Int) (hm : s.size ≤ maxLen) (hr : R n) (w : World) (he : Env w) :
    Calls Tryd.prog 3 #[.string s, .int .i64 n] w fun e w' => e = .returned (.bool true) ∧ Below w.heap.size w w' := by
  rcases Nat.lt_or_ge 2000 s.size with h | h
  · exact reads_long s n hm h w
  · exact reads_walk s n h hr w he
theorem walk_back (s : ByteArray) (n : Int) (hm : s.size ≤ maxLen) (hr : R n) (w : World) (he : Env w) :
    Calls Tryd.prog 4 #[.int .i64 n, .string s] w fun e w' => e = .returned (.bool true) ∧ Below w.heap.size w w' := by
  rcases Nat.lt_or_ge 2000 s.size with h | h
  · exact back_long s n hm h w
  · exact back_walk s n h hr w he
theorem lreads_at (s : ByteArray) (v x : Int) (hs : s.size ≤ 2000) (h : (rdV s.data.toList == v && rdE s.data.toList == x) = true) (w : World) (he : Env w) :
    Calls Tryd.prog 13 #[.string s, .int .i64 v, .int .i64 x] w fun e w' => e = .returned (.bool true) ∧ Below w.heap.size w w' :=
  (lreads_any s v x hs w he).mono fun e w' ⟨h1, h2⟩ => ⟨by rw [h1, h], h2⟩
set_option maxHeartbeats 4000000 in
theorem names_walk (w : World) (he : Env w) :
    Calls Tryd.prog 5 #[] w fun e w' => e = .returned (.bool true) ∧ Below w.heap.size w w' := by
  have E0 := Lib.hid he
  have B0 := Below.refl w.heap.size w
  clear he
  go_enter Tryd.func5, Tryd.ntmps5
  go_wp2_with fail
  refine (mul_any _ _ (by unfold R; omega) (by unfold R; omega) _).mono ?_; rintro e w1 ⟨rfl, h1⟩
  have E1 := Lib.hid (E0.out.stays h1)
  have B1 := B0.trans (h1.mono B0.size)
  clear E0 B0 h1
  go_wp2_with fail
  refine (neg_any _ (by unfold R; omega) _).mono ?_; rintro e wx ⟨rfl, rfl⟩
  go_wp2_with fail
  refine (mul_any _ _ (by unfold R; omega) (by unfold R; omega) _).mono ?_; rintro e w2 ⟨rfl, h2⟩
  have E2 := Lib.hid (E1.out.stays h2)
  have B2 := B1.trans (h2.mono B1.size)
  clear E1 B1 h2
  go_wp2_with fail
  refine (lreads_at _ _ _ (by decide) (by decide +kernel) _ E2.out).mono ?_; rintro e w3 ⟨rfl, h3⟩
  have E3 := Lib.hid (E2.out.stays h3)
  have B3 := B2.trans (h3.mono B2.size)
  clear E2 B2 h3
  go_wp2_with fail
  refine (lreads_at _ _ _ (by decide) (by decide +kernel) _ E3.out).mono ?_; rintro e w4 ⟨rfl, h4⟩
  have E4 := Lib.hid (E3.out.stays h4)
  have B4 := B3.trans (h4.mono B3.size)
  clear E3 B3 h4
  go_wp2_with fail
  refine (lreads_at _ _ _ (by decide) (by decide +kernel) _ E4.out).mono ?_; rintro e w5 ⟨rfl, h5⟩
  have E5 := Lib.hid (E4.out.stays h5)
  have B5 := B4.trans (h5.mono B4.size)
  clear E4 B4 h5
  go_wp2_with fail
  refine (lreads_at _ _ _ (by decide) (by decide +kernel) _ E5.out).mono ?_; rintro e w6 ⟨rfl, h6⟩
  have E6 := Lib.hid (E5.out.stays h6)
  have B6 := B5.trans (h6.mono B5.size)
  clear E5 B5 h6
  go_wp2_with fail
  refine (lreads_at _ _ _ (by decide) (by decide +kernel) _ E6.out).mono ?_; rintro e w7 ⟨rfl, h7⟩
  have E7 := Lib.hid (E6.out.stays h7)
  have B7 := B6.trans (h7.mono B6.size)
  clear E6 B6 h7
  go_wp2_with fail
  refine (lreads_at _ _ _ (by decide) (by decide +kernel) _ E7.out).mono ?_; rintro e w8 ⟨rfl, h8⟩
  have E8 := Lib.hid (E7.out.stays h8)
  have B8 := B7.trans (h8.mono B7.size)
  clear E7 B7 h8
  go_wp2_with fail
  refine (lreads_at _ _ _ (by decide) (by decide +kernel) _ E8.out).mono ?_; rintro e w9 ⟨rfl, h9⟩
  have E9 := Lib.hid (E8.out.stays h9)
  have B9 := B8.trans (h9.mono B8.size)
  clear E8 B8 h9
  go_wp2_with fail
  refine (alive_any _).mono ?_; rintro e w10 ⟨rfl, h10⟩
  have E10 := Lib.hid (E9.out.stays h10)
  have B10 := B9.trans (h10.mono B9.size)
  clear E9 B9 h10
  go_wp2_with fail
  refine (is_yes _ _ _ _ (by decide +kernel) (by decide +kernel) _).mono ?_; rintro e wx ⟨rfl, rfl⟩
  go_wp2_with fail
  refine (is_yes _ _ _ _ (by decide +kernel) (by decide +kernel) _).mono ?_; rintro e wx ⟨rfl, rfl⟩
  go_wp2_with fail
  refine (is_yes _ _ _ _ (by decide +kernel) (by decide +kernel) _).mono ?_; rintro e wx ⟨rfl, rfl⟩
  go_wp2_with fail
  refine (small_any _ (by unfold R; omega) _).mono ?_; rintro e wx ⟨rfl, rfl⟩
  go_wp2_with fail
  refine (small_any _ (by unfold R; omega) _).mono ?_; rintro e wx ⟨rfl, rfl⟩
  go_wp2_with fail
  go_ret
  exact ⟨rfl, B10⟩
end Go.Proofs.YtfgdgnedmhecgaaDoor
