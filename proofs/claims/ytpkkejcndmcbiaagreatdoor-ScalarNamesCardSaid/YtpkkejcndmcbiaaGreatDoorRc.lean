/- The walks through the program's own digits (whole.Write, whole.Read): the library's functions by the shelf's contracts. -/
import Derived.Test.YtpkkejcndmcbiaaGreatDoorRq
import Derived.Test.YtpkkejcndmcbiaaGreatDoorWw
import Derived.Test.YtpkkejcndmcbiaaGreatDoorWb
import Derived.Test.YtpkkejcndmcbiaaGreatDoorShelf
import Derived.Deep.Draws
import Derived.Shelf.Strings.SlTrimAscii
set_option linter.unusedSimpArgs false
set_option linter.unusedVariables false
namespace Go.Proofs.YtpkkejcndmcbiaaGreatDoor
open Go.RowKit

/-- What the library's variables hold. -/
structure Env (w : World) : Prop where
  tab : Lib.TabIs Tryz.prog w "internal/strconv.uint64pow10" .u64 Lib.pow10Tab
  rng : ∃ tp p, w.var? Tryz.prog "strconv.ErrRange" = some #[.iface tp p]
theorem Env.stays {w w' : World} (h : Env w) (hb : Below w.heap.size w w') : Env w' :=
  ⟨var_stays_w h.tab hb, let ⟨tp, p, hv⟩ := h.rng; ⟨tp, p, var_stays_w hv hb⟩⟩
theorem Env.below {B : Nat} {w w' : World} (h : Env w) (hb : Below B w w') (hB : w.heap.size ≤ B) : Env w' := h.stays (hb.mono hB)
theorem write_any (n : Int) (hr : R n) (w : World) (ht : Env w) :
    Calls Tryz.prog 54 #[.int .i64 n] w fun e w' => e = .returned (.string ⟨(Lib.itoa n).toArray⟩) ∧ Below w.heap.size w w' := write_tab n hr w ht.tab
theorem cut_dash (s b : ByteArray) (bl : Bool) (hb : b.data.toList = body s.data.toList) (hbl : below s.data.toList = bl) (w : World) :
    Calls Tryz.prog 89 #[.string s, .string ⟨#[45]⟩] w fun e w' => e = .returned (.tuple #[.string b, .bool bl]) ∧ w = w' :=
  (Tryz.strings_CutPrefix s ⟨#[45]⟩ w).mono fun e w' ⟨he, hw⟩ => ⟨by
    rw [he, show (⟨#[45]⟩ : ByteArray).data.toList = [45] from rfl, trimPrefix_dash, hasPrefix_dash, hbl, ← hb], hw.symm⟩
def digitSet : ByteArray := ⟨#[48, 49, 50, 51, 52, 53, 54, 55, 56, 57]⟩
theorem trim_any (b : ByteArray) (hs : b.size ≤ 9223372036854775807) (w : World) :
    Calls Tryz.prog 93 #[.string b, .string ⟨#[48, 49, 50, 51, 52, 53, 54, 55, 56, 57]⟩] w fun e w' => e = .returned (.string ⟨(Lib.trimS b.data.toList [48, 49, 50, 51, 52, 53, 54, 55, 56, 57]).toArray⟩) ∧ Below w.heap.size w w' :=
  Any.strings_Trim_laid Tryz.lays160 (by kernel_rfl) b ⟨#[48, 49, 50, 51, 52, 53, 54, 55, 56, 57]⟩ w hs (by decide) (ascii_of_all (by decide))
theorem ne_nil (b : ByteArray) (h : 0 < b.size) : ¬ b.toList = [] := by
  rw [ByteArray.toList_eq]
  intro e
  have : b.data.toList.length = 0 := by rw [e]; rfl
  rw [Array.length_toList] at this
  change 0 < b.data.size at h; omega
theorem trim_to (b t : ByteArray) (hs : b.size ≤ 9223372036854775807) (ht : (Lib.trimS b.data.toList [48, 49, 50, 51, 52, 53, 54, 55, 56, 57]).toArray = t.data) (w : World) :
    Calls Tryz.prog 93 #[.string b, .string ⟨#[48, 49, 50, 51, 52, 53, 54, 55, 56, 57]⟩] w fun e w' => e = .returned (.string t) ∧ Below w.heap.size w w' :=
  (trim_any b hs w).mono fun e w' ⟨he, hw⟩ => ⟨by rw [he, ht], hw⟩
theorem below_freeze {B : Nat} {w w' : World} (h : Below B w w') {a : Addr} (ha : B ≤ a.block) (n : Nat) : Below B w (w'.freeze a n) := by
  unfold World.freeze
  split
  · exact h
  · exact ⟨h.os, h.tape, h.output, by show _ ≤ (Array.modify _ _ _).size; rw [Array.size_modify]; exact h.size, fun i hi => by
      show (Array.modify _ _ _)[i]? = _
      rw [Array.getElem?_modify, if_neg (by omega)]; exact h.block i hi⟩
theorem below_bytes (w : World) (t : TypeId) (s : ByteArray) : Below w.heap.size w (Lib.bytesWorld w t s) :=
  below_freeze (((Below.refl _ _).drew).alloc (Nat.le_refl _) _) (Nat.le_refl _) 1
theorem parse_in (b : ByteArray) (hs : b.size ≤ 281474976710656) (hd : digitsB b.data.toList = true) (hn : num b.data.toList ≤ 18446744073709551615) (w : World) :
    Calls Tryz.prog 135 #[.string b, .int .i64 10, .int .i64 64] w fun e w' => e = .returned (.tuple #[.int .u64 (num b.data.toList : Int), .nilIface]) ∧ Below w.heap.size w w' :=
  (Tryz.strconv_ParseUint_10_at64_ok b (by omega) _ (parse_ok _ hd hn) w).mono fun e w' ⟨he, hw⟩ => ⟨he, by rcases hw with rfl | rfl; exact Below.refl _ _; exact below_bytes _ _ _⟩
/-- An error came. -/
def Over (w : World) (e : Ending) (w' : World) : Prop := ∃ a : Addr, e = .returned (.tuple #[.int .u64 18446744073709551615, .iface 253 (.pointer (some a))]) ∧ Below w.heap.size w w'
theorem parse_out (b : ByteArray) (hs : b.size ≤ 281474976710656) (hd : digitsB b.data.toList = true) (hn : ¬ num b.data.toList ≤ 18446744073709551615) (w : World) (he : Env w) :
    Calls Tryz.prog 135 #[.string b, .int .i64 10, .int .i64 64] w (Over w) := by
  obtain ⟨tp, p, hv⟩ := he.rng
  exact (Tryz.strconv_ParseUint_10_at64_range_var b hs (parse_range _ hd hn) tp p w hv).mono fun e w' ⟨N, he, _, _, hb⟩ => ⟨_, he, hb⟩
/-- A block just made, behind calls that only make blocks. -/
theorem own2 {w w1 : World} {x y : Value} {t : TypeId} (hb : Below (w.alloc (.cells #[x, y] t)).heap.size (w.alloc (.cells #[x, y] t)) w1) :
    w1.cell? ⟨w.heap.size, 0, none⟩ = some x ∧ w1.cell? ⟨w.heap.size, 1, none⟩ = some y ∧ w1.frozen? ⟨w.heap.size, 0, none⟩ = false ∧ w1.frozen? ⟨w.heap.size, 1, none⟩ = false ∧ w.heap.size < w1.heap.size ∧ Below w.heap.size w w1 := by
  have hsz : (w.alloc (.cells #[x, y] t)).heap.size = w.heap.size + 1 := World.size_alloc _ _
  rw [hsz] at hb
  have hz := hb.size
  refine ⟨?_, ?_, ?_, ?_, by omega, ((Below.refl _ _).alloc (Nat.le_refl _) _).trans (hb.mono (Nat.le_succ _))⟩
  · rw [hb.cell (p := ⟨w.heap.size, 0, none⟩) (by simp)]; simp [go_sem]
  · rw [hb.cell (p := ⟨w.heap.size, 1, none⟩) (by simp)]; simp [go_sem]
  · rw [hb.frozen (p := ⟨w.heap.size, 0, none⟩) (by simp)]; simp [go_sem]
  · rw [hb.frozen (p := ⟨w.heap.size, 1, none⟩) (by simp)]; simp [go_sem]
theorem rdV_of {l b : List UInt8} {bl : Bool} (hb : b = body l) (hbl : below l = bl) : rdV l = if okDigits b then val (if bl then -(num b : Int) else num b) else 0 := by unfold rdV signed; rw [hbl, ← hb]
theorem rdE_of {l b : List UInt8} {bl : Bool} (hb : b = body l) (hbl : below l = bl) : rdE l = if okDigits b then err (if bl then -(num b : Int) else num b) else 21 := by unfold rdE signed; rw [hbl, ← hb]
set_option maxRecDepth 100000 in
set_option maxHeartbeats 1000000 in
theorem read_ok (s b : ByteArray) (bl : Bool) (hb : b.data.toList = body s.data.toList) (hbl : below s.data.toList = bl) (hs : s.size ≤ 281474976710656) (hbs : b.size ≤ s.size) (hd : digitsB b.data.toList = true)
    (z z1 : Bool) (hp : 0 < b.size) (hz : ((b[0].toNat : Int) == 48) = z) (hz1 : (b.toList == [48]) = z1) (hzz : z = true → z1 = true) (hok : okDigits b.data.toList = true) (hin : num b.data.toList ≤ 18446744073709551615) (w : World) (he : Env w) :
    Calls Tryz.prog 91 #[.string s] w fun e w' => e = .returned (.tuple #[.int .i64 (rdV s.data.toList), .int .i64 (rdE s.data.toList)]) ∧ Below w.heap.size w w' := by
  have HC := Lib.hid (fun w => cut_dash s b bl hb hbl w)
  have HV := Lib.hid (rdV_of hb hbl)
  have HE := Lib.hid (rdE_of hb hbl)
  have hne := ne_nil b hp
  have hne2 : b.toList.isEmpty = false := by simpa using hne
  have ht : Lib.trimS b.data.toList [48, 49, 50, 51, 52, 53, 54, 55, 56, 57] = [] := (trim_digits _).2 (by simp only [digitsB, Bool.and_eq_true] at hd; exact hd.1)
  have HT := Lib.hid (fun w => trim_to b ⟨#[]⟩ (by omega) (by rw [ht]) w)
  have HP := Lib.hid (fun w => parse_in b (by omega) hd hin w)
  have HK := Lib.hid hok
  clear hb hbl ht hd hok
  have hcase : z = false ∨ (z = true ∧ z1 = true) := by cases z <;> simp_all
  clear hzz
  cases bl
  all_goals
    rcases hcase with rfl | ⟨rfl, rfl⟩
  all_goals
    go_enter Tryz.func91, Tryz.ntmps91
    go_wp2_with fail
    refine (HC.out _).mono ?_; rintro e w1 ⟨rfl, rfl⟩
    go_wp2_with fail
    refine (HT.out _).mono ?_; rintro e w1 ⟨rfl, hb1⟩
    go_wp2_with fail
    refine (HP.out _).mono ?_; rintro e w2 ⟨rfl, hb2⟩
    obtain ⟨c0, c1, f0, f1, hlt, hbw⟩ := own2 (hb1.trans (hb2.mono hb1.size))
    go_wp2_with fail
    first
      | ((with_reducible refine (number_0 _ (Int.natCast_nonneg _) (by omega) _).mono ?_); rintro e w3 ⟨rfl, hb3⟩)
      | ((with_reducible refine (number_1 _ (Int.natCast_nonneg _) (by omega) _).mono ?_); rintro e w3 ⟨rfl, hb3⟩)
    have hz3 : (w2.setCell { block := w.heap.size, off := 1 } (Value.int IntKind.u64 (num b.data.toList : Int))).heap.size = w2.heap.size := World.size_setCell _ _ _
    rw [hz3] at hb3
    clear hz3
    go_wp2_with fail
    go_ret2
    exact ⟨ret2 (by rw [HV.out, HK.out]; rfl) (by rw [HE.out, HK.out]; rfl), (hbw.setCell (Nat.le_refl _) _).trans (hb3.mono (Nat.le_of_lt hlt))⟩
set_option maxRecDepth 100000 in
set_option maxHeartbeats 1000000 in
theorem read_over (s b : ByteArray) (bl : Bool) (hb : b.data.toList = body s.data.toList) (hbl : below s.data.toList = bl) (hs : s.size ≤ 281474976710656) (hbs : b.size ≤ s.size) (hd : digitsB b.data.toList = true)
    (z z1 : Bool) (hp : 0 < b.size) (hz : ((b[0].toNat : Int) == 48) = z) (hz1 : (b.toList == [48]) = z1) (hzz : z = true → z1 = true) (hok : okDigits b.data.toList = true) (hin : ¬ num b.data.toList ≤ 18446744073709551615) (w : World) (he : Env w) :
    Calls Tryz.prog 91 #[.string s] w fun e w' => e = .returned (.tuple #[.int .i64 (rdV s.data.toList), .int .i64 (rdE s.data.toList)]) ∧ Below w.heap.size w w' := by
  have HC := Lib.hid (fun w => cut_dash s b bl hb hbl w)
  have HV := Lib.hid (rdV_of hb hbl)
  have HE := Lib.hid (rdE_of hb hbl)
  have hne := ne_nil b hp
  have hne2 : b.toList.isEmpty = false := by simpa using hne
  have ht : Lib.trimS b.data.toList [48, 49, 50, 51, 52, 53, 54, 55, 56, 57] = [] := (trim_digits _).2 (by simp only [digitsB, Bool.and_eq_true] at hd; exact hd.1)
  have HT := Lib.hid (fun w => trim_to b ⟨#[]⟩ (by omega) (by rw [ht]) w)
  have HP := Lib.hid (fun w (he : Env w) => parse_out b (by omega) hd hin w he)
  have HK := Lib.hid hok
  have hov : ¬ R (if bl then -(num b.data.toList : Int) else num b.data.toList) := by unfold R; cases bl <;> simp <;> omega
  have HO := Lib.hid hov
  have HEnv := Lib.hid he
  clear hb hbl ht hd hok hov he hin
  have hcase : z = false ∨ (z = true ∧ z1 = true) := by cases z <;> simp_all
  clear hzz
  cases bl
  all_goals
    rcases hcase with rfl | ⟨rfl, rfl⟩
  all_goals
    go_enter Tryz.func91, Tryz.ntmps91
    go_wp2_with fail
    refine (HC.out _).mono ?_; rintro e w1 ⟨rfl, rfl⟩
    go_wp2_with fail
    refine (HT.out _).mono ?_; rintro e w1 ⟨rfl, hb1⟩
    go_wp2_with fail
    refine (HP.out _ (HEnv.out.below (((Below.refl _ _).alloc (Nat.le_refl _) _).trans (hb1.mono (by simp))) (Nat.le_refl _))).mono ?_; rintro e w2 ⟨a, rfl, hb2⟩
    have hbw := (own2 (hb1.trans (hb2.mono hb1.size))).2.2.2.2.2
    go_wp2_with fail
    go_ret2
    exact ⟨ret2 (by rw [HV.out, HK.out]; exact (val_out HO.out).symm) (by rw [HE.out, HK.out]; exact (err_out HO.out).symm), hbw⟩
set_option maxRecDepth 100000 in
set_option maxHeartbeats 1000000 in
theorem read_zero (s b : ByteArray) (bl : Bool) (hb : b.data.toList = body s.data.toList) (hbl : below s.data.toList = bl) (hs : s.size ≤ 281474976710656) (hbs : b.size ≤ s.size) (hd : digitsB b.data.toList = true)
    (hp : 0 < b.size) (hz : ((b[0].toNat : Int) == 48) = true) (hz1 : (b.toList == [48]) = false) (hok : okDigits b.data.toList = false) (w : World) (he : Env w) :
    Calls Tryz.prog 91 #[.string s] w fun e w' => e = .returned (.tuple #[.int .i64 (rdV s.data.toList), .int .i64 (rdE s.data.toList)]) ∧ Below w.heap.size w w' := by
  have HC := Lib.hid (fun w => cut_dash s b bl hb hbl w)
  have HV := Lib.hid (rdV_of hb hbl)
  have HE := Lib.hid (rdE_of hb hbl)
  have hne := ne_nil b hp
  have hne2 : b.toList.isEmpty = false := by simpa using hne
  have ht : Lib.trimS b.data.toList [48, 49, 50, 51, 52, 53, 54, 55, 56, 57] = [] := (trim_digits _).2 (by simp only [digitsB, Bool.and_eq_true] at hd; exact hd.1)
  have HT := Lib.hid (fun w => trim_to b ⟨#[]⟩ (by omega) (by rw [ht]) w)
  have HK := Lib.hid hok
  clear hb hbl ht hd hok he
  cases bl
  all_goals
    go_enter Tryz.func91, Tryz.ntmps91
    go_wp2_with fail
    refine (HC.out _).mono ?_; rintro e w1 ⟨rfl, rfl⟩
    go_wp2_with fail
    refine (HT.out _).mono ?_; rintro e w1 ⟨rfl, hb1⟩
    go_wp2_with fail
    have hbw := (own2 hb1).2.2.2.2.2
    go_ret2
    exact ⟨ret2 (by rw [HV.out, HK.out]; rfl) (by rw [HE.out, HK.out]; rfl), hbw⟩
set_option maxRecDepth 100000 in
set_option maxHeartbeats 1000000 in
theorem read_odd (s b : ByteArray) (bl : Bool) (hb : b.data.toList = body s.data.toList) (hbl : below s.data.toList = bl) (hs : s.size ≤ 281474976710656) (hbs : b.size ≤ s.size) (hd : b.data.toList.all isDig = false)
    (hp : 0 < b.size) (w : World) (he : Env w) :
    Calls Tryz.prog 91 #[.string s] w fun e w' => e = .returned (.tuple #[.int .i64 (rdV s.data.toList), .int .i64 (rdE s.data.toList)]) ∧ Below w.heap.size w w' := by
  have HC := Lib.hid (fun w => cut_dash s b bl hb hbl w)
  have HV := Lib.hid (rdV_of hb hbl)
  have HE := Lib.hid (rdE_of hb hbl)
  have hne := ne_nil b hp
  have hne2 : b.toList.isEmpty = false := by simpa using hne
  have HK := Lib.hid (not_ok_dig b.data.toList (by unfold digitsB; rw [hd]; rfl))
  have ht : ¬ Lib.trimS b.data.toList [48, 49, 50, 51, 52, 53, 54, 55, 56, 57] = [] := fun h => by rw [(trim_digits _).1 h] at hd; cases hd
  obtain ⟨t, htt⟩ : ∃ t : ByteArray, (Lib.trimS b.data.toList [48, 49, 50, 51, 52, 53, 54, 55, 56, 57]).toArray = t.data := ⟨⟨_⟩, rfl⟩
  have hnt : ¬ t.toList = [] := by
    rw [ByteArray.toList_eq, ← htt]; exact ht
  have hnt2 : t.toList.isEmpty = false := by simpa using hnt
  have HT := Lib.hid (fun w => trim_to b t (by omega) htt w)
  clear hb hbl ht hd he htt
  cases bl
  all_goals
    go_enter Tryz.func91, Tryz.ntmps91
    go_wp2_with fail
    refine (HC.out _).mono ?_; rintro e w1 ⟨rfl, rfl⟩
    go_wp2_with fail
    refine (HT.out _).mono ?_; rintro e w1 ⟨rfl, hb1⟩
    go_wp2_with fail
    have hbw := (own2 hb1).2.2.2.2.2
    go_ret2
    exact ⟨ret2 (by rw [HV.out, HK.out]; rfl) (by rw [HE.out, HK.out]; rfl), hbw⟩
set_option maxRecDepth 100000 in
set_option maxHeartbeats 1000000 in
theorem read_empty (s b : ByteArray) (bl : Bool) (hb : b.data.toList = body s.data.toList) (hbl : below s.data.toList = bl) (hs : s.size ≤ 281474976710656) (hbs : b.size ≤ s.size) (hp : b.size = 0) (w : World) (he : Env w) :
    Calls Tryz.prog 91 #[.string s] w fun e w' => e = .returned (.tuple #[.int .i64 (rdV s.data.toList), .int .i64 (rdE s.data.toList)]) ∧ Below w.heap.size w w' := by
  have HC := Lib.hid (fun w => cut_dash s b bl hb hbl w)
  have HV := Lib.hid (rdV_of hb hbl)
  have HE := Lib.hid (rdE_of hb hbl)
  have hbe : b = ⟨#[]⟩ := ByteArray.ext (Array.eq_empty_of_size_eq_zero hp)
  have HK := Lib.hid (not_ok_dig b.data.toList (by rw [hbe]; rfl))
  clear hb hbl he hp
  subst hbe
  cases bl
  all_goals
    go_enter Tryz.func91, Tryz.ntmps91
    go_wp2_with fail
    refine (HC.out _).mono ?_; rintro e w1 ⟨rfl, rfl⟩
    go_wp2_with fail
    go_ret2
    exact ⟨ret2 (by rw [HV.out, HK.out]; rfl) (by rw [HE.out, HK.out]; rfl), (Below.refl _ _).alloc (Nat.le_refl _) _⟩

theorem zero_only (b : ByteArray) (hp : 0 < b.size) (hz : (b[0].toNat : Int) = 48) : (b.toList == [48]) = decide (b.size ≤ 1) := by
  rw [ByteArray.toList_eq]
  obtain ⟨c, r, hl⟩ : ∃ c r, b.data.toList = c :: r := by
    cases hl : b.data.toList with
    | nil => have h2 : b.data.toList.length = 0 := by rw [hl]; rfl
             rw [Array.length_toList] at h2; change 0 < b.data.size at hp; omega
    | cons c r => exact ⟨c, r, rfl⟩
  have e : b[0] = c := by
    have : b.data.toList[0]? = some b[0] := by rw [List.getElem?_eq_getElem (by simpa using hp)]; rfl
    rw [hl] at this; simpa using this.symm
  have hc : c = 48 := UInt8.toNat_inj.1 (by rw [e] at hz; have : (48 : UInt8).toNat = 48 := rfl; omega)
  have hsz : b.size = r.length + 1 := by
    have : b.data.toList.length = r.length + 1 := by rw [hl]; rfl
    rw [Array.length_toList] at this; exact this
  rw [hl, hc, hsz]
  cases r with
  | nil => rfl
  | cons d q => simp
theorem read_any (s : ByteArray) (hs : s.size ≤ 281474976710656) (w : World) (he : Env w) :
    Calls Tryz.prog 91 #[.string s] w fun e w' => e = .returned (.tuple #[.int .i64 (rdV s.data.toList), .int .i64 (rdE s.data.toList)]) ∧ Below w.heap.size w w' := by
  obtain ⟨b, hb⟩ : ∃ b : ByteArray, b.data.toList = body s.data.toList := ⟨⟨(body s.data.toList).toArray⟩, rfl⟩
  have hbs : b.size ≤ s.size := by
    have h : b.data.toList.length ≤ s.data.toList.length := by rw [hb]; unfold body; split <;> simp
    simp only [Array.length_toList] at h; exact h
  rcases Nat.eq_zero_or_pos b.size with h0 | hp
  · exact read_empty s b _ hb rfl hs hbs h0 w he
  cases hd : b.data.toList.all isDig with
  | false => exact read_odd s b _ hb rfl hs hbs hd hp w he
  | true =>
    have hne : b.data.toList.isEmpty = false := by
      have := ne_nil b hp
      rw [ByteArray.toList_eq] at this; simpa using this
    have hdig : digitsB b.data.toList = true := by unfold digitsB; rw [hd, hne]; rfl
    by_cases hz : (b[0].toNat : Int) = 48
    · have h1 := zero_only b hp hz
      by_cases hs1 : b.size ≤ 1
      · have hok := ok_size b hdig hp (fun _ => hs1)
        by_cases hin : num b.data.toList ≤ 18446744073709551615
        · exact read_ok s b _ hb rfl hs hbs hdig true true hp (by simpa using hz) (by rw [h1]; simpa using hs1) (fun _ => rfl) hok hin w he
        · exact read_over s b _ hb rfl hs hbs hdig true true hp (by simpa using hz) (by rw [h1]; simpa using hs1) (fun _ => rfl) hok hin w he
      · exact read_zero s b _ hb rfl hs hbs hdig hp (by simpa using hz) (by rw [h1]; simpa using hs1) (not_ok_zero b hp hz (by omega)) w he
    · have hok := ok_size b hdig hp (fun h => absurd h hz)
      by_cases hin : num b.data.toList ≤ 18446744073709551615
      · exact read_ok s b _ hb rfl hs hbs hdig false _ hp (by simpa using hz) rfl (fun h => by cases h) hok hin w he
      · exact read_over s b _ hb rfl hs hbs hdig false _ hp (by simpa using hz) rfl (fun h => by cases h) hok hin w he
end Go.Proofs.YtpkkejcndmcbiaaGreatDoor
