/- Walks and plain laws of this proof, joined from smaller texts (4). -/
import Derived.Lib.MapLaws
import Derived.Deep.LoopGhost
import Derived.Test.YtgaknbnhmoddcaaGreatDoorShelf
import Derived.Shelf.Strings.Builder1
import Derived.Lib.OthersKept
import Derived.Maps.AppendAt
import Derived.Laws.OwnMore
import Derived.Laws.AppendOwnNone
import Derived.Laws.LoneSync
import Derived.Deep.DeepCutAuto
import Derived.RegionCalls
import Derived.Deep.RegionHeld3
import Derived.Lib.Bytealg
import Derived.Lib.Strings
import Derived.Lib.IndexBytes
import Derived.Laws.RangeString
import Derived.Shelf.Strings.SlTrimAscii
import Derived.Test.YtgaknbnhmoddcaaGreatDoorK3
set_option linter.unusedSimpArgs false
set_option linter.unusedVariables false
namespace Go.Proofs.YtgaknbnhmoddcaaGreatDoor
open Go.RowKit
theorem enc_cases (r : Int) (h : 128 ≤ r) :
    (∃ b0 b1 : UInt8, Utf8.encode r = ⟨#[b0, b1]⟩ ∧ 192 ≤ b0.toNat ∧ b0.toNat ≤ 223 ∧ 128 ≤ b1.toNat ∧ b1.toNat ≤ 191 ∧ r ≠ 65279) ∨
    (∃ b0 b1 b2 : UInt8, Utf8.encode r = ⟨#[b0, b1, b2]⟩ ∧ 128 ≤ b1.toNat ∧ b1.toNat ≤ 191 ∧ 128 ≤ b2.toNat ∧ b2.toNat ≤ 191 ∧ (r = 65279 ↔ b0.toNat = 239 ∧ b1.toNat = 187 ∧ b2.toNat = 191)) ∨
    (∃ b0 b1 b2 b3 : UInt8, Utf8.encode r = ⟨#[b0, b1, b2, b3]⟩ ∧ 128 ≤ b1.toNat ∧ b1.toNat ≤ 191 ∧ 128 ≤ b2.toNat ∧ b2.toNat ≤ 191 ∧ 128 ≤ b3.toNat ∧ b3.toNat ≤ 191 ∧ r ≠ 65279) := by
  have hc : ∃ c : Nat, 128 ≤ c ∧ c < 1114112 ∧ (r = 65279 ↔ c = 65279) ∧ Utf8.encode r = (let b (n : Nat) : UInt8 := UInt8.ofNat n
      if c < 0x80 then ⟨#[b c]⟩
      else if c < 0x800 then ⟨#[b (0xC0 + c / 64), b (0x80 + c % 64)]⟩
      else if c < 0x10000 then ⟨#[b (0xE0 + c / 4096), b (0x80 + c / 64 % 64), b (0x80 + c % 64)]⟩
      else ⟨#[b (0xF0 + c / 262144), b (0x80 + c / 4096 % 64), b (0x80 + c / 64 % 64), b (0x80 + c % 64)]⟩) := by
    refine ⟨if Utf8.valid r then r.toNat else Utf8.runeError, ?_, ?_, ?_, rfl⟩
    · split
      · omega
      · decide
    · split
      · rename_i hv
        simp only [Utf8.valid, Bool.or_eq_true, Bool.and_eq_true, decide_eq_true_eq] at hv
        omega
      · decide
    · split
      · omega
      · rename_i hv
        constructor
        · intro e; subst e; exact absurd (by decide) hv
        · intro e; exact absurd e (by decide)
  obtain ⟨c, h1, h2, h3, e⟩ := hc
  rw [e]
  simp only
  split
  · exfalso; omega
  split
  · rename_i h4
    refine Or.inl ⟨_, _, rfl, ?_, ?_, ?_, ?_, by omega⟩ <;> rw [UInt8.toNat_ofNat'] <;> omega
  · rename_i h4
    split
    · rename_i h5
      refine Or.inr (Or.inl ⟨_, _, _, rfl, ?_, ?_, ?_, ?_, ?_⟩)
      · rw [UInt8.toNat_ofNat']; omega
      · rw [UInt8.toNat_ofNat']; omega
      · rw [UInt8.toNat_ofNat']; omega
      · rw [UInt8.toNat_ofNat']; omega
      · rw [h3, UInt8.toNat_ofNat', UInt8.toNat_ofNat', UInt8.toNat_ofNat']; omega
    · rename_i h5
      refine Or.inr (Or.inr ⟨_, _, _, _, rfl, ?_, ?_, ?_, ?_, ?_, ?_, by omega⟩) <;> rw [UInt8.toNat_ofNat'] <;> omega
theorem tail_none (l : List UInt8) (hl : (List.range 256).all (fun n => !decide (128 ≤ n) || !decide (n ≤ 191) || n == 187 || n == 191 || Lib.indexByte l (UInt8.ofNat n) == -1) = true) (y : UInt8) (h1 : 128 ≤ y.toNat) (h2 : y.toNat ≤ 191) (h3 : y ≠ 187) (h4 : y ≠ 191) : Lib.indexByte l y = -1 := by
  have := List.all_eq_true.1 hl y.toNat (List.mem_range.2 (UInt8.toNat_lt y))
  have n3 : y.toNat ≠ 187 := fun e => h3 (by rw [← UInt8.ofNat_toNat (x := y), e]; rfl)
  have n4 : y.toNat ≠ 191 := fun e => h4 (by rw [← UInt8.ofNat_toNat (x := y), e]; rfl)
  simp only [UInt8.ofNat_toNat] at this
  simpa [h1, h2, n3, n4] using this
theorem u8_ne (a b : UInt8) (h : a ≠ b) : ¬ ((b.toNat : Int) = (a.toNat : Int)) := fun e => h (by
  have e2 : a.toNat = b.toNat := by omega
  rw [← UInt8.ofNat_toNat (x := a), ← UInt8.ofNat_toNat (x := b), e2])
set_option maxRecDepth 100000 in
theorem rune_err (w : World) : Calls Tryz.prog 104 #[.string ⟨#[32, 9, 13, 10, 44, 239, 187, 191]⟩, .int .i32 65533] w fun e w' => e = .returned (.int .i64 (-1)) ∧ Below w.heap.size w w' := by
  have n0 := fun (w : World) ty => run_next_ascii (P := Tryz.prog) w ⟨#[32, 9, 13, 10, 44, 239, 187, 191]⟩ 0 ty (by decide) (by decide)
  have n1 := fun (w : World) ty => run_next_ascii (P := Tryz.prog) w ⟨#[32, 9, 13, 10, 44, 239, 187, 191]⟩ 1 ty (by decide) (by decide)
  have n2 := fun (w : World) ty => run_next_ascii (P := Tryz.prog) w ⟨#[32, 9, 13, 10, 44, 239, 187, 191]⟩ 2 ty (by decide) (by decide)
  have n3 := fun (w : World) ty => run_next_ascii (P := Tryz.prog) w ⟨#[32, 9, 13, 10, 44, 239, 187, 191]⟩ 3 ty (by decide) (by decide)
  have n4 := fun (w : World) ty => run_next_ascii (P := Tryz.prog) w ⟨#[32, 9, 13, 10, 44, 239, 187, 191]⟩ 4 ty (by decide) (by decide)
  have hd : Utf8.decode ⟨#[32, 9, 13, 10, 44, 239, 187, 191]⟩ 5 = (65279, 3) := by decide +kernel
  have n5 := fun (w : World) ty => run_next_any (P := Tryz.prog) w ⟨#[32, 9, 13, 10, 44, 239, 187, 191]⟩ 5 ty (by decide)
  rw [hd] at n5
  have n8 := fun (w : World) ty => run_next_end (P := Tryz.prog) w ⟨#[32, 9, 13, 10, 44, 239, 187, 191]⟩ 8 ty (by decide)
  clear hd
  go_enter Tryz.func104, Tryz.ntmps104
  go_wp2_with fail
  refine wp_loop_rounds 7 ?_
  rw [rounds_succ]
  go_wp2_with fail
  rw [rounds_succ]
  go_wp2_with fail
  rw [rounds_succ]
  go_wp2_with fail
  rw [rounds_succ]
  go_wp2_with fail
  rw [rounds_succ]
  go_wp2_with fail
  rw [rounds_succ]
  go_wp2_with fail
  rw [rounds_succ]
  go_wp2_with fail
  go_ret
  refine ⟨rfl, ?_⟩
  unfold World.iter
  exact (Below.refl _ _).alloc (Nat.le_refl _) _
set_option maxRecDepth 100000 in
theorem rune_hid (r : Int) (h : 128 ≤ r) (h2 : r ≤ 2147483647) (w : World) :
    Calls Tryz.prog 104 #[.string ⟨#[32, 9, 13, 10, 44, 239, 187, 191]⟩, .int .i32 r] w fun e w' => e = .returned (.int .i64 (if r = 65279 then 5 else -1)) ∧ Below w.heap.size w w' := by
  by_cases he : r = 65533
  · subst he
    exact rune_err w
  have HV := Lib.hid (fun w => Tryz.utf8_ValidRune r w)
  obtain ⟨vb, hvb⟩ : ∃ b, Lib.validRune r = b := ⟨_, rfl⟩
  rw [hvb] at HV
  cases vb with
  | false =>
    have hne : ¬ r = 65279 := by
      intro e; subst e; exact absurd hvb (by decide)
    rw [if_neg hne]
    have h0 : 0 ≤ r := by omega
    have h1 : ¬ r < 128 := by omega
    clear hvb hne
    go_enter Tryz.func104, Tryz.ntmps104
    go_wp2_with fail
    refine (HV.out _).mono ?_; rintro e w1 ⟨rfl, rfl⟩
    go_wp2_with fail
    go_ret
    exact ⟨rfl, Below.refl _ _⟩
  | true =>
    have HV2 : Hid (∀ w, Calls Tryz.prog 121 #[.int .i32 r] w fun e w' => e = .returned (.bool true) ∧ w = w') := Lib.hid fun w => (HV.out w).mono fun e w' ⟨h1, h2⟩ => ⟨h1, h2.symm⟩
    rcases enc_cases r h with ⟨b0, b1, e, l00, l0, l1, u1, hn⟩ | ⟨b0, b1, b2, e, l1, u1, l2, u2, hn⟩ | ⟨b0, b1, b2, b3, e, l1, u1, l2, u2, l3, u3, hn⟩
    · rw [if_neg hn]
      by_cases y1 : b1 = 187
      · exact rune_2_187_n r h h2 b0 b1 he (Lib.hid e) HV2 (by omega) (by omega) y1 (by omega) w
      by_cases y2 : b1 = 191
      · exact rune_2_191_n r h h2 b0 b1 he (Lib.hid e) HV2 (by omega) (by omega) y2 (by omega) w
      exact rune_2_other r h h2 b0 b1 he (Lib.hid e) HV2 (by omega) (by omega) (Lib.hid (tail_none _ (by decide +kernel) _ l1 u1 y1 y2)) w
    · by_cases y1 : b2 = 187
      · rw [if_neg (fun e => by have := (hn.1 e).2.2; rw [y1] at this; exact absurd this (by decide))]
        exact rune_3_187_n r h h2 b0 b1 b2 he (Lib.hid e) HV2 (by omega) (by omega) y1 (by omega) w
      by_cases y2 : b2 = 191
      · by_cases y3 : b1 = 187
        · by_cases y4 : b0 = 239
          · rw [if_pos (hn.2 ⟨by rw [y4]; rfl, by rw [y3]; rfl, by rw [y2]; rfl⟩)]
            exact rune_3_191_yy r h h2 b0 b1 b2 he (Lib.hid e) HV2 (by omega) (by omega) y2 y3 y4 w
          · rw [if_neg (fun e => y4 (by have := (hn.1 e).1; rw [← UInt8.ofNat_toNat (x := b0), this]; rfl))]
            exact rune_3_191_yn r h h2 b0 b1 b2 he (Lib.hid e) HV2 (by omega) (by omega) y2 y3 (u8_ne _ 239 y4) w
        · rw [if_neg (fun e => y3 (by have := (hn.1 e).2.1; rw [← UInt8.ofNat_toNat (x := b1), this]; rfl))]
          exact rune_3_191_n r h h2 b0 b1 b2 he (Lib.hid e) HV2 (by omega) (by omega) y2 (u8_ne _ 187 y3) w
      rw [if_neg (fun e => y2 (by have := (hn.1 e).2.2; rw [← UInt8.ofNat_toNat (x := b2), this]; rfl))]
      exact rune_3_other r h h2 b0 b1 b2 he (Lib.hid e) HV2 (by omega) (by omega) (Lib.hid (tail_none _ (by decide +kernel) _ l2 u2 y1 y2)) w
    · rw [if_neg hn]
      by_cases y1 : b3 = 187
      · exact rune_4_187_n r h h2 b0 b1 b2 b3 he (Lib.hid e) HV2 (by omega) (by omega) y1 (by omega) w
      by_cases y2 : b3 = 191
      · by_cases y3 : b2 = 187
        · exact rune_4_191_yn r h h2 b0 b1 b2 b3 he (Lib.hid e) HV2 (by omega) (by omega) y2 y3 (by omega) w
        · exact rune_4_191_n r h h2 b0 b1 b2 b3 he (Lib.hid e) HV2 (by omega) (by omega) y2 (u8_ne _ 187 y3) w
      exact rune_4_other r h h2 b0 b1 b2 b3 he (Lib.hid e) HV2 (by omega) (by omega) (Lib.hid (tail_none _ (by decide +kernel) _ l3 u3 y1 y2)) w
theorem set_ascii (c : UInt8) (h : c.toNat < 128) : decide (0 ≤ Lib.indexByte [32, 9, 13, 10, 44, 239, 187, 191] c) = setC c.toNat := by
  have hall := (by decide +kernel : ∀ i : Fin 256, i.val < 128 → decide (0 ≤ Lib.indexByte [32, 9, 13, 10, 44, 239, 187, 191] (UInt8.ofNat i.val)) = setC (UInt8.ofNat i.val).toNat) ⟨c.toNat, UInt8.toNat_lt c⟩ h
  simpa only [UInt8.ofNat_toNat] using hall
set_option maxRecDepth 100000 in
theorem holds_hid (r : Nat) (h : r ≤ 1114111) (w : World) :
    Calls Tryz.prog 120 #[.string ⟨#[32, 9, 13, 10, 44, 239, 187, 191]⟩, .int .i32 (r : Int)] w fun e w' => e = .returned (.bool (setC r)) ∧ Below w.heap.size w w' := by
  have HX : ∃ ix : Int, decide (0 ≤ ix) = setC r ∧ Hid (∀ w, Calls Tryz.prog 104 #[.string ⟨#[32, 9, 13, 10, 44, 239, 187, 191]⟩, .int .i32 (r : Int)] w fun e w' => e = .returned (.int .i64 ix) ∧ Below w.heap.size w w') := by
    by_cases h1 : r < 128
    · have hc : (UInt8.ofNat r).toNat = r := by rw [UInt8.toNat_ofNat']; omega
      refine ⟨Lib.indexByte [32, 9, 13, 10, 44, 239, 187, 191] (UInt8.ofNat r), ?_, Lib.hid fun w => ?_⟩
      · have := set_ascii (UInt8.ofNat r) (by omega)
        rw [hc] at this
        exact this
      · have := Tryz.strings_IndexRune_ascii ⟨#[32, 9, 13, 10, 44, 239, 187, 191]⟩ (r : Int) w (by omega) (by omega)
        exact this.mono fun e w' ⟨h1, h2⟩ => ⟨h1, h2 ▸ Below.refl _ _⟩
    · refine ⟨if (r : Int) = 65279 then 5 else -1, ?_, Lib.hid fun w => rune_hid (r : Int) (by omega) (by omega) w⟩
      by_cases h2 : r = 65279
      · subst h2; rfl
      · rw [if_neg (by omega)]
        unfold setC
        have t1 : (r == 32) = false := beq_eq_false_iff_ne.2 (by omega)
        have t2 : (r == 9) = false := beq_eq_false_iff_ne.2 (by omega)
        have t3 : (r == 13) = false := beq_eq_false_iff_ne.2 (by omega)
        have t4 : (r == 10) = false := beq_eq_false_iff_ne.2 (by omega)
        have t5 : (r == 44) = false := beq_eq_false_iff_ne.2 (by omega)
        have t6 : (r == 65279) = false := beq_eq_false_iff_ne.2 h2
        rw [t1, t2, t3, t4, t5, t6]; rfl
  obtain ⟨ix, h1, HX⟩ := HX
  obtain ⟨b, hb⟩ : ∃ b, setC r = b := ⟨_, rfl⟩
  rw [hb] at h1 ⊢
  cases b with
  | true =>
    have hge : 0 ≤ ix := by simpa using h1
    clear h1 hb
    go_enter Tryz.func120, Tryz.ntmps120
    go_wp2_with fail
    refine (HX.out _).mono ?_; rintro e w1 ⟨rfl, hb⟩
    go_wp2_with fail
    go_ret
    exact ⟨rfl, hb⟩
  | false =>
    have hge : decide (0 ≤ ix) = false := h1
    clear h1 hb
    go_enter Tryz.func120, Tryz.ntmps120
    go_wp2_with fail
    refine (HX.out _).mono ?_; rintro e w1 ⟨rfl, hb⟩
    go_wp2_with fail
    go_ret
    exact ⟨rfl, hb⟩
theorem dec_whole (t : ByteArray) (h : 0 < t.size) : Lib.decodeGo t = Lib.decodeL t.data.toList := by
  have := dec_at t 0 h
  rw [List.drop_zero] at this
  rw [← this]
  have e := extract_drop t 0
  rw [List.drop_zero] at e
  rw [bytes_ext' e]
theorem ret_s {a b : ByteArray} (h : a = b) : Ending.returned (.string a) = .returned (.string b) := by rw [h]
set_option maxRecDepth 100000 in
theorem trimU_any (s : ByteArray) (hs : s.size ≤ 1000000) (w : World) (hE : EnvU w) :
    Calls Tryz.prog 102 #[.string s, .string ⟨#[32, 9, 13, 10, 44, 239, 187, 191]⟩] w fun e w' => e = .returned (.string ⟨(hid0 s.data.toList).toArray⟩) ∧ Below w.heap.size w w' := by
  obtain ⟨r, hr⟩ : ∃ r, hid0 s.data.toList = r := ⟨_, rfl⟩
  rw [hr]
  have HR := Lib.hid hr
  have HE := Lib.hid (fun (W : World) (h : Below w.heap.size w W) => hE.below h)
  clear hr hE
  go_enter Tryz.func102, Tryz.ntmps102
  go_wp2_with fail
  go_loopg [0] s.size (fun g v wx => ∃ t : ByteArray, v = .string t ∧ t.size = g ∧ t.size ≤ 1000000 ∧ Hid (hid0 t.data.toList = r) ∧ Hid (Below w.heap.size w wx))
  case atStart => exact ⟨s, rfl, rfl, hs, HR, Lib.hid (Below.refl _ _)⟩
  case round =>
    rename World => wo
    obtain ⟨t, rfl, htg, ht6, HT, HB⟩ := hrel
    by_cases h0 : 0 < t.size
    · obtain ⟨c, l, hcl⟩ : ∃ c l, t.data.toList = c :: l := by
        cases hx : t.data.toList with
        | nil => have := len_z t; rw [hx] at this; simp at this; omega
        | cons c l => exact ⟨c, l, rfl⟩
      have hwd := Lib.decodeL_width (c :: l)
      have hwl := Lib.decodeL_le (c :: l) (by simp)
      have hrn := Lib.decodeL_rune (c :: l)
      have hhid := hid_rune c l
      rw [← hcl] at hwd hrn hhid hwl
      have hlen := len_z t
      have HD := Lib.hid (Tryz.utf8_DecodeRuneInString t wo (HE.out wo HB.out))
      rw [dec_whole t h0] at HD
      generalize (Lib.decodeL t.data.toList).1 = q at *
      generalize (Lib.decodeL t.data.toList).2 = n at *
      have hn1 : 1 ≤ n := hwd
      have hn2 : n ≤ t.size := by omega
      have HC := Lib.hid (fun W => holds_hid q (by omega) W)
      have hext : (t.extract n t.size).size = t.size - n := by
        have h5 := len_z (t.extract n t.size)
        rw [extract_drop, List.length_drop] at h5
        omega
      obtain ⟨b, hb⟩ : ∃ b, setC q = b := ⟨_, rfl⟩
      rw [hb] at HC hhid
      have HT2 := Lib.hid hhid
      clear hhid hcl hwd hlen hrn hb hwl
      cases b with
      | false =>
        have hF : Hid (t = ⟨r.toArray⟩) := Lib.hid (by
          apply bytes_ext'
          rw [← HT.out, HT2.out]; rfl)
        clear hext
        go_wp2_with fail
        refine HD.out.mono ?_; rintro e w1 ⟨rfl, hb1⟩
        have HB1 := Lib.hid (HB.out.trans (hb1.mono HB.out.size))
        clear hb1
        go_wp2_with fail
        refine (HC.out _).mono ?_; rintro e w2 ⟨rfl, hb2⟩
        have HB2 := Lib.hid (HB1.out.trans (hb2.mono HB1.out.size))
        clear hb2
        go_wp2_with fail
        go_ret
        exact ⟨ret_s hF.out, HB2.out⟩
      | true =>
        have hle : (n : Int) ≤ (t.size : Int) := by omega
        have hF : Hid (hid0 (t.extract n t.size).data.toList = r) := Lib.hid (by
          rw [extract_drop, ← HT.out, HT2.out]; rfl)
        obtain ⟨t2, ht2⟩ : ∃ t2, t.extract n t.size = t2 := ⟨_, rfl⟩
        rw [ht2] at hF hext
        obtain ⟨g, rfl⟩ : ∃ g, gk = g + n := ⟨gk - n, by omega⟩
        have hz2 : t2.size = g := by omega
        have HZ2 := Lib.hid hz2
        have HTG := Lib.hid htg
        clear hext hz2 htg
        go_wp2_with fail
        refine HD.out.mono ?_; rintro e w1 ⟨rfl, hb1⟩
        have HB1 := Lib.hid (HB.out.trans (hb1.mono HB.out.size))
        clear hb1
        go_wp2_with fail
        refine (HC.out _).mono ?_; rintro e w2 ⟨rfl, hb2⟩
        have HB2 := Lib.hid (HB1.out.trans (hb2.mono HB1.out.size))
        clear hb2
        go_wp2_with fail
        go_roundg g
        case measure => omega
        case rel => exact ⟨t2, rfl, HZ2.out, by have := HZ2.out; have := HTG.out; omega, hF, HB2⟩
    · have hF : Hid (t = ⟨r.toArray⟩) := Lib.hid (by
        apply bytes_ext'
        have h5 := len_z t
        have h6 : t.data.toList = [] := List.length_eq_zero_iff.1 (by omega)
        rw [← HT.out, h6]; rfl)
      go_wp2_with fail
      go_ret
      exact ⟨ret_s hF.out, HB.out⟩
set_option maxRecDepth 100000 in
set_option maxHeartbeats 1000000 in
/-- TrimLeft at what lex passes over. -/
theorem trimH_any (s : ByteArray) (hs : s.size ≤ 1000000) (w : World) (hE : EnvU w) :
    Calls Tryz.prog 76 #[.string s, .string ⟨#[32, 9, 13, 10, 44, 239, 187, 191]⟩] w fun e w' => e = .returned (.string ⟨(hid0 s.data.toList).toArray⟩) ∧ Below w.heap.size w w' := by
  rcases empty_z s with ⟨h0, h1, h2, h3⟩ | ⟨h0, h1, h2, h3⟩
  · have HU := Lib.hid (fun W (h : Below w.heap.size w W) => trimU_any s hs W (hE.below h))
    have HN := Lib.hid (fun W => set_none W)
    have hi2 : (Tryz.prog.info? 166).map (·.size) = some (Lib.setCells hidB).size := by rw [Lib.setCells_size]; exact set_size
    have hsc : (storeCells ⟨w.heap.size + 1, 0, none⟩ (Lib.setCells hidB).toList 0).run Tryz.prog ((w.alloc (.cells (Lib.setCells hidB) 166)).alloc (.cells (Array.replicate 256 (.bool false)) 166)) = .ok () ((w.alloc (.cells (Lib.setCells hidB) 166)).alloc (.cells (Lib.setCells hidB) 166)) := by
      have := run_storeCells_new (P := Tryz.prog) (w.alloc (.cells (Lib.setCells hidB) 166)) 166 (Array.replicate 256 (.bool false)) (Lib.setCells hidB) hi2 (by rw [Lib.setCells_size, Array.size_replicate]) (Lib.setCells_one _)
      simpa using this
    have hv116 := set_zero
    clear h3 hE
    go_enter Tryz.func76, Tryz.ntmps76
    go_wp2_with fail
    refine (HN.out _).mono ?_; rintro e w1 ⟨rfl, rfl⟩
    go_wp2_with fail
    (try (rw [Oper.upon_skip]; go_wp2_with fail))
    clear hsc
    refine (HU.out _ (((Below.refl _ _).alloc (Nat.le_refl _) _).alloc (by simp) _)).mono ?_; rintro e w2 ⟨rfl, hb⟩
    go_wp2_with fail
    go_ret
    exact ⟨rfl, (((Below.refl _ _).alloc (Nat.le_refl _) _).alloc (by simp) _).trans (hb.mono (by simp; omega))⟩
  · have hF : (⟨(hid0 s.data.toList).toArray⟩ : ByteArray) = s := by
      have h6 : s.data.toList = [] := List.length_eq_zero_iff.1 (by rw [len_z]; exact h0)
      rw [bytes_ext' h6]; rfl
    rw [hF]
    clear hF h3
    go_enter Tryz.func76, Tryz.ntmps76
    go_wp2_with fail
    go_ret
    exact ⟨rfl, Below.refl _ _⟩
end Go.Proofs.YtgaknbnhmoddcaaGreatDoor
namespace Go.Proofs.YtgaknbnhmoddcaaGreatDoor
open Go.Lib
theorem tell_end (e : Tok) (he : kt e = (0, [])) : tellT e = [] := by
  unfold kt at he
  injection he with h1 h2
  unfold tellT
  rw [if_neg (by rw [h1]; decide), h2]
end Go.Proofs.YtgaknbnhmoddcaaGreatDoor
namespace Go.Proofs.YtgaknbnhmoddcaaGreatDoor
open Go.Lib
/-- What is left, and no line end ahead of it. -/
def Nl (l t : List UInt8) : Prop := ∃ u, l = u ++ t ∧ ∀ c ∈ u, c ≠ 10
theorem Nl.refl (l : List UInt8) : Nl l l := ⟨[], rfl, fun c h => by cases h⟩
theorem Nl.trans {l t v : List UInt8} (h : Nl l t) (h' : Nl t v) : Nl l v := by
  obtain ⟨u, rfl, hu⟩ := h
  obtain ⟨w, rfl, hw⟩ := h'
  refine ⟨u ++ w, by rw [List.append_assoc], fun c hc => ?_⟩
  rcases List.mem_append.1 hc with hc | hc
  · exact hu c hc
  · exact hw c hc
end Go.Proofs.YtgaknbnhmoddcaaGreatDoor
namespace Go.Proofs.YtgaknbnhmoddcaaGreatDoor
open Go.Lib
theorem skip_more : ∀ (n f : Nat) (l : List UInt8), l.length ≤ n → l.length < f → skipG f l = skip0 l
  | n, 0, l, h, hf => by omega
  | n, f + 1, l, h, hf => by
    have h0 : (hid0 l).length ≤ l.length := hid_len _ l
    unfold skip0
    simp only [skipG]
    cases hx : hid0 l with
    | nil => rfl
    | cons c r =>
      rw [hx] at h0
      simp only
      split
      · rename_i hc
        split
        · rfl
        · subst hc
          have hd : ((35 :: r).dropWhile lineC).length ≤ r.length := by
            rw [List.dropWhile_cons, if_pos (by decide)]; exact dwhile_len lineC r
          simp only [List.length_cons] at h0
          match n, h with
          | 0, h => omega
          | n + 1, h => rw [skip_more n f _ (by omega) (by omega), skip_more n l.length _ (by omega) (by omega)]
      · rfl
theorem skip_eq (l : List UInt8) : skip0 l = match hid0 l with
    | [] => ([], true)
    | c :: r => if c = 35 then
        (let ln := (c :: r).takeWhile lineC
         if ln.any badC then ((c :: r).drop (ln.takeWhile fun x => !badC x).length, false) else skip0 ((c :: r).dropWhile lineC))
      else (c :: r, true) := by
  have h0 : (hid0 l).length ≤ l.length := hid_len _ l
  conv => lhs; unfold skip0; rw [skipG]
  cases hx : hid0 l with
  | nil => rfl
  | cons c r =>
    rw [hx] at h0
    simp only
    split
    · rename_i hc
      subst hc
      split
      · rfl
      · have hd : ((35 :: r).dropWhile lineC).length ≤ r.length := by
          rw [List.dropWhile_cons, if_pos (by decide)]; exact dwhile_len lineC r
        simp only [List.length_cons] at h0
        exact skip_more _ _ _ (Nat.le_refl _) (by omega)
    · rfl
end Go.Proofs.YtgaknbnhmoddcaaGreatDoor
namespace Go.Proofs.YtgaknbnhmoddcaaGreatDoor
open Go.RowKit
theorem hid_drop : ∀ (n : Nat) (d : List UInt8), d.length ≤ n → hid0 d = d.drop (d.length - (hid0 d).length)
  | 0, d, h => by
    have : d = [] := List.length_eq_zero_iff.1 (by omega)
    subst this; rfl
  | n + 1, [], h => rfl
  | n + 1, c :: r, h => by
    simp only [List.length_cons] at h
    rw [hid_cons]
    split
    · have ih := hid_drop n r (by omega)
      have hl := hid_len r.length r
      have hl : (hid0 r).length ≤ r.length := hl
      rw [show (c :: r).length - (hid0 r).length = (r.length - (hid0 r).length) + 1 from by rw [List.length_cons]; omega, List.drop_succ_cons]
      exact ih
    · split
      · have hd : ((c :: r).drop 3).length ≤ n := by rw [List.length_drop, List.length_cons]; omega
        have ih := hid_drop n ((c :: r).drop 3) hd
        have hl : (hid0 ((c :: r).drop 3)).length ≤ ((c :: r).drop 3).length := hid_len _ _
        rename_i hp
        have h3 := (List.isPrefixOf_iff_prefix.1 hp).length_le
        have h3 : 3 ≤ (c :: r).length := h3
        conv => lhs; rw [ih]
        rw [List.drop_drop]
        congr 1
        rw [List.length_drop] at hl ⊢
        omega
      · rw [Nat.sub_self, List.drop_zero]
theorem while_mem (p : UInt8 → Bool) (b : UInt8) : ∀ l : List UInt8, b ∈ l.takeWhile p → p b = true
  | [], h => by cases h
  | c :: l, h => by
    rw [List.takeWhile_cons] at h
    split at h
    · rcases List.mem_cons.1 h with h | h
      · subst h; assumption
      · exact while_mem p b l h
    · cases h
theorem line_any (R : List UInt8) : (Lib.indexAny R [13, 10] = -1 ∧ R.takeWhile lineC = R) ∨ (∃ k : Nat, Lib.indexAny R [13, 10] = (k : Int) ∧ k < R.length ∧ (R.takeWhile lineC).length = k) := by
  have key : ∀ (L : List UInt8) (c : UInt8), lineC c = !([13, 10] : List UInt8).contains c := by
    intro _ c
    exact of_decide_eq_true (all256' (f := fun c => decide (lineC c = !([13, 10] : List UInt8).contains c)) (by decide +kernel) c)
  have hno : ∀ k : Nat, k ≤ (R.takeWhile lineC).length → Lib.NoAny R [13, 10] k := by
    intro k hk j b hj hb
    have hjl : j < (R.takeWhile lineC).length := by omega
    have h1 : (R.takeWhile lineC)[j]? = some b := by
      have e : R[j]? = ((R.takeWhile lineC) ++ R.dropWhile lineC)[j]? := by rw [List.takeWhile_append_dropWhile]
      rw [hb, List.getElem?_append_left hjl] at e
      exact e.symm
    have hm : b ∈ R.takeWhile lineC := List.mem_of_getElem? h1
    have := while_mem _ _ _ hm
    rw [key R b] at this
    simpa using this
  by_cases h : (R.takeWhile lineC).length < R.length
  · refine Or.inr ⟨_, ?_, h, rfl⟩
    obtain ⟨b, hb⟩ : ∃ b, R[(R.takeWhile lineC).length]? = some b := ⟨_, List.getElem?_eq_getElem h⟩
    refine Lib.indexAny_hit (hno _ (Nat.le_refl _)) hb ?_
    obtain ⟨h1, h2⟩ := while_drop lineC R
    have h3 : (R.dropWhile lineC).head? = some b := by rw [h1, List.head?_drop]; exact hb
    have := h2 b h3
    rw [key R b] at this
    cases hq : ([13, 10] : List UInt8).contains b with
    | true => rfl
    | false => rw [hq] at this; cases this
  · have hle := while_le lineC R
    have he : (R.takeWhile lineC).length = R.length := by omega
    have hT : R.takeWhile lineC = R := by
      have := List.takeWhile_append_dropWhile (p := lineC) (l := R)
      have hl := congrArg List.length this
      rw [List.length_append] at hl
      have h0 : R.dropWhile lineC = [] := List.length_eq_zero_iff.1 (by omega)
      rw [h0, List.append_nil] at this
      exact this
    refine Or.inl ⟨?_, hT⟩
    have := hno R.length (by omega)
    exact Lib.indexAny_none this
theorem ret_nb {a c : Int} {b d : Bool} (h : a = c) (h2 : b = d) : Ending.returned (.tuple #[.int .i64 a, .bool b]) = .returned (.tuple #[.int .i64 c, .bool d]) := by rw [h, h2]
/-- Nothing bad so far. -/
def Good (R : List UInt8) (k : Nat) : Prop := (R.take k).any badC = false
theorem Good.step {R : List UInt8} {k : Nat} (h : Good R k) (hk : k < R.length) (hb : badC R[k] = false) : Good R (k + 1) := by
  unfold Good at *
  rw [List.take_succ_eq_append_getElem hk, List.any_append, h]
  simp [hb]
theorem Good.stop {R : List UInt8} {k E : Nat} (h : Good R k) (hk : k < R.length) (hkE : k < E) (hb : badC R[k] = true) : (R.take E).any badC = true ∧ ((R.take E).takeWhile fun x => !badC x).length = k := by
  have e : R.take E = R.take k ++ R[k] :: ((R.take E).drop (k + 1)) := by
    have hl : k < (R.take E).length := by rw [List.length_take]; omega
    have := List.take_append_drop k (R.take E)
    rw [List.take_take, Nat.min_eq_left (by omega), List.drop_eq_getElem_cons hl, List.getElem_take] at this
    exact this.symm
  rw [e]
  unfold Good at h
  constructor
  · rw [List.any_append, List.any_cons, hb]; simp
  · rw [List.takeWhile_append_of_pos (by
      intro a ha
      have := List.any_eq_false.1 h a ha
      simpa using this), List.takeWhile_cons]
    simp [hb]
    rw [Nat.min_eq_left (by omega)]
set_option maxRecDepth 100000 in
set_option maxHeartbeats 2000000 in
theorem skip_any (s : ByteArray) (hs : s.size ≤ 1000000) (w : World) (hE : EnvU w) :
    Calls Tryz.prog 50 #[.string s] w fun e w' => e = .returned (.tuple #[.int .i64 ((s.size - (skip0 s.data.toList).1.length : Nat) : Int), .bool (skip0 s.data.toList).2]) ∧ Below w.heap.size w w' := by
  obtain ⟨l, hl⟩ : ∃ l, s.data.toList = l := ⟨_, rfl⟩
  obtain ⟨kk, hkk⟩ : ∃ kk : Int, ((s.size - (skip0 l).1.length : Nat) : Int) = kk := ⟨_, rfl⟩
  obtain ⟨bb, hbb⟩ : ∃ bb, (skip0 l).2 = bb := ⟨_, rfl⟩
  rw [hl, hkk, hbb]
  have HKK := Lib.hid hkk
  have HBB := Lib.hid hbb
  have hll := len_z s
  rw [hl] at hll
  have HLL := Lib.hid hll
  have HL := Lib.hid hl
  have HT := Lib.hid (fun (t : ByteArray) (ht : t.size ≤ 1000000) (W : World) (h : Below w.heap.size w W) => trimH_any t ht W (hE.below h))
  clear hl hkk hbb hE hll
  go_enter Tryz.func50, Tryz.ntmps50
  go_wp2_with fail
  go_loopg [2] s.size (fun g v wx => ∃ n : Nat, v = .int .i64 n ∧ n + g = s.size ∧ Hid (skip0 (l.drop n) = skip0 l) ∧ Hid (Below w.heap.size w wx))
  case atStart => exact ⟨0, rfl, by omega, Lib.hid (by rw [List.drop_zero]), Lib.hid (Below.refl _ _)⟩
  case round =>
    rename World => wo
    generalize gk = g0 at *
    obtain ⟨n, rfl, hng, HS, HB⟩ := hrel
    by_cases h0 : n < s.size
    · obtain ⟨u, hu⟩ : ∃ u, s.extract n s.size = u := ⟨_, rfl⟩
      have hul : u.data.toList = l.drop n := by rw [← hu, extract_drop, HL.out]
      have huz : u.size = s.size - n := by
        have := len_z u
        rw [hul, List.length_drop, HLL.out] at this; omega
      obtain ⟨R, hR⟩ : ∃ R, hid0 (l.drop n) = R := ⟨_, rfl⟩
      have hRl : R.length ≤ s.size - n := by
        have := hid_len (l.drop n).length (l.drop n)
        have : (hid0 (l.drop n)).length ≤ (l.drop n).length := this
        rw [hR, List.length_drop, HLL.out] at this; exact this
      obtain ⟨t, ht⟩ : ∃ t : ByteArray, (⟨R.toArray⟩ : ByteArray) = t := ⟨_, rfl⟩
      have htl : t.data.toList = R := by rw [← ht]
      have htz : t.size = R.length := by rw [← len_z, htl]
      have ht6 : t.size ≤ 1000000 := by omega
      have HTR := Lib.hid (HT.out u (by omega) wo HB.out)
      rw [hul, hR, ht] at HTR
      obtain ⟨m, hm⟩ : ∃ m : Nat, s.size - t.size = m := ⟨_, rfl⟩
      have hmz : (s.size : Int) - (t.size : Int) = (m : Int) := by omega
      have hmt : m + t.size = s.size := by omega
      have hmn : n ≤ m := by omega
      have hRd : R = l.drop m := by
        have := hid_drop (l.drop n).length (l.drop n) (Nat.le_refl _)
        rw [hR, List.drop_drop, List.length_drop, HLL.out] at this
        rw [this]
        congr 1
        have : R.length ≤ s.size - n := hRl
        omega
      have hse := skip_eq (l.drop n)
      rw [HS.out, hR] at hse
      obtain ⟨p, hp⟩ : ∃ p, Lib.hasPrefix R [35] = p := ⟨_, rfl⟩
      have HP : Hid (∀ w, Calls Tryz.prog 77 #[.string t, .string ⟨#[35]⟩] w fun e w' => e = .returned (.bool p) ∧ w = w') := Lib.hid (fun w => (Tryz.strings_HasPrefix t ⟨#[35]⟩ w).mono fun e w' ⟨h1, h2⟩ => ⟨h1.trans (by rw [← hp, htl]), h2.symm⟩)
      have hpc : (p = false ∧ skip0 l = (R, true)) ∨ (p = true ∧ ∃ r, R = 35 :: r) := by
        rw [← hp]
        cases hx : R with
        | nil => rw [hx] at hse; exact Or.inl ⟨rfl, hse⟩
        | cons c r =>
          rw [hx] at hse
          by_cases hc : c = 35
          · subst hc; exact Or.inr ⟨by unfold Lib.hasPrefix; rfl, r, rfl⟩
          · simp only [hc, if_false] at hse
            refine Or.inl ⟨?_, hse⟩
            unfold Lib.hasPrefix
            have : ((35 : UInt8) == c) = false := beq_eq_false_iff_ne.2 (fun e => hc e.symm)
            simp [List.isPrefixOf, this]
      rcases hpc with ⟨rfl, hsk⟩ | ⟨rfl, r, hr⟩
      · have F1 : Hid ((m : Int) = kk) := Lib.hid (by rw [← HKK.out, hsk]; congr 1; show m = s.size - R.length; omega)
        have F2 : Hid (true = bb) := Lib.hid (by rw [← HBB.out, hsk])
        have HU := Lib.hid hu
        have HTZ := Lib.hid htz
        have HMT := Lib.hid hmt
        clear hmt
        clear hse hp hsk hR hul ht htl hRd hm htz
        go_wp2_with fail
        refine HTR.out.mono ?_; rintro e w1 ⟨rfl, hb⟩
        have HB1 := Lib.hid (HB.out.trans (hb.mono HB.out.size))
        clear hb
        go_wp2_with fail
        refine (HP.out _).mono ?_; rintro e w2 ⟨rfl, rfl⟩
        go_wp2_with fail
        go_ret2
        exact ⟨ret_nb F1.out F2.out, HB1.out⟩
      · obtain ⟨E, hEE⟩ : ∃ E, (R.takeWhile lineC).length = E := ⟨_, rfl⟩
        have hwd := while_drop lineC R
        have htk : R.takeWhile lineC = R.take E := by
          have := List.takeWhile_append_dropWhile (p := lineC) (l := R)
          conv => rhs; rw [← this]
          rw [← hEE, List.take_left]
        have hEl : E ≤ R.length := by rw [← hEE]; exact while_le _ _
        have hE1 : 1 ≤ E := by
          rw [← hEE, hr, List.takeWhile_cons, if_pos (by decide)]; simp
        rw [hr] at hse
        simp only [if_true] at hse
        rw [← hr, htk, hwd.1, hEE] at hse
        have hany := line_any R
        rw [hEE] at hany
        obtain ⟨ix, hix⟩ : ∃ ix, Lib.indexAny R [13, 10] = ix := ⟨_, rfl⟩
        have HI := Lib.hid (fun W => any_any t ht6 W)
        rw [htl, hix] at HI
        rw [hix] at hany
        have hixc : (ix = -1 ∧ E = t.size) ∨ (ix = (E : Int)) := by
          rcases hany with ⟨h1, h2⟩ | ⟨k, h1, h2, h3⟩
          · refine Or.inl ⟨h1, ?_⟩
            rw [htz, ← hEE, h2]
          · exact Or.inr (by rw [h1, h3])
        have HSE := Lib.hid hse
        have HRD := Lib.hid hRd
        have HTL := Lib.hid htl
        have HTZ := Lib.hid htz
        have HU := Lib.hid hu
        have hEt : E ≤ t.size := by rw [htz]; exact hEl
        have HMT := Lib.hid hmt
        clear hmt hse hRd htl htz hany hwd htk hEE hr hp hR hul ht hix hm hRl huz
        rcases hixc with ⟨rfl, hEz⟩ | rfl
        · subst hEz
          have F0 : Hid (∀ k, (hk : k < R.length) → k < t.size → badC R[k] = true → Good R k → ((m : Int) + (k : Int) = kk ∧ false = bb)) := Lib.hid (fun k hk hkE hb hg => by
            obtain ⟨a1, a2⟩ := hg.stop hk hkE hb
            have hq := HSE.out
            simp only [a1, if_true, a2] at hq
            rw [← HKK.out, ← HBB.out, hq]
            refine ⟨?_, rfl⟩
            show (m : Int) + (k : Int) = ((s.size - (R.drop k).length : Nat) : Int)
            rw [List.length_drop]
            have := HTZ.out
            have := HMT.out
            omega)
          have F3 : Hid (Good R t.size → skip0 (l.drop (m + t.size)) = skip0 l) := Lib.hid (fun hg => by
            have hq := HSE.out
            unfold Good at hg
            simp only [hg, Bool.false_eq_true, if_false] at hq
            rw [hq, HRD.out, List.drop_drop])
          have hui := HU.out
          have hnz : 0 ≤ (n : Int) := by omega
          go_wp2_with fail
          refine HTR.out.mono ?_; rintro e w1 ⟨rfl, hb⟩
          have HB1 := Lib.hid (HB.out.trans (hb.mono HB.out.size))
          clear hb hui
          go_wp2_with fail
          refine (HP.out _).mono ?_; rintro e w2 ⟨rfl, rfl⟩
          go_wp2_with fail
          refine (HI.out _).mono ?_; rintro e w3 ⟨rfl, hb⟩
          have HB2 := Lib.hid (HB1.out.trans (hb.mono HB1.out.size))
          clear hb
          go_wp2_with fail
          go_loop [2, 31] (fun n2 i => ∃ k : Nat, i = .int .i64 k ∧ n2 = .int .i64 m ∧ k ≤ t.size ∧ Hid (Good R k)) (fun _ i => t.size - (intOf i).toNat)
          case atStart => exact ⟨0, rfl, rfl, Nat.zero_le _, Lib.hid rfl⟩
          case round =>
            obtain ⟨k, rfl, rfl, hk, HG⟩ := hrel
            by_cases hlt : k < t.size
            · have hkt : k < t.size := by omega
              obtain ⟨x, hx⟩ : ∃ x : UInt8, t[k]'hkt = x := ⟨_, rfl⟩
              have hkR : k < R.length := by have := HTZ.out; omega
              have HXR : Hid (R[k]'hkR = x) := Lib.hid (by
                rw [← hx]
                have e : R[k]? = some (t[k]'hkt) := by rw [← HTL.out]; exact Lib.data_getElem? t k hkt
                rw [List.getElem?_eq_getElem hkR] at e
                exact Option.some.inj e)
              by_cases hb1 : x.toNat < 32
              · by_cases hb2 : x = 9
                · subst hb2
                  have HG2 : Hid (Good R (k + 1)) := Lib.hid (HG.out.step hkR (by rw [HXR.out]; rfl))
                  go_wp2_with fail
                  go_round
                  case rel => exact ⟨k + 1, by go_num, rfl, by omega, HG2⟩
                  case measure => simp [intOf]; omega
                · have hb3 : ¬ ((x.toNat : Int) = 9) := u8_ne 9 x (fun e => hb2 e.symm)
                  have hb4 : (x.toNat : Int) < 32 := by omega
                  have F4 := Lib.hid (F0.out k hkR hlt (by rw [HXR.out]; unfold badC; simp [hb1, hb2]) HG.out)
                  clear hb2 hb1
                  go_wp2_with fail
                  go_ret2
                  exact ⟨ret_nb F4.out.1 F4.out.2, HB2.out⟩
              · have hb4 : ¬ ((x.toNat : Int) < 32) := by omega
                have HG2 : Hid (Good R (k + 1)) := Lib.hid (HG.out.step hkR (by rw [HXR.out]; unfold badC; simp [hb1]))
                clear hb1
                go_wp2_with fail
                go_round
                case rel => exact ⟨k + 1, by go_num, rfl, by omega, HG2⟩
                case measure => simp [intOf]; omega
            · have hke : k = t.size := by omega
              have F5 : Hid (skip0 (l.drop (m + t.size)) = skip0 l) := Lib.hid (F3.out (hke ▸ HG.out))
              clear hke
              have hmt := HMT.out
              obtain ⟨g, rfl⟩ : ∃ g, g0 = g + (m + t.size - n) := ⟨g0 - (m + t.size - n), by omega⟩
              go_wp2_with fail
              go_roundg g
              case measure => have := HMT.out; omega
              case rel => have := HMT.out; exact ⟨m + t.size, by go_num, by omega, F5, HB2⟩
        · have F0 : Hid (∀ k, (hk : k < R.length) → k < E → badC R[k] = true → Good R k → ((m : Int) + (k : Int) = kk ∧ false = bb)) := Lib.hid (fun k hk hkE hb hg => by
            obtain ⟨a1, a2⟩ := hg.stop hk hkE hb
            have hq := HSE.out
            simp only [a1, if_true, a2] at hq
            rw [← HKK.out, ← HBB.out, hq]
            refine ⟨?_, rfl⟩
            show (m : Int) + (k : Int) = ((s.size - (R.drop k).length : Nat) : Int)
            rw [List.length_drop]
            have := HTZ.out
            have := HMT.out
            omega)
          have F3 : Hid (Good R E → skip0 (l.drop (m + E)) = skip0 l) := Lib.hid (fun hg => by
            have hq := HSE.out
            unfold Good at hg
            simp only [hg, Bool.false_eq_true, if_false] at hq
            rw [hq, HRD.out, List.drop_drop])
          have hui := HU.out
          have hnz : 0 ≤ (n : Int) := by omega
          go_wp2_with fail
          refine HTR.out.mono ?_; rintro e w1 ⟨rfl, hb⟩
          have HB1 := Lib.hid (HB.out.trans (hb.mono HB.out.size))
          clear hb hui
          go_wp2_with fail
          refine (HP.out _).mono ?_; rintro e w2 ⟨rfl, rfl⟩
          go_wp2_with fail
          refine (HI.out _).mono ?_; rintro e w3 ⟨rfl, hb⟩
          have HB2 := Lib.hid (HB1.out.trans (hb.mono HB1.out.size))
          clear hb
          go_wp2_with fail
          go_loop [2, 31] (fun n2 i => ∃ k : Nat, i = .int .i64 k ∧ n2 = .int .i64 m ∧ k ≤ E ∧ Hid (Good R k)) (fun _ i => E - (intOf i).toNat)
          case atStart => exact ⟨0, rfl, rfl, Nat.zero_le _, Lib.hid rfl⟩
          case round =>
            obtain ⟨k, rfl, rfl, hk, HG⟩ := hrel
            by_cases hlt : k < E
            · have hkt : k < t.size := by omega
              obtain ⟨x, hx⟩ : ∃ x : UInt8, t[k]'hkt = x := ⟨_, rfl⟩
              have hkR : k < R.length := by have := HTZ.out; omega
              have HXR : Hid (R[k]'hkR = x) := Lib.hid (by
                rw [← hx]
                have e : R[k]? = some (t[k]'hkt) := by rw [← HTL.out]; exact Lib.data_getElem? t k hkt
                rw [List.getElem?_eq_getElem hkR] at e
                exact Option.some.inj e)
              by_cases hb1 : x.toNat < 32
              · by_cases hb2 : x = 9
                · subst hb2
                  have HG2 : Hid (Good R (k + 1)) := Lib.hid (HG.out.step hkR (by rw [HXR.out]; rfl))
                  go_wp2_with fail
                  go_round
                  case rel => exact ⟨k + 1, by go_num, rfl, by omega, HG2⟩
                  case measure => simp [intOf]; omega
                · have hb3 : ¬ ((x.toNat : Int) = 9) := u8_ne 9 x (fun e => hb2 e.symm)
                  have hb4 : (x.toNat : Int) < 32 := by omega
                  have F4 := Lib.hid (F0.out k hkR hlt (by rw [HXR.out]; unfold badC; simp [hb1, hb2]) HG.out)
                  clear hb2 hb1
                  go_wp2_with fail
                  go_ret2
                  exact ⟨ret_nb F4.out.1 F4.out.2, HB2.out⟩
              · have hb4 : ¬ ((x.toNat : Int) < 32) := by omega
                have HG2 : Hid (Good R (k + 1)) := Lib.hid (HG.out.step hkR (by rw [HXR.out]; unfold badC; simp [hb1]))
                clear hb1
                go_wp2_with fail
                go_round
                case rel => exact ⟨k + 1, by go_num, rfl, by omega, HG2⟩
                case measure => simp [intOf]; omega
            · have hke : k = E := by omega
              have F5 : Hid (skip0 (l.drop (m + E)) = skip0 l) := Lib.hid (F3.out (hke ▸ HG.out))
              clear hke
              have hmt := HMT.out
              obtain ⟨g, rfl⟩ : ∃ g, g0 = g + (m + E - n) := ⟨g0 - (m + E - n), by omega⟩
              go_wp2_with fail
              go_roundg g
              case measure => have := HMT.out; omega
              case rel => have := HMT.out; exact ⟨m + E, by go_num, by omega, F5, HB2⟩
    · have hn : n = s.size := by omega
      have hF := HS.out
      rw [hn, List.drop_of_length_le (by rw [HLL.out]; exact Nat.le_refl _)] at hF
      have F1 : Hid ((n : Int) = kk) := Lib.hid (by rw [← HKK.out, ← hF]; show (n : Int) = ((s.size - 0 : Nat) : Int); omega)
      have F2 : Hid (true = bb) := Lib.hid (by rw [← HBB.out, ← hF]; rfl)
      clear hF hn
      go_wp2_with fail
      go_ret2
      exact ⟨ret_nb F1.out F2.out, HB.out⟩
end Go.Proofs.YtgaknbnhmoddcaaGreatDoor
namespace Go.Proofs.YtgaknbnhmoddcaaGreatDoor
theorem skip_suf : ∀ (f : Nat) (t : List UInt8), ∃ n, (skipG f t).1 = t.drop n
  | 0, t => ⟨0, by simp [skipG]⟩
  | f + 1, t => by
    have hd := hid_drop t.length t (Nat.le_refl _)
    rw [skipG]
    cases hx : hid0 t with
    | nil => exact ⟨t.length, by simp⟩
    | cons c r =>
      rw [hx] at hd
      simp only
      split
      · split
        · exact ⟨_, by show List.drop _ (c :: r) = _; conv => lhs; rw [hd]
                       rw [List.drop_drop]⟩
        · obtain ⟨n, hn⟩ := skip_suf f ((c :: r).dropWhile lineC)
          rw [hn, (while_drop lineC (c :: r)).1]
          exact ⟨_, by conv => lhs; rw [hd]
                       rw [List.drop_drop, List.drop_drop]⟩
      · exact ⟨_, hd⟩
theorem skip_drop (t : List UInt8) : (skip0 t).1 = t.drop (t.length - (skip0 t).1.length) ∧ (skip0 t).1.length ≤ t.length := by
  obtain ⟨n, hn⟩ := skip_suf (t.length + 1) t
  have hn : (skip0 t).1 = t.drop n := hn
  rw [hn, List.length_drop]
  refine ⟨?_, by omega⟩
  by_cases h : n ≤ t.length
  · congr 1; omega
  · rw [List.drop_of_length_le (by omega), List.drop_of_length_le (by omega)]
theorem lex_bad (k a : Nat) (t acc : List _) (h : (skip0 t).2 = false) : lexG k a t acc = .error (170, a + (t.length - (skip0 t).1.length)) := by
  cases k <;> (rw [lexG]; simp only; rw [h]; rfl)
theorem lex_done (k a : Nat) (t : List UInt8) (acc : List Tok) (h : (skip0 t).2 = true) (he : (skip0 t).1 = []) : lexG k a t acc = .ok (acc ++ [⟨0, [], ((a + (t.length - (skip0 t).1.length) : Nat) : Int)⟩]) := by
  cases k <;> (rw [lexG]; simp only; rw [h, he]; rfl)
theorem lex_fuel (a : Nat) (t : List UInt8) (acc : List Tok) (h : (skip0 t).2 = true) (he : (skip0 t).1 ≠ []) : lexG 0 a t acc = .error (171, a + (t.length - (skip0 t).1.length)) := by
  rw [lexG]; simp only; rw [h]
  cases hx : (skip0 t).1 with
  | nil => exact absurd hx he
  | cons c r => rfl
theorem lex_none (k a : Nat) (t : List UInt8) (acc : List Tok) (h : (skip0 t).2 = true) (he : (skip0 t).1 ≠ []) (hn : tokG (skip0 t).1 = none) : lexG (k + 1) a t acc = .error (170, a + (t.length - (skip0 t).1.length)) := by
  rw [lexG]; simp only; rw [h, hn]
  cases hx : (skip0 t).1 with
  | nil => exact absurd hx he
  | cons c r => rfl
theorem lex_some (k a : Nat) (t : List UInt8) (acc : List Tok) (kd : UInt8) (tx : List UInt8) (n : Nat) (h : (skip0 t).2 = true) (he : (skip0 t).1 ≠ []) (hn : tokG (skip0 t).1 = some (kd, tx, n)) : lexG (k + 1) a t acc = lexG k (a + (t.length - (skip0 t).1.length) + n) ((skip0 t).1.drop n) (acc ++ [⟨kd, tx, ((a + (t.length - (skip0 t).1.length) : Nat) : Int)⟩]) := by
  conv => lhs; rw [lexG]
  simp only; rw [h, hn]
  cases hx : (skip0 t).1 with
  | nil => exact absurd hx he
  | cons c r => rfl
/-- What each of the four readers tells of a rest. -/
def rdT (j : Nat) (l : List UInt8) : Option (UInt8 × List UInt8 × Nat) := match j with
  | 0 => (nameT l).map fun a => (1, a, a.length)
  | 1 => (numTk l).map fun a => (2, a, a.length)
  | 2 => (txtT l).map fun x => (3, x.1, x.2)
  | _ => (punT l).map fun a => (4, a, a.length)
def tellY (o : Option (UInt8 × List UInt8 × Nat)) : Value := match o with
  | some (k, a, n) => .tuple #[tokV k a 0, .int .i64 (n : Int)]
  | none => .tuple #[tokV 0 [] 0, .int .i64 0]
theorem tok_rd (l : List UInt8) : tokG l = (rdT 0 l).or ((rdT 1 l).or ((rdT 2 l).or (rdT 3 l))) := by
  unfold tokG rdT
  cases nameT l with
  | some a => rfl
  | none =>
    cases numTk l with
    | some a => rfl
    | none =>
      cases txtT l with
      | some x => rfl
      | none => rfl
theorem rd_pos (j : Nat) (l : List UInt8) (hl : l.length ≤ 16384) (hp : ∀ i, i < j → rdT i l = none) (hj : j < 4) (k : UInt8) (a : List UInt8) (n : Nat) (h : rdT j l = some (k, a, n)) : tokG l = some (k, a, n) ∧ 0 < n ∧ n ≤ l.length := by
  have ht : tokG l = some (k, a, n) := by
    rw [tok_rd]
    match j, hj with
    | 0, _ => rw [h]; rfl
    | 1, _ => rw [hp 0 (by omega), h]; rfl
    | 2, _ => rw [hp 0 (by omega), hp 1 (by omega), h]; rfl
    | 3, _ => rw [hp 0 (by omega), hp 1 (by omega), hp 2 (by omega), h]; rfl
  obtain ⟨g1, g2, g3, g4, g5⟩ := tok_may l a k n 0 hl ht
  exact ⟨ht, g4, g5⟩
end Go.Proofs.YtgaknbnhmoddcaaGreatDoor
namespace Go.Proofs.YtgaknbnhmoddcaaGreatDoor
open Go.Lib
/-- So far: what has been put, whether a backslash stands ahead, what is left, how many bytes have been passed. -/
def Sc (r pre : List UInt8) (q : Bool) (t : List UInt8) (k : Nat) : Prop := scanT false r = (scanT q t).map fun x => (pre ++ x.1, x.2 + k)
theorem Sc.start (r : List UInt8) : Sc r [] false r 0 := by
  unfold Sc
  cases scanT false r <;> simp
theorem Sc.step {r pre t : List UInt8} {q : Bool} {c : UInt8} {k : Nat} (h : Sc r pre q (c :: t) k) (hc : (!q && c == 34) = false) :
    Sc r (pre ++ (if c == 9 && !q then [92, 116] else [c])) (!q && c == 92) t (k + 1) := by
  unfold Sc at *
  rw [h, scanT, hc]
  simp only [Bool.false_eq_true, if_false, Option.map_map]
  cases scanT (!q && c == 92) t with
  | none => rfl
  | some x =>
    simp only [Option.map_some, Function.comp]
    rw [List.append_assoc, Nat.add_assoc, Nat.add_comm 1 k]
theorem Sc.stop {r pre t : List UInt8} {k : Nat} (h : Sc r pre false (34 :: t) k) : scanT false r = some (pre, k + 1) := by
  unfold Sc at h
  rw [h, scanT]
  simp [Nat.add_comm]
theorem Sc.none {r pre : List UInt8} {q : Bool} {k : Nat} (h : Sc r pre q [] k) : scanT false r = none := by
  unfold Sc at h
  rw [h, scanT]
  rfl
theorem txt_quote (c : UInt8) (r : List UInt8) (h : c ≠ 34) : txtT (c :: r) = none := by
  unfold txtT
  dsimp only
  rw [if_pos (Or.inl h)]
theorem txt_three (c : UInt8) (r : List UInt8) (h : [34, 34, 34].isPrefixOf (c :: r) = true) : txtT (c :: r) = none := by
  unfold txtT
  dsimp only
  rw [if_pos (Or.inr h)]
theorem txt_open (r : List UInt8) (h : [34, 34, 34].isPrefixOf (34 :: r) = false) (hn : scanT false r = none) : txtT (34 :: r) = none := by
  unfold txtT
  dsimp only
  rw [if_neg (by rw [h]; simp), hn]
theorem txt_bad (r b : List UInt8) (n : Nat) (e : Int) (h : [34, 34, 34].isPrefixOf (34 :: r) = false) (hs : scanT false r = some (b, n)) (hj : jsonT (34 :: (b ++ [34])) = .error e) : txtT (34 :: r) = none := by
  unfold txtT
  dsimp only
  rw [if_neg (by rw [h]; simp), hs]
  simp only
  rw [hj]
theorem txt_good (r b : List UInt8) (n : Nat) (v : List Cel) (h : [34, 34, 34].isPrefixOf (34 :: r) = false) (hs : scanT false r = some (b, n)) (hj : jsonT (34 :: (b ++ [34])) = .ok v) : txtT (34 :: r) = some ((v.headD ⟨0, [], [], 0, 0⟩).text, n + 1) := by
  unfold txtT
  dsimp only
  rw [if_neg (by rw [h]; simp), hs]
  simp only
  rw [hj]
end Go.Proofs.YtgaknbnhmoddcaaGreatDoor
namespace Go.Proofs.YtgaknbnhmoddcaaGreatDoor
open Go.RowKit
def rdErr (o : Except Int (List Cel)) : Int := match o with | .error e => e | .ok _ => 0
def rdOut (o : Except Int (List Cel)) : List Cel := match o with | .error _ => [] | .ok l => l
theorem CelSl.nil (W : World) : CelSl (.slice none 0 0) [] W := (OwnC.nil 0 W).sl
theorem PReadE.sl {B : Nat} {o : Except Int (List Cel)} {x : Ending} {W : World} (h : PReadE B o x W) : (rdOut o).length ≤ 2048 ∧ ∃ u, x = .returned (.tuple #[u, .int .i64 (rdErr o)]) ∧ CelSl u (rdOut o) W := by
  cases o with
  | error e => exact ⟨by simp [rdOut], _, h, CelSl.nil W⟩
  | ok out => obtain ⟨h1, u, h2, h3⟩ := h; exact ⟨h1, u, h2, h3.sl⟩
theorem ite_err {α : Type} {c : Prop} [Decidable c] {x : α} {e : Int} (h : (if c then (.error 41 : Except Int α) else .ok x) = .error e) : e ≠ 0 := by
  by_cases hc : c
  · rw [if_pos hc] at h; injection h with h; omega
  · rw [if_neg hc] at h; cases h
theorem num_err (l : List UInt8) (e : Int) (h : numJ l = .error e) : e ≠ 0 := by
  unfold numJ at h
  simp only at h
  by_cases hd : (wholeJ (body l)).isEmpty = true
  · rw [if_pos hd] at h; injection h with h; omega
  · rw [if_neg hd] at h
    exact ite_err h
theorem mem_err (nm : List (List UInt8)) (l : List UInt8) (e : Int) (h : memJ nm l = .error e) : e ≠ 0 := by
  unfold memJ at h
  repeat' split at h
  all_goals first
    | (cases h; done)
    | (injection h with h; omega)
theorem items_err (val : List UInt8 → List UInt8 → List Cel → Except Int (List UInt8 × List Cel)) (hv : ∀ name l out e, val name l out = .error e → e ≠ 0) (isO : Bool) : ∀ (f n : Nat) (nm : List (List UInt8)) (l : List UInt8) (out : List Cel) (e : Int), itemsJ val isO f n nm l out = .error e → e ≠ 0
  | 0, n, nm, l, out, e, h => by rw [itemsJ] at h; injection h with h; omega
  | f + 1, n, nm, l, out, e, h => by
    rw [itemsJ] at h
    cases ht : tkJ [if isO then 125 else 93] l with
    | some r => rw [ht] at h; cases h
    | none =>
      rw [ht] at h
      simp only at h
      cases hc : (if n = 0 then some l else (tkJ [44] l).map blJ) with
      | none => rw [hc] at h; injection h with h; omega
      | some l1 =>
        rw [hc] at h
        simp only at h
        cases hm : (if isO then memJ nm l1 else .ok ([], l1)) with
        | error e' =>
          rw [hm] at h
          injection h with h
          subst h
          cases isO with
          | true => exact mem_err nm l1 e' hm
          | false => cases hm
        | ok x =>
          obtain ⟨s, l2⟩ := x
          rw [hm] at h
          simp only at h
          cases hx : val s l2 out with
          | error e' => rw [hx] at h; injection h with h; subst h; exact hv _ _ _ _ hx
          | ok y =>
            obtain ⟨l3, out2⟩ := y
            rw [hx] at h
            simp only at h
            exact items_err val hv isO f _ _ _ out2 e h
theorem val_err_step (d : Nat) (ih : ∀ e, d = e + 1 → ∀ name l out k, valJ e name l out = .error k → k ≠ 0) (name l : List UInt8) (out : List Cel) (k : Int) (h : valJ d name l out = .error k) : k ≠ 0 := by
  unfold valJ at h
  cases hb : blJ l with
  | nil => rw [hb] at h; simp only at h; injection h with h; omega
  | cons c r =>
    rw [hb] at h
    simp only at h
    split at h
    · injection h with h; omega
    · split at h
      · injection h with h; omega
      · split at h
        · cases d with
          | zero => simp only at h; injection h with h; omega
          | succ d =>
            simp only at h
            cases hi : itemsJ (valJ d) (c == 123) (r.length + 1) 0 [] (blJ r) (out ++ [⟨if c = 123 then 7 else 6, name, [], 0, 0⟩]) with
            | error e => rw [hi] at h; injection h with h; subst h; exact items_err _ (ih d rfl) _ _ _ _ _ _ _ hi
            | ok y => rw [hi] at h; cases h
        · unfold leafJ at h
          repeat' split at h
          all_goals first
            | (cases h; done)
            | (injection h with h; omega)
            | (injection h with h; subst h; exact num_err _ _ (by assumption))
theorem val_err : ∀ (d : Nat) (name l : List UInt8) (out : List Cel) (k : Int), valJ d name l out = .error k → k ≠ 0
  | 0 => val_err_step 0 fun e h => by omega
  | d + 1 => val_err_step (d + 1) fun e h => by
    have : e = d := by omega
    subst this
    exact val_err e
theorem rdJ_err (l : List UInt8) (k : Int) (h : rdJ l = .error k) : k ≠ 0 := by
  unfold rdJ at h
  split at h
  · unfold readJ at h
    split at h
    · injection h with h; subst h
      rename_i hv
      exact val_err _ _ _ _ _ hv
    · split at h
      · cases h
      · injection h with h; omega
  · rename_i hc
    injection h with h; subst h; exact hc
end Go.Proofs.YtgaknbnhmoddcaaGreatDoor
namespace Go.Proofs.YtgaknbnhmoddcaaGreatDoor
open Go.RowKit Go.Lib
def EnvV (p : Nat) (W : World) : Prop := ∀ W', Below p W W' → EnvU W'
theorem EnvV.to {p : Nat} {W W' : World} (h : EnvV p W) (hb : Below p W W') : EnvV p W' := fun W2 h2 => h W2 (hb.trans h2)
theorem EnvV.u {p : Nat} {W : World} (h : EnvV p W) : ∀ W', RK p W W' → EnvU W' := fun W' hk => h W' hk.1
set_option maxRecDepth 100000 in
set_option maxHeartbeats 4000000 in
theorem q_value_text (d p : Nat) (name : ByteArray) (op : Int) (v : Value) (L : List Cel) (l : List UInt8) (W : World) (hl : l.length ≤ 16384) (hv : validD l = true) (h : PS p l v op W) (hown : OwnC (p + 1) v L W) (hL : L.length ≤ 2048) (hE : EnvV p W) (c : UInt8) (rest : List UInt8) (hb : blJ l = c :: rest) (hbg : begJ c = true) (hf : L.length ≠ 2048) (hc : c = UInt8.ofNat 34) (s t : List UInt8) (ht : strJ (c :: rest) = some (s, t)) :
    Calls Tryz.prog 210 #[.pointer (some ⟨p, 0, none⟩), .string name] W (VPE p W v op (valJ d name.data.toList l L)) := by
  have HV0 : Hid (VP p W v v L l op W) := Lib.hid ⟨h, hown, VK.refl _ _ _, fun k hk => Or.inl hk⟩
  have HBL := Lib.hid (fun (W : World) (hW : PS p l v op W) => p_blanks p l v op W hW)
  have HNO : Hid (∀ (e : Int) W, Calls Tryz.prog 212 #[.int .i64 e] W fun x w' => x = .panicked (stopL e) ∧ W = w') := Lib.hid fun e W => p_no e W
  have HEE := Lib.hid hE
  have hvl : ∃ a n c, v = .slice a n c ∧ n = L.length := by
    rcases HV0.out.own.2 with ⟨h1, h2⟩ | ⟨g, cap, cur, h1, _⟩
    · exact ⟨none, 0, 0, h1, h2.symm⟩
    · exact ⟨_, _, _, h1, rfl⟩
  obtain ⟨av, nv, cv, rfl, hnv⟩ := hvl
  have HNV := Lib.hid hnv
  have hnv8 : nv ≤ 2048 := by omega
  have hL2 : nv ≤ 2047 := by omega
  have hL3 : L.length ≤ 2047 := by omega
  have tf : ((nv : Int) == 2048) = false := by rw [beq_eq_false_iff_ne]; omega
  have hcr : (c :: rest).length ≤ 16384 := by rw [← hb]; exact Nat.le_trans (cut_bl l).1 hl
  have hcv : validD (c :: rest) = true := by rw [← hb]; exact (cut_bl l).2 hv
  have hcc : (c.toNat : Int) = 34 := by rw [hc]; rfl
  have HZ : Hid (valJ d name.data.toList l L = .ok (t, L ++ [⟨3, name.data.toList, s, 0, 0⟩])) := Lib.hid (by
    rw [valJ_leaf d _ l L c rest hb hf hbg (by rw [hc]; decide)]
    unfold leafJ
    rw [if_pos (by rw [hc]; decide), ht])
  have HM := Lib.hid (fun (u : Value) (W : World) (hW : PS p (c :: rest) u op W) (hE : ∀ W', RK p W W' → EnvU W') => text_ok hcr hcv ht W hW hE)
  rw [hb] at HBL
  clear h hv hown hE hb hnv hf hc ht
  go_enter Tryz.func210, Tryz.ntmps210
  go_wp2_with fail
  refine (HBL.out _ HV0.out.st).mono ?_; rintro x w1 ⟨rfl, hst, hk⟩
  have HV1 := Lib.hid (HV0.out.rk hst hk)
  obtain ⟨b, hbl, hr⟩ := hst
  obtain ⟨c0, c1, c2⟩ := hr.cells
  obtain ⟨hb1, hb2, hb3, hb4, -⟩ := tl_cons hbl
  have h00 : b[0]'hb4 = c := at_zero hbl hb4
  obtain ⟨k, hkk⟩ : ∃ k, Lib.indexByte [123, 91, 34, 116, 102, 110, 45, 48, 49, 50, 51, 52, 53, 54, 55, 56, 57] c = k := ⟨_, rfl⟩
  have tk := beg_ix c
  rw [hkk, hbg] at tk
  simp only [Bool.not_true, Bool.not_false] at tk
  have HX1 : Hid (∀ W, Calls Tryz.prog 72 #[.string ⟨#[123, 91, 34, 116, 102, 110, 45, 48, 49, 50, 51, 52, 53, 54, 55, 56, 57]⟩, .int .u8 ((b[0]'hb4).toNat : Int)] W fun x w' => x = .returned (.int .i64 k) ∧ W = w') := Lib.hid fun W => by
    have := ix_any ⟨#[123, 91, 34, 116, 102, 110, 45, 48, 49, 50, 51, 52, 53, 54, 55, 56, 57]⟩ c W
    rw [show (⟨#[123, 91, 34, 116, 102, 110, 45, 48, 49, 50, 51, 52, 53, 54, 55, 56, 57]⟩ : ByteArray).data.toList = [123, 91, 34, 116, 102, 110, 45, 48, 49, 50, 51, 52, 53, 54, 55, 56, 57] from rfl, hkk] at this
    rw [h00]; exact this
  clear hk hr hbl h00 hkk
  go_wp2_with fail
  refine (HX1.out _).mono ?_; rintro x w2 ⟨rfl, rfl⟩
  have HVA : Hid (VP p W (.slice av nv cv) (.slice av nv cv) L (c :: rest) op (World.alloc w1 (.cells #[.int .u8 0, .string name, .string ⟨#[]⟩, .int .i64 0, .int .i64 0] 63))) := Lib.hid (HV1.out.alloc _)
  have hszp := HVA.out.st.lt
  go_wp2_with (at_builtin; refine wpList_pushC rfl _ _ rfl (p + 1) (.slice av nv cv) L rfl HVA.out.own _ 1 name.data.toList rfl (heap_alloc_new _ _) ?c1 ?c2 ?_)
  case c1 => omega
  case c2 => exact hszp
  intro v5 w4 hown' hgrow hat
  obtain ⟨hst4, hv5⟩ := HVA.out.grown hown' hgrow hat (by simp)
  obtain ⟨w5, hw5⟩ : ∃ w5, (w4.setCell ⟨p, 1, none⟩ v5) = w5 := ⟨_, rfl⟩
  have HW5 := Lib.hid hw5
  rw [hw5] at hv5
  have HV5 := Lib.hid hv5
  obtain ⟨c14, c24, f14, f24⟩ := hst4.c12
  clear hown' hgrow hat hst4 hv5 HVA hszp hw5 c0 c1 c2
  have hkl : nv < (L ++ [(⟨0, name.data.toList, [], 0, 0⟩ : Cel)]).length := by rw [HNV.out]; simp
  obtain ⟨n5, hn5⟩ : ∃ n5, (L ++ [(⟨0, name.data.toList, [], 0, 0⟩ : Cel)]).length = n5 := ⟨_, rfl⟩
  have hk5 : n5 = nv + 1 := by rw [← hn5, HNV.out]; simp
  obtain ⟨g, cap, hvg, hBg, hgl, -⟩ := HV5.out.own.form nv hkl
  rw [hn5] at hvg
  subst hvg
  obtain ⟨c15, c25, f15, f25⟩ := HV5.out.st.c12
  have hpg : p < g := by omega
  have q1 : (n5 : Int) - 1 = (nv : Int) := by omega
  have q2 : IntKind.i64.wrap (nv : Int) = (nv : Int) := IntWalk.i64_in _ (by omega)
  have q3 : (0 : Int) ≤ (nv : Int) := by omega
  have q4 : (nv : Int) < (n5 : Int) := by omega
  have q5 : (nv : Int).toNat = nv := by omega
  clear hn5 hk5
  go_wp2_with fail
  try rw [HW5.out]
  refine wp_region_held_drew (S := fun W => W.cell? ⟨p, 1, none⟩ = some (.slice (some ⟨g, 0, none⟩) n5 cap)) (by kernel_rfl) (c15) (fun hHeld => ?_)
  refine tky 0 (some 40) (v := ?_) rfl (by kernel_rfl) (by kernel_rfl) (by kernel_rfl) (fun _ _ _ h => h) ?_ hHeld ?_
  rotate_left
  focus (intro w hSw; (try dsimp only at hSw); go_simp; (try with_reducible rfl); done)
  simp only [Act.put, List.setIfInBounds_toArray, List.set_cons_zero, List.set_cons_succ]
  refine tky 1 (some 41) (v := ?_) rfl (by kernel_rfl) (by kernel_rfl) (by kernel_rfl) (fun _ _ _ h => h) ?_ hHeld ?_
  rotate_left
  focus (intro w hSw; (try dsimp only at hSw); go_simp; (try with_reducible rfl); done)
  simp only [Act.put, List.setIfInBounds_toArray, List.set_cons_zero, List.set_cons_succ]
  refine tky 2 (some 42) (v := ?_) rfl (by kernel_rfl) (by kernel_rfl) (by kernel_rfl) (fun _ _ _ h => h) ?_ hHeld ?_
  rotate_left
  focus (intro w hSw; (try dsimp only at hSw); go_simp; (try with_reducible rfl); done)
  simp only [Act.put, List.setIfInBounds_toArray, List.set_cons_zero, List.set_cons_succ]
  refine tky 3 (some 43) (v := ?_) rfl (by kernel_rfl) (by kernel_rfl) (by kernel_rfl) (fun _ _ _ h => h) ?_ hHeld ?_
  rotate_left
  focus (intro w hSw; (try dsimp only at hSw); go_simp; (try with_reducible rfl); done)
  simp only [Act.put, List.setIfInBounds_toArray, List.set_cons_zero, List.set_cons_succ]
  refine tky 4 (some 44) (v := ?_) rfl (by kernel_rfl) (by kernel_rfl) (by kernel_rfl) (fun _ _ _ h => h) ?_ hHeld ?_
  rotate_left
  focus (intro w hSw; (try dsimp only at hSw); go_simp; (try with_reducible rfl); done)
  simp only [Act.put, List.setIfInBounds_toArray, List.set_cons_zero, List.set_cons_succ]
  refine tky 5 (some 45) (v := ?_) rfl (by kernel_rfl) (by kernel_rfl) (by kernel_rfl) (fun _ _ _ h => h) ?_ hHeld ?_
  rotate_left
  focus (intro w hSw; (try dsimp only at hSw); go_simp; (try with_reducible rfl); done)
  simp only [Act.put, List.setIfInBounds_toArray, List.set_cons_zero, List.set_cons_succ]
  refine tky 6 (some 46) (v := ?_) rfl (by kernel_rfl) (by kernel_rfl) (by kernel_rfl) (fun _ _ _ h => h) ?_ hHeld ?_
  rotate_left
  focus (intro w hSw; (try dsimp only at hSw); go_simp; (try with_reducible rfl); done)
  simp only [Act.put, List.setIfInBounds_toArray, List.set_cons_zero, List.set_cons_succ]
  refine tky 7 (some 47) (v := ?_) rfl (by kernel_rfl) (by kernel_rfl) (by kernel_rfl) (fun _ _ _ h => h) ?_ hHeld ?_
  rotate_left
  focus (intro w hSw; (try dsimp only at hSw); go_simp; (try with_reducible rfl); done)
  simp only [Act.put, List.setIfInBounds_toArray, List.set_cons_zero, List.set_cons_succ]
  refine tky 8 (some 48) (v := ?_) rfl (by kernel_rfl) (by kernel_rfl) (by kernel_rfl) (fun _ _ _ h => h) ?_ hHeld ?_
  rotate_left
  focus (intro w hSw; (try dsimp only at hSw); go_simp; (try with_reducible rfl); done)
  simp only [Act.put, List.setIfInBounds_toArray, List.set_cons_zero, List.set_cons_succ]
  refine tky 9 (some 49) (v := ?_) rfl (by kernel_rfl) (by kernel_rfl) (by kernel_rfl) (fun _ _ _ h => h) ?_ hHeld ?_
  rotate_left
  focus (intro w hSw; (try dsimp only at hSw); go_simp; (try with_reducible rfl); done)
  simp only [Act.put, List.setIfInBounds_toArray, List.set_cons_zero, List.set_cons_succ]
  refine tky 10 (some 50) (v := ?_) rfl (by kernel_rfl) (by kernel_rfl) (by kernel_rfl) (fun _ _ _ h => h) ?_ hHeld ?_
  rotate_left
  focus (intro w hSw; (try dsimp only at hSw); go_simp; (try with_reducible rfl); done)
  simp only [Act.put, List.setIfInBounds_toArray, List.set_cons_zero, List.set_cons_succ]
  refine tky 11 (some 4) (v := ?_) rfl (by kernel_rfl) (by kernel_rfl) (by kernel_rfl) (fun _ _ _ h => h) ?_ hHeld ?_
  rotate_left
  focus (intro w hSw; (try dsimp only at hSw); go_simp; (try with_reducible rfl); done)
  simp only [Act.put, List.setIfInBounds_toArray, List.set_cons_zero, List.set_cons_succ]
  refine wpAnyH_done (by kernel_rfl) ?_ _
  obtain ⟨w6, hw6⟩ : ∃ w6, w5.drew = w6 := ⟨_, rfl⟩
  have HV6 : Hid (VP p W (.slice av nv cv) (.slice (some ⟨g, 0, none⟩) n5 cap) (L ++ [⟨0, name.data.toList, [], 0, 0⟩]) (c :: rest) op w6) := Lib.hid (by rw [← hw6]; exact HV5.out.below ⟨rfl, rfl, rfl, Nat.le_refl _, fun _ _ => rfl⟩)
  rw [hw6]
  obtain ⟨b6, hb6l, hr6⟩ := HV6.out.st
  have HR6 := Lib.hid hr6
  have HB6 := Lib.hid hb6l
  obtain ⟨d0, d1, d2⟩ := hr6.cells
  have e0 := hr6.frozen 0
  obtain ⟨y1, y2, y3, y4, -⟩ := tl_cons hb6l
  have h06 : b6[0]'y4 = c := at_zero hb6l y4
  obtain ⟨hfz, ck0, ck2, ck3⟩ := HV6.out.own.at_ rfl nv hkl
  have hfz0 := hfz (nv * 5)
  have hfz2 := hfz (nv * 5 + 2)
  have hfz3 := hfz (nv * 5 + 3)
  obtain ⟨z0, hz0⟩ : ∃ z : Int, (((L ++ [(⟨0, name.data.toList, [], 0, 0⟩ : Cel)])[nv]'hkl).kind.toNat : Int) = z := ⟨_, rfl⟩
  rw [hz0] at ck0
  clear hw6 hr6 hfz hz0 c14 c24 f14 f24 c15 c25 f15 f25 q1 q2 q3 q4 q5 HW5
  have t06 : ((b6[0]'y4).toNat : Int) = (c.toNat : Int) := by rw [h06]
  rw [hcc] at t06
  clear h06 hb6l hHeld
  go_wp2_with fail
  have HV7 : Hid (VP p W (.slice av nv cv) (.slice (some ⟨g, 0, none⟩) n5 cap) ((((L ++ [(⟨0, name.data.toList, [], 0, 0⟩ : Cel)])).modify nv fun c => { c with kind := 3 })) (c :: rest) op (w6.setCell ⟨g, nv * 5, none⟩ (.int .u8 3))) := Lib.hid (HV6.out.set rfl hpg (by rw [List.length_modify]) (by exact celFlat_set0 _ _ 3))
  refine (HM.out _ _ HV7.out.st (HEE.out.to HV7.out.vk.1).u).mono ?_; rintro x w8 ⟨rfl, hst, hk⟩
  have HV8 := Lib.hid (HV7.out.rk hst hk)
  clear hst hk d0 d1 d2 e0 ck0 ck2 ck3 hfz0 hfz2 hfz3
  have hkl2 : nv < ((((L ++ [(⟨0, name.data.toList, [], 0, 0⟩ : Cel)])).modify nv fun c => { c with kind := 3 })).length := by rw [List.length_modify]; exact hkl
  obtain ⟨hfz, ck0, ck2, ck3⟩ := HV8.out.own.at_ rfl nv hkl2
  have hfz2 := hfz (nv * 5 + 2)
  obtain ⟨z2, hz2⟩ : ∃ z, Value.string ⟨(((((L ++ [(⟨0, name.data.toList, [], 0, 0⟩ : Cel)])).modify nv fun c => { c with kind := 3 }))[nv]'hkl2).text.toArray⟩ = z := ⟨_, rfl⟩
  rw [hz2] at ck2
  clear ck0 ck3 hfz hz2
  have HV9 : Hid (VP p W (.slice av nv cv) (.slice (some ⟨g, 0, none⟩) n5 cap) ((((((L ++ [(⟨0, name.data.toList, [], 0, 0⟩ : Cel)])).modify nv fun c => { c with kind := 3 })).modify nv fun c => { c with text := s })) t op (w8.setCell ⟨g, nv * 5 + 2, none⟩ (.string ⟨s.toArray⟩))) := Lib.hid (HV8.out.set rfl hpg (by rw [List.length_modify]) (by exact celFlat_set2 _ _ s))
  have HOUT : Hid ((((((L ++ [(⟨0, name.data.toList, [], 0, 0⟩ : Cel)])).modify nv fun c => { c with kind := 3 })).modify nv fun c => { c with text := s }) = L ++ [⟨3, name.data.toList, s, 0, 0⟩]) := Lib.hid (by
    have hnl := HNV.out
    rw [modify_end' _ _ _ _ hnl, modify_end' _ _ _ _ hnl])
  go_wp2_with fail
  go_end0
  rw [HZ.out]
  rw [HOUT.out] at HV9
  exact ⟨rfl, by simp; omega, _, HV9.out⟩
set_option maxRecDepth 100000 in
set_option maxHeartbeats 4000000 in
theorem q_value_text_no (d p : Nat) (name : ByteArray) (op : Int) (v : Value) (L : List Cel) (l : List UInt8) (W : World) (hl : l.length ≤ 16384) (hv : validD l = true) (h : PS p l v op W) (hown : OwnC (p + 1) v L W) (hL : L.length ≤ 2048) (hE : EnvV p W) (c : UInt8) (rest : List UInt8) (hb : blJ l = c :: rest) (hbg : begJ c = true) (hf : L.length ≠ 2048) (hc : c = UInt8.ofNat 34) (ht : strJ (c :: rest) = none) :
    Calls Tryz.prog 210 #[.pointer (some ⟨p, 0, none⟩), .string name] W (VPE p W v op (valJ d name.data.toList l L)) := by
  have HV0 : Hid (VP p W v v L l op W) := Lib.hid ⟨h, hown, VK.refl _ _ _, fun k hk => Or.inl hk⟩
  have HBL := Lib.hid (fun (W : World) (hW : PS p l v op W) => p_blanks p l v op W hW)
  have HNO : Hid (∀ (e : Int) W, Calls Tryz.prog 212 #[.int .i64 e] W fun x w' => x = .panicked (stopL e) ∧ W = w') := Lib.hid fun e W => p_no e W
  have HEE := Lib.hid hE
  have hvl : ∃ a n c, v = .slice a n c ∧ n = L.length := by
    rcases HV0.out.own.2 with ⟨h1, h2⟩ | ⟨g, cap, cur, h1, _⟩
    · exact ⟨none, 0, 0, h1, h2.symm⟩
    · exact ⟨_, _, _, h1, rfl⟩
  obtain ⟨av, nv, cv, rfl, hnv⟩ := hvl
  have HNV := Lib.hid hnv
  have hnv8 : nv ≤ 2048 := by omega
  have hL2 : nv ≤ 2047 := by omega
  have hL3 : L.length ≤ 2047 := by omega
  have tf : ((nv : Int) == 2048) = false := by rw [beq_eq_false_iff_ne]; omega
  have hcr : (c :: rest).length ≤ 16384 := by rw [← hb]; exact Nat.le_trans (cut_bl l).1 hl
  have hcv : validD (c :: rest) = true := by rw [← hb]; exact (cut_bl l).2 hv
  have hcc : (c.toNat : Int) = 34 := by rw [hc]; rfl
  have HZ : Hid (valJ d name.data.toList l L = .error 40) := Lib.hid (by
    rw [valJ_leaf d _ l L c rest hb hf hbg (by rw [hc]; decide)]
    unfold leafJ
    rw [if_pos (by rw [hc]; decide), ht])
  have HM := Lib.hid (fun (u : Value) (W : World) (hW : PS p (c :: rest) u op W) (hE : ∀ W', RK p W W' → EnvU W') => text_no hcr hcv ht W hW hE)
  rw [hb] at HBL
  clear h hv hown hE hb hnv hf hc ht
  go_enter Tryz.func210, Tryz.ntmps210
  go_wp2_with fail
  refine (HBL.out _ HV0.out.st).mono ?_; rintro x w1 ⟨rfl, hst, hk⟩
  have HV1 := Lib.hid (HV0.out.rk hst hk)
  obtain ⟨b, hbl, hr⟩ := hst
  obtain ⟨c0, c1, c2⟩ := hr.cells
  obtain ⟨hb1, hb2, hb3, hb4, -⟩ := tl_cons hbl
  have h00 : b[0]'hb4 = c := at_zero hbl hb4
  obtain ⟨k, hkk⟩ : ∃ k, Lib.indexByte [123, 91, 34, 116, 102, 110, 45, 48, 49, 50, 51, 52, 53, 54, 55, 56, 57] c = k := ⟨_, rfl⟩
  have tk := beg_ix c
  rw [hkk, hbg] at tk
  simp only [Bool.not_true, Bool.not_false] at tk
  have HX1 : Hid (∀ W, Calls Tryz.prog 72 #[.string ⟨#[123, 91, 34, 116, 102, 110, 45, 48, 49, 50, 51, 52, 53, 54, 55, 56, 57]⟩, .int .u8 ((b[0]'hb4).toNat : Int)] W fun x w' => x = .returned (.int .i64 k) ∧ W = w') := Lib.hid fun W => by
    have := ix_any ⟨#[123, 91, 34, 116, 102, 110, 45, 48, 49, 50, 51, 52, 53, 54, 55, 56, 57]⟩ c W
    rw [show (⟨#[123, 91, 34, 116, 102, 110, 45, 48, 49, 50, 51, 52, 53, 54, 55, 56, 57]⟩ : ByteArray).data.toList = [123, 91, 34, 116, 102, 110, 45, 48, 49, 50, 51, 52, 53, 54, 55, 56, 57] from rfl, hkk] at this
    rw [h00]; exact this
  clear hk hr hbl h00 hkk
  go_wp2_with fail
  refine (HX1.out _).mono ?_; rintro x w2 ⟨rfl, rfl⟩
  have HVA : Hid (VP p W (.slice av nv cv) (.slice av nv cv) L (c :: rest) op (World.alloc w1 (.cells #[.int .u8 0, .string name, .string ⟨#[]⟩, .int .i64 0, .int .i64 0] 63))) := Lib.hid (HV1.out.alloc _)
  have hszp := HVA.out.st.lt
  go_wp2_with (at_builtin; refine wpList_pushC rfl _ _ rfl (p + 1) (.slice av nv cv) L rfl HVA.out.own _ 1 name.data.toList rfl (heap_alloc_new _ _) ?c1 ?c2 ?_)
  case c1 => omega
  case c2 => exact hszp
  intro v5 w4 hown' hgrow hat
  obtain ⟨hst4, hv5⟩ := HVA.out.grown hown' hgrow hat (by simp)
  obtain ⟨w5, hw5⟩ : ∃ w5, (w4.setCell ⟨p, 1, none⟩ v5) = w5 := ⟨_, rfl⟩
  have HW5 := Lib.hid hw5
  rw [hw5] at hv5
  have HV5 := Lib.hid hv5
  obtain ⟨c14, c24, f14, f24⟩ := hst4.c12
  clear hown' hgrow hat hst4 hv5 HVA hszp hw5 c0 c1 c2
  have hkl : nv < (L ++ [(⟨0, name.data.toList, [], 0, 0⟩ : Cel)]).length := by rw [HNV.out]; simp
  obtain ⟨n5, hn5⟩ : ∃ n5, (L ++ [(⟨0, name.data.toList, [], 0, 0⟩ : Cel)]).length = n5 := ⟨_, rfl⟩
  have hk5 : n5 = nv + 1 := by rw [← hn5, HNV.out]; simp
  obtain ⟨g, cap, hvg, hBg, hgl, -⟩ := HV5.out.own.form nv hkl
  rw [hn5] at hvg
  subst hvg
  obtain ⟨c15, c25, f15, f25⟩ := HV5.out.st.c12
  have hpg : p < g := by omega
  have q1 : (n5 : Int) - 1 = (nv : Int) := by omega
  have q2 : IntKind.i64.wrap (nv : Int) = (nv : Int) := IntWalk.i64_in _ (by omega)
  have q3 : (0 : Int) ≤ (nv : Int) := by omega
  have q4 : (nv : Int) < (n5 : Int) := by omega
  have q5 : (nv : Int).toNat = nv := by omega
  clear hn5 hk5
  go_wp2_with fail
  try rw [HW5.out]
  refine wp_region_held_drew (S := fun W => W.cell? ⟨p, 1, none⟩ = some (.slice (some ⟨g, 0, none⟩) n5 cap)) (by kernel_rfl) (c15) (fun hHeld => ?_)
  refine tky 0 (some 40) (v := ?_) rfl (by kernel_rfl) (by kernel_rfl) (by kernel_rfl) (fun _ _ _ h => h) ?_ hHeld ?_
  rotate_left
  focus (intro w hSw; (try dsimp only at hSw); go_simp; (try with_reducible rfl); done)
  simp only [Act.put, List.setIfInBounds_toArray, List.set_cons_zero, List.set_cons_succ]
  refine tky 1 (some 41) (v := ?_) rfl (by kernel_rfl) (by kernel_rfl) (by kernel_rfl) (fun _ _ _ h => h) ?_ hHeld ?_
  rotate_left
  focus (intro w hSw; (try dsimp only at hSw); go_simp; (try with_reducible rfl); done)
  simp only [Act.put, List.setIfInBounds_toArray, List.set_cons_zero, List.set_cons_succ]
  refine tky 2 (some 42) (v := ?_) rfl (by kernel_rfl) (by kernel_rfl) (by kernel_rfl) (fun _ _ _ h => h) ?_ hHeld ?_
  rotate_left
  focus (intro w hSw; (try dsimp only at hSw); go_simp; (try with_reducible rfl); done)
  simp only [Act.put, List.setIfInBounds_toArray, List.set_cons_zero, List.set_cons_succ]
  refine tky 3 (some 43) (v := ?_) rfl (by kernel_rfl) (by kernel_rfl) (by kernel_rfl) (fun _ _ _ h => h) ?_ hHeld ?_
  rotate_left
  focus (intro w hSw; (try dsimp only at hSw); go_simp; (try with_reducible rfl); done)
  simp only [Act.put, List.setIfInBounds_toArray, List.set_cons_zero, List.set_cons_succ]
  refine tky 4 (some 44) (v := ?_) rfl (by kernel_rfl) (by kernel_rfl) (by kernel_rfl) (fun _ _ _ h => h) ?_ hHeld ?_
  rotate_left
  focus (intro w hSw; (try dsimp only at hSw); go_simp; (try with_reducible rfl); done)
  simp only [Act.put, List.setIfInBounds_toArray, List.set_cons_zero, List.set_cons_succ]
  refine tky 5 (some 45) (v := ?_) rfl (by kernel_rfl) (by kernel_rfl) (by kernel_rfl) (fun _ _ _ h => h) ?_ hHeld ?_
  rotate_left
  focus (intro w hSw; (try dsimp only at hSw); go_simp; (try with_reducible rfl); done)
  simp only [Act.put, List.setIfInBounds_toArray, List.set_cons_zero, List.set_cons_succ]
  refine tky 6 (some 46) (v := ?_) rfl (by kernel_rfl) (by kernel_rfl) (by kernel_rfl) (fun _ _ _ h => h) ?_ hHeld ?_
  rotate_left
  focus (intro w hSw; (try dsimp only at hSw); go_simp; (try with_reducible rfl); done)
  simp only [Act.put, List.setIfInBounds_toArray, List.set_cons_zero, List.set_cons_succ]
  refine tky 7 (some 47) (v := ?_) rfl (by kernel_rfl) (by kernel_rfl) (by kernel_rfl) (fun _ _ _ h => h) ?_ hHeld ?_
  rotate_left
  focus (intro w hSw; (try dsimp only at hSw); go_simp; (try with_reducible rfl); done)
  simp only [Act.put, List.setIfInBounds_toArray, List.set_cons_zero, List.set_cons_succ]
  refine tky 8 (some 48) (v := ?_) rfl (by kernel_rfl) (by kernel_rfl) (by kernel_rfl) (fun _ _ _ h => h) ?_ hHeld ?_
  rotate_left
  focus (intro w hSw; (try dsimp only at hSw); go_simp; (try with_reducible rfl); done)
  simp only [Act.put, List.setIfInBounds_toArray, List.set_cons_zero, List.set_cons_succ]
  refine tky 9 (some 49) (v := ?_) rfl (by kernel_rfl) (by kernel_rfl) (by kernel_rfl) (fun _ _ _ h => h) ?_ hHeld ?_
  rotate_left
  focus (intro w hSw; (try dsimp only at hSw); go_simp; (try with_reducible rfl); done)
  simp only [Act.put, List.setIfInBounds_toArray, List.set_cons_zero, List.set_cons_succ]
  refine tky 10 (some 50) (v := ?_) rfl (by kernel_rfl) (by kernel_rfl) (by kernel_rfl) (fun _ _ _ h => h) ?_ hHeld ?_
  rotate_left
  focus (intro w hSw; (try dsimp only at hSw); go_simp; (try with_reducible rfl); done)
  simp only [Act.put, List.setIfInBounds_toArray, List.set_cons_zero, List.set_cons_succ]
  refine tky 11 (some 4) (v := ?_) rfl (by kernel_rfl) (by kernel_rfl) (by kernel_rfl) (fun _ _ _ h => h) ?_ hHeld ?_
  rotate_left
  focus (intro w hSw; (try dsimp only at hSw); go_simp; (try with_reducible rfl); done)
  simp only [Act.put, List.setIfInBounds_toArray, List.set_cons_zero, List.set_cons_succ]
  refine wpAnyH_done (by kernel_rfl) ?_ _
  obtain ⟨w6, hw6⟩ : ∃ w6, w5.drew = w6 := ⟨_, rfl⟩
  have HV6 : Hid (VP p W (.slice av nv cv) (.slice (some ⟨g, 0, none⟩) n5 cap) (L ++ [⟨0, name.data.toList, [], 0, 0⟩]) (c :: rest) op w6) := Lib.hid (by rw [← hw6]; exact HV5.out.below ⟨rfl, rfl, rfl, Nat.le_refl _, fun _ _ => rfl⟩)
  rw [hw6]
  obtain ⟨b6, hb6l, hr6⟩ := HV6.out.st
  have HR6 := Lib.hid hr6
  have HB6 := Lib.hid hb6l
  obtain ⟨d0, d1, d2⟩ := hr6.cells
  have e0 := hr6.frozen 0
  obtain ⟨y1, y2, y3, y4, -⟩ := tl_cons hb6l
  have h06 : b6[0]'y4 = c := at_zero hb6l y4
  obtain ⟨hfz, ck0, ck2, ck3⟩ := HV6.out.own.at_ rfl nv hkl
  have hfz0 := hfz (nv * 5)
  have hfz2 := hfz (nv * 5 + 2)
  have hfz3 := hfz (nv * 5 + 3)
  obtain ⟨z0, hz0⟩ : ∃ z : Int, (((L ++ [(⟨0, name.data.toList, [], 0, 0⟩ : Cel)])[nv]'hkl).kind.toNat : Int) = z := ⟨_, rfl⟩
  rw [hz0] at ck0
  clear hw6 hr6 hfz hz0 c14 c24 f14 f24 c15 c25 f15 f25 q1 q2 q3 q4 q5 HW5
  have t06 : ((b6[0]'y4).toNat : Int) = (c.toNat : Int) := by rw [h06]
  rw [hcc] at t06
  clear h06 hb6l hHeld
  go_wp2_with fail
  have HV7 : Hid (VP p W (.slice av nv cv) (.slice (some ⟨g, 0, none⟩) n5 cap) ((((L ++ [(⟨0, name.data.toList, [], 0, 0⟩ : Cel)])).modify nv fun c => { c with kind := 3 })) (c :: rest) op (w6.setCell ⟨g, nv * 5, none⟩ (.int .u8 3))) := Lib.hid (HV6.out.set rfl hpg (by rw [List.length_modify]) (by exact celFlat_set0 _ _ 3))
  refine (HM.out _ _ HV7.out.st (HEE.out.to HV7.out.vk.1).u).mono ?_; rintro x w8 ⟨rfl, hb⟩
  have HB8 := Lib.hid (HV7.out.vk.1.trans hb)
  clear hb
  go_wp2_with fail
  refine ⟨rfl, ?_⟩
  rw [HZ.out]
  exact ⟨rfl, HB8.out⟩
theorem q_value (d p : Nat) (name : ByteArray) (op : Int) (v : Value) (L : List Cel) (l : List UInt8) (W : World) (hl : l.length ≤ 16384) (hv : validD l = true) (h : PS p l v op W) (hown : OwnC (p + 1) v L W) (hL : L.length ≤ 2048) (hE : EnvV p W) (hf : L.length ≠ 2048) (r : List UInt8) (hq : l = 34 :: r) :
    Calls Tryz.prog 210 #[.pointer (some ⟨p, 0, none⟩), .string name] W (VPE p W v op (valJ d name.data.toList l L)) := by
  have hb : blJ l = 34 :: r := by rw [hq]; rfl
  cases ht : strJ (34 :: r) with
  | none => exact q_value_text_no d p name op v L l W hl hv h hown hL hE 34 r hb rfl hf rfl ht
  | some st => exact q_value_text d p name op v L l W hl hv h hown hL hE 34 r hb rfl hf rfl st.1 st.2 ht
set_option maxRecDepth 100000 in
theorem qread_go (s : ByteArray) (hs : s.size ≤ 17000) (hc : chkE s.data.toList = 0) (w : World) (hE : EnvU w) (r : List UInt8) (hq : s.data.toList = 34 :: r) :
    Calls Tryz.prog 206 #[.string s] w fun x w' => PReadE (w.heap.size + 1) (rdJ s.data.toList) x w' ∧ Below w.heap.size w w' := by
  have HC := Lib.hid (fun (W : World) (h : Below w.heap.size w W) => tcheck_any s (by omega) W (hE.below h))
  obtain ⟨hl16, hvd⟩ := chk_valid _ hc
  have HRJ : Hid (rdJ s.data.toList = readJ s.data.toList) := Lib.hid (by unfold rdJ; rw [if_pos hc])
  rw [hc] at HC
  have HEB : Hid (∀ p W, w.heap.size ≤ p → Below w.heap.size w W → EnvV p W) := Lib.hid fun p W hp hW W' hW' => hE.below (hW.trans (hW'.mono hp))
  have hmf : ∀ (fn : Fn) (first cap : Array Value) (w : World), (Instr.makeFunc fn first cap).run Tryz.prog w = .ok (.func fn first cap) w := fun _ _ _ _ => rfl
  rw [HRJ.out]
  obtain ⟨R, hR⟩ : ∃ R, readJ s.data.toList = R := ⟨_, rfl⟩
  have HR := Lib.hid hR
  rw [hR]
  clear hE hc hR
  go_enter_defers Tryz.func206, Tryz.ntmps206
  go_wp2_with fail
  obtain ⟨w0, hw0⟩ : ∃ w0, ((w.alloc (.cells #[.slice none 0 0] 22)).alloc (.cells #[.int .i64 0] 33)) = w0 := ⟨_, rfl⟩
  have hb0 : Below w.heap.size w w0 := by rw [← hw0]; exact ((Below.refl _ _).alloc (Nat.le_refl _) _).alloc (by simp) _
  have hz0 : w0.heap.size = w.heap.size + 2 := by rw [← hw0]; simp
  have ha0 : w0.heap[w.heap.size]? = some (.cells #[.slice none 0 0] 22 (0, 0)) := by rw [← hw0]; exact heap_old (heap_new _ _ _ rfl)
  have ha1 : w0.heap[w.heap.size + 1]? = some (.cells #[.int .i64 0] 33 (0, 0)) := by rw [← hw0]; exact heap_new _ _ _ (by simp)
  rw [hw0]
  refine (HC.out _ hb0).mono ?_; rintro x w1 ⟨rfl, hb⟩
  have HB1 : Hid (Below w.heap.size w w1) := Lib.hid (hb0.trans (hb.mono (by omega)))
  have HA0 : Hid (w1.heap[w.heap.size]? = some (.cells #[.slice none 0 0] 22 (0, 0))) := Lib.hid ((hb.block _ (by omega)).trans ha0)
  have HA1 : Hid (w1.heap[w.heap.size + 1]? = some (.cells #[.int .i64 0] 33 (0, 0))) := Lib.hid ((hb.block _ (by omega)).trans ha1)
  clear hb0 hb ha0 ha1 hw0 hz0
  have d0 : w1.cell? ⟨w.heap.size, 0, none⟩ = some (.slice none 0 0) := Lib.cell_of_heap HA0.out 0
  have d1 : w1.cell? ⟨w.heap.size + 1, 0, none⟩ = some (.int .i64 0) := Lib.cell_of_heap HA1.out 0
  have z0 : w1.frozen? ⟨w.heap.size, 0, none⟩ = false := Lib.frozen_of_heap HA0.out 0
  have z1 : w1.frozen? ⟨w.heap.size + 1, 0, none⟩ = false := Lib.frozen_of_heap HA1.out 0
  have hlt : w.heap.size + 1 < w1.heap.size := heap_lt HA1.out
  have HPS : Hid (PS w1.heap.size s.data.toList (.slice none 0 0) 0 (w1.alloc (.cells #[.string s, .slice none 0 0, .int .i64 0] 271))) := Lib.hid ⟨s, rfl, heap_alloc_new _ _⟩
  obtain ⟨p, hp⟩ : ∃ p, w1.heap.size = p := ⟨_, rfl⟩
  obtain ⟨w2, hw2⟩ : ∃ w2, w1.alloc (.cells #[.string s, .slice none 0 0, .int .i64 0] 271) = w2 := ⟨_, rfl⟩
  have hb2 : Below p w1 w2 := by rw [← hw2, ← hp]; exact (Below.refl _ _).alloc (Nat.le_refl _) _
  rw [hp, hw2] at HPS
  rw [hp] at hlt
  have HB2 : Hid (Below w.heap.size w w2) := Lib.hid (HB1.out.trans (hb2.mono (by omega)))
  have HV := Lib.hid (q_value 16 p ⟨#[]⟩ 0 (.slice none 0 0) [] s.data.toList w2 hl16 hvd HPS.out (OwnC.nil _ _) (by decide) (HEB.out p w2 (by omega) HB2.out) (by decide) r hq)
  have HH0 : Hid (∀ W, Below p w2 W → W.heap[w.heap.size]? = some (.cells #[.slice none 0 0] 22 (0, 0)) ∧ W.heap[w.heap.size + 1]? = some (.cells #[.int .i64 0] 33 (0, 0))) := Lib.hid fun W hW =>
    ⟨(hW.block _ (by omega)).trans ((hb2.block _ (by omega)).trans HA0.out), (hW.block _ (by omega)).trans ((hb2.block _ (by omega)).trans HA1.out)⟩
  rw [show (⟨#[]⟩ : ByteArray).data.toList = [] from rfl] at HV
  clear hb2 d0 d1 z0 z1 HA0 HA1 hvd hl16
  go_wp2_with fail
  cases hv : valJ 16 [] s.data.toList [] with
  | error e =>
    have HZ : Hid (R = .error e) := Lib.hid (by rw [← HR.out]; unfold readJ; rw [hv])
    rw [hv] at HV
    clear hv
    refine HV.out.mono ?_; rintro x w3 hx
    obtain ⟨hxe, hb3⟩ := hx.err
    have HZA := Lib.hid (HH0.out w3 hb3)
    have HBZ : Hid (Below w.heap.size w w3) := Lib.hid (HB2.out.trans (hb3.mono (by omega)))
    clear hx hb3
    subst hxe
    go_wp2_with fail
    refine leaves_cons (f := 209) (args := #[.pointer (some ⟨w.heap.size, 0, none⟩), .pointer (some ⟨w.heap.size + 1, 0, none⟩)]) (by simp) (by simp [go_sem]) ?_
    refine (catch_panicking w.heap.size (w.heap.size + 1) (.slice none 0 0) 0 e [] _ (by omega) (Lib.cell_of_heap HZA.out.1 0) (Lib.cell_of_heap HZA.out.2 0) (Lib.frozen_of_heap HZA.out.1 0) (Lib.frozen_of_heap HZA.out.2 0)).mono ?_
    rintro x u wf ⟨rfl, rfl, m0, m1, hbf⟩
    have HBF : Hid (Below w.heap.size w wf) := Lib.hid (HBZ.out.trans (hbf _ (Nat.le_refl _) (by omega) HBZ.out.size))
    clear hbf
    simp [Leaves, settle, results, Tryz.results206, go_sem, m0, m1]
    rw [HZ.out]
    exact ⟨rfl, HBF.out⟩
  | ok y =>
    obtain ⟨t, out⟩ := y
    have HRD : Hid (R = if (blJ t).isEmpty then .ok out else .error 40) := Lib.hid (by rw [← HR.out]; unfold readJ; rw [hv])
    rw [hv] at HV
    clear hv
    refine HV.out.mono ?_; rintro x w3 hx
    obtain ⟨hxe, hol, v3, hvp⟩ := hx.ok_
    have HV3 := Lib.hid hvp
    clear hx hvp
    subst hxe
    go_wp2_with fail
    refine (p_blanks p t v3 0 _ HV3.out.st).mono ?_; rintro x w4 ⟨rfl, hst, hk⟩
    have HV4 := Lib.hid (HV3.out.rk hst hk)
    clear hst hk
    have HZA := Lib.hid (HH0.out w4 HV4.out.vk.1)
    have HBZ : Hid (Below w.heap.size w w4) := Lib.hid (HB2.out.trans (HV4.out.vk.1.mono (by omega)))
    obtain ⟨b, hbl, hr⟩ := HV4.out.st
    obtain ⟨c0, c1, c2⟩ := hr.cells
    clear hr
    cases hbt : blJ t with
    | cons c r =>
      rw [hbt] at hbl HRD
      have HZ : Hid (R = .error 40) := Lib.hid (by rw [HRD.out]; rfl)
      obtain ⟨hb1, hb2, hb3, hb4, -⟩ := tl_cons hbl
      clear hbt hbl
      go_wp2_with fail
      refine (p_no 40 _).mono ?_; rintro x w5 ⟨rfl, rfl⟩
      go_wp2_with fail
      refine leaves_cons (f := 209) (args := #[.pointer (some ⟨w.heap.size, 0, none⟩), .pointer (some ⟨w.heap.size + 1, 0, none⟩)]) (by simp) (by simp [go_sem]) ?_
      refine (catch_panicking w.heap.size (w.heap.size + 1) (.slice none 0 0) 0 40 [] _ (by omega) (Lib.cell_of_heap HZA.out.1 0) (Lib.cell_of_heap HZA.out.2 0) (Lib.frozen_of_heap HZA.out.1 0) (Lib.frozen_of_heap HZA.out.2 0)).mono ?_
      rintro x u wf ⟨rfl, rfl, m0, m1, hbf⟩
      have HBF : Hid (Below w.heap.size w wf) := Lib.hid (HBZ.out.trans (hbf _ (Nat.le_refl _) (by omega) HBZ.out.size))
      clear hbf
      simp [Leaves, settle, results, Tryz.results206, go_sem, m0, m1]
      rw [HZ.out]
      exact ⟨rfl, HBF.out⟩
    | nil =>
      rw [hbt] at hbl HRD
      have HZ : Hid (R = .ok out) := Lib.hid (by rw [HRD.out]; rfl)
      have hbe : b = ByteArray.empty := by
        apply ByteArray.ext; apply Array.toList_inj.1; rw [hbl]; rfl
      subst hbe
      have d0 : w4.cell? ⟨w.heap.size, 0, none⟩ = some (.slice none 0 0) := Lib.cell_of_heap HZA.out.1 0
      have d1 : w4.cell? ⟨w.heap.size + 1, 0, none⟩ = some (.int .i64 0) := Lib.cell_of_heap HZA.out.2 0
      have z0 : w4.frozen? ⟨w.heap.size, 0, none⟩ = false := Lib.frozen_of_heap HZA.out.1 0
      have z1 : w4.frozen? ⟨w.heap.size + 1, 0, none⟩ = false := Lib.frozen_of_heap HZA.out.2 0
      have HF : Hid (Below w.heap.size w ((w4.setCell ⟨w.heap.size, 0, none⟩ v3).setCell ⟨w.heap.size + 1, 0, none⟩ (.int .i64 0))) := Lib.hid ((HBZ.out.setCell (p := ⟨w.heap.size, 0, none⟩) (Nat.le_refl _) _).setCell (p := ⟨w.heap.size + 1, 0, none⟩) (by show w.heap.size ≤ w.heap.size + 1; omega) _)
      have HO : Hid (OwnC (w.heap.size + 1) v3 out ((w4.setCell ⟨w.heap.size, 0, none⟩ v3).setCell ⟨w.heap.size + 1, 0, none⟩ (.int .i64 0))) := Lib.hid (((HV4.out.own.rk (RK.set w.heap.size 0 _ _) (by omega)).rk (RK.set (w.heap.size + 1) 0 _ _) (by omega)).less (by omega))
      have hvl : ∃ a n c, v3 = .slice a n c := by
        rcases HV4.out.own.2 with ⟨h1, h2⟩ | ⟨g, cap, cur, h1, _⟩
        · exact ⟨none, 0, 0, h1⟩
        · exact ⟨_, _, _, h1⟩
      obtain ⟨av, nv, cv, rfl⟩ := hvl
      clear hbt hbl
      go_wp2_with fail
      refine leaves_cons (f := 209) (args := #[.pointer (some ⟨w.heap.size, 0, none⟩), .pointer (some ⟨w.heap.size + 1, 0, none⟩)]) (by simp) (by simp [go_sem]) ?_
      refine (catch_idle ⟨w.heap.size, 0, none⟩ ⟨w.heap.size + 1, 0, none⟩ _).mono ?_
      rintro x u wf ⟨rfl, rfl, rfl⟩
      simp [Leaves, settle, results, Tryz.results206, go_sem, d0, d1, z0, z1]
      rw [HZ.out]
      exact ⟨⟨hol, _, rfl, HO.out⟩, HF.out⟩
theorem qread_any (s : ByteArray) (hs : s.size ≤ 1000000) (r : List UInt8) (hq : s.data.toList = 34 :: r) (w : World) (hE : EnvU w) :
    Calls Tryz.prog 206 #[.string s] w fun x w' => PReadE (w.heap.size + 1) (rdJ s.data.toList) x w' ∧ Below w.heap.size w w' := by
  by_cases hc : chkE s.data.toList = 0
  · exact qread_go s (by
      have := (chk_valid _ hc).1
      rw [Array.length_toList] at this
      have h2 : s.data.size = s.size := rfl
      omega) hc w hE r hq
  · exact pread_chk s hs hc w hE
end Go.Proofs.YtgaknbnhmoddcaaGreatDoor
namespace Go.Proofs.YtgaknbnhmoddcaaGreatDoor
open Go.RowKit
theorem new_cell (W : World) (A : Array Value) (T : TypeId) (i : Nat) (v : Value) (h : A[i]? = some v) : (W.alloc (.cells A T)).cell? ⟨W.heap.size, i, none⟩ = some v := by
  rw [Lib.cell_of_heap (heap_alloc_new W _)]; exact h
theorem bld_size : (Tryz.prog.info? 261).map (·.size) = some 2 := by kernel_rfl
theorem bld_lies : liesAt Tryz.prog Tryz.prog.depth 261 (2 / Tryz.prog.cellsOf 261) 0 261 1 = true := by kernel_rfl
set_option maxRecDepth 100000 in
theorem copy_used (b : Nat) (w : World) (h0 : w.cell? ⟨b, 0, none⟩ = some (.pointer (some ⟨b, 0, none⟩))) :
    Calls Tryz.prog 208 #[.pointer (some ⟨b, 0, none⟩)] w fun e w' => e = .returned (.tuple #[]) ∧ w' = w := by
  obtain ⟨j, hj, _⟩ := Option.map_eq_some_iff.1 bld_size
  go_enter Tryz.func208, Tryz.ntmps208
  go_wp2
  rw [Lib.run_neq_ptr_same w _ Tryz.underlying259 hj]
  go_wp2
  go_end0
  exact ⟨rfl, rfl⟩
set_option maxRecDepth 100000 in
theorem copy_fresh (b : Nat) (w : World) (h0 : w.cell? ⟨b, 0, none⟩ = some (.pointer none)) (hsh : w.shape? b = some (261, 2)) (hfz : w.frozen? ⟨b, 0, none⟩ = false) :
    Calls Tryz.prog 208 #[.pointer (some ⟨b, 0, none⟩)] w fun e w' => e = .returned (.tuple #[]) ∧ w' = w.setCell ⟨b, 0, none⟩ (.pointer (some ⟨b, 0, none⟩)) := by
  obtain ⟨j, hj, hjs⟩ := Option.map_eq_some_iff.1 bld_size
  go_enter Tryz.func208, Tryz.ntmps208
  go_wp2
  rw [Lib.run_to_unsafe w ⟨b, 0, none⟩ Tryz.underlying259 Tryz.underlying272 hj (by rw [hjs]; decide) hsh (Nat.zero_lt_succ 1)]
  simp only [Result.andThen]
  rw [Oper.upon_value]
  go_wp2
  rw [run_callFunc_extern Tryz.func213 (by kernel_rfl) (by kernel_rfl) (by kernel_rfl) (e := Extern.AbiNoEscape.same) (by kernel_rfl)]
  rw [Lib.run_noEscape]
  simp only [Result.andThen]
  rw [Oper.upon_value]
  go_wp2
  rw [Lib.run_from_unsafe w ⟨b, 0, none⟩ Tryz.underlying272 Tryz.underlying259 hj hsh bld_lies]
  simp only [Result.andThen]
  rw [Oper.upon_value]
  go_wp2
  go_end0
  exact ⟨rfl, rfl⟩
theorem copy_any (B b : Nat) (bs : List Value) (w : World) (h : Lib.IsBuilder 261 5 B b bs w) :
    Calls Tryz.prog 208 #[.pointer (some ⟨b, 0, none⟩)] w fun e w' => e = .returned (.tuple #[]) ∧ (Lib.BuilderAt 261 5 B b (.pointer (some ⟨b, 0, none⟩)) bs w' ∧ Below B w w' ∧ Lib.OthersKept 5 (some b) w w') := by
  rcases h with h | h
  · refine (copy_fresh b w h.cell0 h.shape h.frozen0).mono ?_
    rintro e w' ⟨rfl, rfl⟩
    exact ⟨rfl, h.used _, (Below.refl B w).setCell (p := ⟨b, 0, none⟩) h.1 _, (Lib.OthersKept.refl _ _ w).setCell ⟨b, 0, none⟩ rfl _⟩
  · refine (copy_used b w h.cell0).mono ?_
    rintro e w' ⟨rfl, rfl⟩
    exact ⟨rfl, h, Below.refl B _, Lib.OthersKept.refl _ _ _⟩
theorem byte_info : (Tryz.prog.info? 5).map (fun i => (i.zero, i.size, i.bytes)) = some (some (.int .u8 0), 1, 1) := by kernel_rfl
set_option maxHeartbeats 1000000 in
set_option maxRecDepth 100000 in
theorem write_any (B b : Nat) (bs : List Value) (s : ByteArray) (w : World) (h : Lib.IsBuilder 261 5 B b bs w) (hlen : bs.length + s.size ≤ 140737488355328) (hBw : B ≤ w.heap.size) :
    Calls Tryz.prog 205 #[.pointer (some ⟨b, 0, none⟩), .string s] w fun e w' => e = .returned (.tuple #[.int .i64 s.size, .nilIface]) ∧ (Lib.BuilderAt 261 5 B b (.pointer (some ⟨b, 0, none⟩)) (bs ++ Lib.strCells s) w' ∧ Below B w w' ∧ Lib.OthersKept 5 (some b) w w') := by
  obtain ⟨i0, hi, hz0, hz1, hz2⟩ := info_parts byte_info
  go_enter Tryz.func205, Tryz.ntmps205
  go_wp2_with fail
  refine (copy_any B b bs _ h).mono ?_
  rintro e w1 ⟨rfl, h1, hb1, ho1⟩
  have HO := Lib.hid ho1
  clear ho1
  obtain ⟨hB, v, hbk, hown, hne⟩ := h1
  have c0 : w1.cell? ⟨b, 0, none⟩ = some (.pointer (some ⟨b, 0, none⟩)) := by rw [Lib.cell_of_heap hbk]; rfl
  have c1 : w1.cell? ⟨b, 1, none⟩ = some v := by rw [Lib.cell_of_heap hbk]; rfl
  go_wp2_with (refine Lib.wpList_append_own_string _ rfl _ _ 23 9 rfl B 5 i0 Tryz.underlying23 Tryz.underlying9 hi hz0 hz1 hz2 _ _ _ rfl hown s rfl ?c3 ?c4 ?c5 ?_)
  case c3 => unfold maxLen; omega
  case c4 => omega
  case c5 => have := hb1.size; omega
  intro v' w2 hown' hgrow _
  have hlt : b < w1.heap.size := by
    rcases Nat.lt_or_ge b w1.heap.size with h' | h'
    · exact h'
    · simp [Array.getElem?_eq_none h'] at hbk
  have hb2 : w2.heap[b]? = some (.cells #[.pointer (some ⟨b, 0, none⟩), v] 261 (0, 0)) := by
    rw [hgrow.block b hlt (fun e => hne e.symm)]
    exact hbk
  have d0 : w2.cell? ⟨b, 0, none⟩ = some (.pointer (some ⟨b, 0, none⟩)) := by rw [Lib.cell_of_heap hb2]; rfl
  have d1 : w2.cell? ⟨b, 1, none⟩ = some v := by rw [Lib.cell_of_heap hb2]; rfl
  have f1 : w2.frozen? ⟨b, 1, none⟩ = false := Lib.frozen_of_heap hb2 1
  obtain ⟨ao, n', cap, rfl⟩ : ∃ ao n' cap, v' = .slice ao n' cap := by
    rcases hown'.2 with ⟨hv, _⟩ | ⟨g, cap, cur, hv, _⟩
    · exact ⟨_, _, _, hv⟩
    · exact ⟨_, _, _, hv⟩
  go_wp2
  go_ret2
  refine ⟨rfl, ?_, ?_, ?_⟩
  · exact Lib.BuilderAt.put (T := 261) (e := 5) hB hb2 (bs' := bs ++ Lib.strCells s) (by simpa [Lib.strCells_length] using hown') (by decide)
  · exact (hb1.grown hgrow (by have := hb1.size; omega) (fun k hk => (hown.lt k hk).1)).setCell (p := ⟨b, 1, none⟩) hB _
  · exact (HO.out.grown hgrow (Lib.ownsRowF_kind (World.ownsRowF_of hown))).setCell ⟨b, 1, none⟩ rfl _
set_option maxHeartbeats 1000000 in
set_option maxRecDepth 100000 in
theorem writeByte_any (B b : Nat) (bs : List Value) (c : Int) (w : World) (h : Lib.IsBuilder 261 5 B b bs w) (hlen : bs.length + 1 ≤ 140737488355328) (hBw : B ≤ w.heap.size) :
    Calls Tryz.prog 204 #[.pointer (some ⟨b, 0, none⟩), .int .u8 c] w fun e w' => e = .returned .nilIface ∧ (Lib.BuilderAt 261 5 B b (.pointer (some ⟨b, 0, none⟩)) (bs ++ [.int .u8 c]) w' ∧ Below B w w' ∧ Lib.OthersKept 5 (some b) w w') := by
  obtain ⟨i0, hi, hz0, hz1, hz2⟩ := info_parts byte_info
  go_enter Tryz.func204, Tryz.ntmps204
  go_wp2_with fail
  refine (copy_any B b bs _ h).mono ?_
  rintro e w1 ⟨rfl, h1, hb1, ho1⟩
  have HO := Lib.hid ho1
  clear ho1
  obtain ⟨hB, v, hbk, hown, hne⟩ := h1
  have c0 : w1.cell? ⟨b, 0, none⟩ = some (.pointer (some ⟨b, 0, none⟩)) := by rw [Lib.cell_of_heap hbk]; rfl
  have c1 : w1.cell? ⟨b, 1, none⟩ = some v := by rw [Lib.cell_of_heap hbk]; rfl
  have hlt : b < w1.heap.size := (Array.getElem?_eq_some_iff.1 hbk).1
  go_wp2_with (at_builtin; refine wpList_append_own _ rfl _ _ 23 rfl B 5 i0 (.int .u8 0) 1 1 Tryz.underlying23 hi hz0 hz1 hz2 rfl (by decide) _ _ _ rfl (hown.alloc _) ⟨w1.heap.size, 0, none⟩ 1 1 [.int .u8 c] rfl rfl ?c1 ?c2 ?c3 ?c4 ?c5 ?_)
  case c1 =>
    intro j u hj
    match j, hj with
    | 0, hj =>
      have e : u = .int .u8 c := (Option.some.inj hj).symm
      rw [e]
      exact new_cell w1 _ _ 0 _ rfl
    | j + 1, hj => cases hj
  case c2 => intro u hu; rw [List.mem_singleton] at hu; rw [hu]; rfl
  case c3 => unfold maxLen; omega
  case c4 => omega
  case c5 => have := hb1.size; simp; omega
  intro v' w2 hown' hgrow _
  have hb2 : w2.heap[b]? = some (.cells #[.pointer (some ⟨b, 0, none⟩), v] 261 (0, 0)) := by
    rw [hgrow.block b (by simp; omega) (fun e => hne e.symm), Below.heap_alloc _ _ _ hlt]
    exact hbk
  have d0 : w2.cell? ⟨b, 0, none⟩ = some (.pointer (some ⟨b, 0, none⟩)) := by rw [Lib.cell_of_heap hb2]; rfl
  have d1 : w2.cell? ⟨b, 1, none⟩ = some v := by rw [Lib.cell_of_heap hb2]; rfl
  have f1 : w2.frozen? ⟨b, 1, none⟩ = false := Lib.frozen_of_heap hb2 1
  obtain ⟨ao, n', cap, rfl⟩ : ∃ ao n' cap, v' = .slice ao n' cap := by
    rcases hown'.2 with ⟨hv, _⟩ | ⟨g, cap, cur, hv, _⟩
    · exact ⟨_, _, _, hv⟩
    · exact ⟨_, _, _, hv⟩
  go_wp2
  go_ret
  refine ⟨rfl, ?_, ?_, ?_⟩
  · exact Lib.BuilderAt.put (T := 261) (e := 5) hB hb2 (bs' := bs ++ [.int .u8 c]) (by simpa using hown') (by decide)
  · exact ((hb1.alloc (by have := hb1.size; omega) _).grown hgrow (by have := hb1.size; simp; omega) (fun k hk => (hown.lt k hk).1)).setCell (p := ⟨b, 1, none⟩) hB _
  · exact ((HO.out.alloc _).grown hgrow (Lib.ownsRowF_kind (World.ownsRowF_of (hown.alloc _)))).setCell ⟨b, 1, none⟩ rfl _
/-- A builder in block b that holds these bytes. -/
def Bld (B b : Nat) (l : List UInt8) (w : World) : Prop := Lib.IsBuilder 261 5 B b (Lib.byteCells l) w
theorem wstr (B b : Nat) (l : List UInt8) (x : ByteArray) (w : World) (h : Bld B b l w) (hlen : l.length + x.size ≤ 100000000) (hBw : B ≤ w.heap.size) :
    Calls Tryz.prog 205 #[.pointer (some ⟨b, 0, none⟩), .string x] w fun e w' => e = .returned (.tuple #[.int .i64 x.size, .nilIface]) ∧ Bld B b (l ++ x.data.toList) w' ∧ Below B w w' ∧ Lib.OthersKept 5 (some b) w w' :=
  (write_any B b _ x w h (by rw [Lib.byteCells_length]; omega) hBw).mono fun e w' ⟨he, h1, h2, h3⟩ => ⟨he, by
    unfold Bld
    have e : Lib.byteCells (l ++ x.data.toList) = Lib.byteCells l ++ Lib.strCells x := by
      unfold Lib.byteCells Lib.strCells
      rw [List.map_append]
    rw [e]
    exact Or.inr h1, h2, h3⟩
theorem wbyte (B b : Nat) (l : List UInt8) (c : UInt8) (n : Int) (hn : n = (c.toNat : Int)) (w : World) (h : Bld B b l w) (hlen : l.length + 1 ≤ 100000000) (hBw : B ≤ w.heap.size) :
    Calls Tryz.prog 204 #[.pointer (some ⟨b, 0, none⟩), .int .u8 n] w fun e w' => e = .returned .nilIface ∧ Bld B b (l ++ [c]) w' ∧ Below B w w' ∧ Lib.OthersKept 5 (some b) w w' := by
  subst hn
  refine (writeByte_any B b _ _ w h (by rw [Lib.byteCells_length]; omega) hBw).mono ?_
  rintro e w' ⟨rfl, h1, h2, h3⟩
  refine ⟨rfl, ?_, h2, h3⟩
  unfold Bld
  have e : Lib.byteCells (l ++ [c]) = Lib.byteCells l ++ [Value.int .u8 c.toNat] := by
    unfold Lib.byteCells
    rw [List.map_append]; rfl
  rw [e]
  exact Or.inr h1
theorem wdone (B b : Nat) (l : List UInt8) (w : World) (h : Bld B b l w) (hBw : B ≤ w.heap.size) :
    Calls Tryz.prog 207 #[.pointer (some ⟨b, 0, none⟩)] w fun e w' => e = .returned (.string ⟨l.toArray⟩) ∧ Below B w w' :=
  Tryz.Builder_String_any B b l w h hBw
end Go.Proofs.YtgaknbnhmoddcaaGreatDoor
namespace Go.Proofs.YtgaknbnhmoddcaaGreatDoor
open Go.RowKit
theorem rd_json (l : List UInt8) : rdJ l = jsonT l := by
  unfold rdJ jsonT chkE
  by_cases h1 : 16384 < l.length
  · simp [h1]
  · cases h2 : Lib.validD l <;> simp [h1]
theorem pread_wide (s : ByteArray) (hs : s.size ≤ 1000000) (r : List UInt8) (hq : s.data.toList = 34 :: r) (w : World) (hE : EnvU w) :
    Calls Tryz.prog 206 #[.string s] w fun x w' => PReadE (w.heap.size + 1) (jsonT s.data.toList) x w' ∧ Below w.heap.size w w' := by
  rw [← rd_json]
  exact qread_any s hs r hq w hE
/-- What a reader tells: kind, text, how many bytes. -/
def tellX (k : UInt8) (o : Option (List UInt8 × Nat)) : Value := match o with
  | some (a, n) => .tuple #[tokV k a 0, .int .i64 (n : Int)]
  | none => .tuple #[tokV 0 [] 0, .int .i64 0]
/-- While a text is read: the token's cells, the builder. -/
structure TX (w : World) (pre : List UInt8) (W : World) : Prop where
  ht : W.heap[w.heap.size + 1]? = some (.cells #[.int .u8 0, .string ⟨#[]⟩, .int .i64 0] 72 (0, 0))
  hb : Bld (w.heap.size + 2) (w.heap.size + 2) pre W
  bel : Below w.heap.size w W
  sz : w.heap.size + 2 ≤ W.heap.size
theorem TX.step {w W W' : World} {pre pre' : List UInt8} (h : TX w pre W) (hb : Bld (w.heap.size + 2) (w.heap.size + 2) pre' W') (h1 : Below (w.heap.size + 2) W W') : TX w pre' W' :=
  ⟨(h1.block _ (by omega)).trans h.ht, hb, h.bel.trans (h1.mono (by omega)), Nat.le_trans h.sz h1.size⟩
theorem TX.start (w : World) : TX w [] (((w.alloc (.cells #[] 99)).alloc (.cells #[.int .u8 0, .string ⟨#[]⟩, .int .i64 0] 72)).alloc (.cells #[.pointer none, .slice none 0 0] 261)) := by
  refine ⟨?_, ?_, ?_, by simp⟩
  · exact heap_old (heap_new _ _ _ (by simp))
  · exact Or.inl ⟨by omega, .slice none 0 0, heap_new _ _ _ (by simp), World.ownsRow_nil _ _ _ _, by simp [Value.ownBlock]⟩
  · exact (((Below.refl _ _).alloc (Nat.le_refl _) _).alloc (by simp) _).alloc (by simp; omega) _
theorem TX.byte {w W : World} {pre : List UInt8} (h : TX w pre W) (hl : pre.length ≤ 90000000) (c : UInt8) : Calls Tryz.prog 204 #[.pointer (some ⟨w.heap.size + 1 + 1, 0, none⟩), .int .u8 (c.toNat : Int)] W fun e w' => e = .returned .nilIface ∧ TX w (pre ++ [c]) w' :=
  (wbyte (w.heap.size + 2) (w.heap.size + 2) pre c _ rfl W h.hb (by omega) h.sz).mono fun e w' ⟨h1, h2, h3, h4⟩ => ⟨h1, h.step h2 h3⟩
theorem TX.byteN {w W : World} {pre : List UInt8} (h : TX w pre W) (hl : pre.length ≤ 90000000) (c : UInt8) (n : Int) (hn : n = (c.toNat : Int)) : Calls Tryz.prog 204 #[.pointer (some ⟨w.heap.size + 1 + 1, 0, none⟩), .int .u8 n] W fun e w' => e = .returned .nilIface ∧ TX w (pre ++ [c]) w' := by subst hn; exact h.byte hl c
theorem u8_not (a b : UInt8) (h : a ≠ b) : ¬ ((b.toNat : Int) = (a.toNat : Int)) := fun e => h (by
  have e2 : a.toNat = b.toNat := by omega
  rw [← UInt8.ofNat_toNat (x := a), ← UInt8.ofNat_toNat (x := b), e2])
theorem TX.str {w W : World} {pre : List UInt8} (h : TX w pre W) (hl : pre.length ≤ 90000000) (x : ByteArray) (hx : x.size ≤ 1000000) : Calls Tryz.prog 205 #[.pointer (some ⟨w.heap.size + 1 + 1, 0, none⟩), .string x] W fun e w' => (e = .returned (.tuple #[.int .i64 x.size, .nilIface])) ∧ TX w (pre ++ x.data.toList) w' :=
  (wstr (w.heap.size + 2) (w.heap.size + 2) pre x W h.hb (by omega) h.sz).mono fun e w' ⟨h1, h2, h3, h4⟩ => ⟨h1, h.step h2 h3⟩
/-- The token's cells, and nothing older has turned. -/
structure TZ (w : World) (A : Array Value) (W : World) : Prop where
  ht : W.heap[w.heap.size + 1]? = some (.cells A 72 (0, 0))
  bel : Below w.heap.size w W
theorem TZ.step {w W W' : World} {A : Array Value} (h : TZ w A W) (hb : Below W.heap.size W W') : TZ w A W' := ⟨(hb.block _ (heap_lt h.ht)).trans h.ht, h.bel.trans (hb.mono h.bel.size)⟩
theorem TX.done {w W : World} {pre : List UInt8} (h : TX w pre W) : Calls Tryz.prog 207 #[.pointer (some ⟨w.heap.size + 1 + 1, 0, none⟩)] W fun e w' => e = .returned (.string ⟨pre.toArray⟩) ∧ TZ w #[.int .u8 0, .string ⟨#[]⟩, .int .i64 0] w' :=
  (wdone (w.heap.size + 2) (w.heap.size + 2) pre W h.hb h.sz).mono fun e w' ⟨h1, h2⟩ => ⟨h1, (h2.block _ (by omega)).trans h.ht, h.bel.trans (h2.mono (by omega))⟩
theorem cel_head {B : Nat} {u : Value} {c : Cel} {W : World} (h : OwnC B u [c] W) : ∃ b off cap, u = .slice (some ⟨b, off, none⟩) 1 cap ∧ W.cell? ⟨b, off + 2, none⟩ = some (.string ⟨c.text.toArray⟩) := by
  rcases h.sl with ⟨a, cap, h1, h2, _⟩ | ⟨b, off, cap, h1, h2, _⟩
  · cases h2
  · exact ⟨b, off, cap, h1, by have := (h2 0 (by simp)).2.2.1; simpa using this⟩
set_option maxRecDepth 100000 in
theorem txt_no (s : ByteArray) (h0 : 0 < s.size) (hs : s.size ≤ 17000) (hq : s[0] ≠ 34) (w : World) :
    Calls Tryz.prog 203 #[.agg #[], .string s] w fun e w' => e = .returned (tellX 3 none) ∧ Below w.heap.size w w' := by
  have hq2 : ¬ ((s[0].toNat : Int) = 34) := fun e => hq (by
    rw [← UInt8.ofNat_toNat (x := s[0]), show s[0].toNat = 34 from by omega]; rfl)
  obtain ⟨V, hV⟩ : ∃ V, tellX 3 none = V := ⟨_, rfl⟩
  rw [hV]
  have HV := Lib.hid hV
  clear hV hq
  go_enter Tryz.func203, Tryz.ntmps203
  go_wp2_with fail
  obtain ⟨⟨c0, c1, c2⟩, ⟨g0, g1, g2⟩, hz⟩ := tcellsL (cells_new w (.cells #[] 99) (.int .u8 0) (.string ⟨#[]⟩) (.int .i64 0))
  refine bodyPost_ret (v := .tuple #[.agg #[(.int .u8 0), .string ⟨#[]⟩, .int .i64 0], .int .i64 0]) (by simp [results, Tryz.results203, go_sem, *]) rfl ⟨by rw [← HV.out]; rfl, ((Below.refl _ _).alloc (Nat.le_refl _) _).alloc (by simp) _⟩
set_option maxRecDepth 100000 in
theorem txt_three_ (s : ByteArray) (h0 : 0 < s.size) (hs : s.size ≤ 17000) (hq : ((s[0].toNat : Nat) : Int) = 34)
    (HP : Hid (∀ w, Calls Tryz.prog 77 #[.string s, .string ⟨#[34, 34, 34]⟩] w fun e w' => e = .returned (.bool true) ∧ w = w')) (w : World) :
    Calls Tryz.prog 203 #[.agg #[], .string s] w fun e w' => e = .returned (tellX 3 none) ∧ Below w.heap.size w w' := by
  obtain ⟨V, hV⟩ : ∃ V, tellX 3 none = V := ⟨_, rfl⟩
  rw [hV]
  have HV := Lib.hid hV
  clear hV
  go_enter Tryz.func203, Tryz.ntmps203
  go_wp2_with fail
  refine (HP.out _).mono ?_; rintro e w1 ⟨rfl, rfl⟩
  go_wp2_with fail
  obtain ⟨⟨c0, c1, c2⟩, ⟨g0, g1, g2⟩, hz⟩ := tcellsL (cells_new w (.cells #[] 99) (.int .u8 0) (.string ⟨#[]⟩) (.int .i64 0))
  refine bodyPost_ret (v := .tuple #[.agg #[(.int .u8 0), .string ⟨#[]⟩, .int .i64 0], .int .i64 0]) (by simp [results, Tryz.results203, go_sem, *]) rfl ⟨by rw [← HV.out]; rfl, ((Below.refl _ _).alloc (Nat.le_refl _) _).alloc (by simp) _⟩
set_option maxRecDepth 100000 in
set_option maxHeartbeats 4000000 in
theorem txt_go (s : ByteArray) (h0 : 0 < s.size) (hs : s.size ≤ 17000) (hq : ((s[0].toNat : Nat) : Int) = 34) (r : List UInt8) (hr : Hid (s.data.toList = 34 :: r))
    (HP : Hid (∀ w, Calls Tryz.prog 77 #[.string s, .string ⟨#[34, 34, 34]⟩] w fun e w' => e = .returned (.bool false) ∧ w = w'))
    (V : Value) (HN : Hid (scanT false r = none → V = tellX 3 none)) (HY : Hid (∀ b n e, scanT false r = some (b, n) → jsonT (34 :: (b ++ [34])) = .error e → V = tellX 3 none))
    (HO : Hid (∀ b n v, scanT false r = some (b, n) → jsonT (34 :: (b ++ [34])) = .ok v → V = tellX 3 (some ((v.headD ⟨0, [], [], 0, 0⟩).text, n + 1))))
    (w : World) (hE : EnvU w) :
    Calls Tryz.prog 203 #[.agg #[], .string s] w fun e w' => e = .returned V ∧ Below w.heap.size w w' := by
  have HE := Lib.hid (fun (js : ByteArray) (hj : js.size ≤ 1000000) (rr : List UInt8) (hq : js.data.toList = 34 :: rr) (W : World) (h : Below w.heap.size w W) => pread_wide js hj rr hq W (hE.below h))
  clear hE
  have hst := TX.start w
  have HB0 := Lib.hid (hst.byte (by simp) 34)
  have hs34 : ((34 : UInt8).toNat : Int) = 34 := rfl
  rw [hs34] at HB0
  have HT := Lib.hid hst
  clear hst hs34
  go_enter Tryz.func203, Tryz.ntmps203
  go_wp2_with fail
  refine (HP.out _).mono ?_; rintro e w1 ⟨rfl, rfl⟩
  go_wp2_with fail
  refine HB0.out.mono ?_; rintro e w1 ⟨rfl, hx⟩
  have HX1 := Lib.hid hx
  clear hx
  go_wp2_with fail
  go_loopg [7, 8] (s.size - 1) (fun g vi vq wx => ∃ (k : Nat) (q : Bool) (pre : List UInt8), vi = .int .i64 k ∧ vq = .bool q ∧ k + g = s.size ∧ 1 ≤ k ∧ pre.length ≤ 2 * k ∧ Hid (Sc r pre q (s.data.toList.drop k) (k - 1)) ∧ Hid (TX w (34 :: pre) wx))
  case atStart => exact ⟨1, false, [], rfl, rfl, by omega, Nat.le_refl _, by simp, Lib.hid (by rw [hr.out]; exact Sc.start r), HX1⟩
  case round =>
    rename World => wo
    obtain ⟨k, q, pre, rfl, rfl, hkg, hk1, hpl, HS, HX⟩ := hrel
    by_cases hlt : k < s.size
    · have hda := drop_at s k hlt
      obtain ⟨c, hc⟩ : ∃ c : UInt8, s[k] = c := ⟨_, rfl⟩
      rw [hc] at hda
      have HS2 : Hid (Sc r pre q (c :: s.data.toList.drop (k + 1)) (k - 1)) := Lib.hid (by rw [← hda]; exact HS.out)
      clear hda HS
      have hkk : k - 1 + 1 = k := by omega
      have HW := Lib.hid HX.out.bel
      cases q with
      | true =>
        have SC2 : Hid (Sc r (pre ++ [c]) false (s.data.toList.drop (k + 1)) (k + 1 - 1)) := Lib.hid (by
          have := HS2.out.step (by rfl)
          rw [hkk, show (c == 9 && !true) = false from by simp] at this
          exact this)
        by_cases h9 : c = 9
        · subst h9
          have HC := Lib.hid (HX.out.byteN (by simp; omega) 9 9 rfl)
          obtain ⟨g, rfl⟩ : ∃ g, gk = g + 1 := ⟨gk - 1, by omega⟩
          clear hkk
          go_wp2_with fail
          ((with_reducible refine HC.out.mono ?_); rintro e w2 ⟨rfl, hx⟩)
          have HX2 := Lib.hid hx
          clear hx
          go_wp2_with fail
          go_roundg g
          case measure => omega
          case rel => exact ⟨k + 1, false, pre ++ [9], by go_num, rfl, by omega, by omega, by rw [List.length_append]; simp; omega, SC2, HX2⟩
        · have h9i : ¬ ((c.toNat : Int) = 9) := u8_not 9 c (fun e => h9 e.symm)
          have HC := Lib.hid (HX.out.byte (by simp; omega) c)
          obtain ⟨g, rfl⟩ : ∃ g, gk = g + 1 := ⟨gk - 1, by omega⟩
          clear hkk
          go_wp2_with fail
          ((with_reducible refine HC.out.mono ?_); rintro e w2 ⟨rfl, hx⟩)
          have HX2 := Lib.hid hx
          clear hx
          go_wp2_with fail
          go_roundg g
          case measure => omega
          case rel => exact ⟨k + 1, false, pre ++ [c], by go_num, rfl, by omega, by omega, by rw [List.length_append]; simp; omega, SC2, HX2⟩
      | false =>
        by_cases h34 : c = 34
        · subst h34
          have hsc := HS2.out.stop
          rw [hkk] at hsc
          have HSC := Lib.hid hsc
          clear hsc
          have h34i : ((s[k].toNat : Nat) : Int) = 34 := by rw [hc]; rfl
          clear hc
          have hke : ¬ ((k : Int) = (s.size : Int)) := by omega
          have HD := Lib.hid HX.out.done
          obtain ⟨js, hjs⟩ : ∃ js : ByteArray, (⟨(34 :: pre).toArray⟩ : ByteArray) ++ ⟨#[34]⟩ = js := ⟨_, rfl⟩
          have hjl : js.data.toList = 34 :: (pre ++ [34]) := by rw [← hjs]; simp
          have hjz : js.size ≤ 1000000 := by
            have := len_z js
            rw [hjl] at this; simp at this; omega
          have HJ := Lib.hid (HE.out js hjz _ hjl)
          rw [hjl] at HJ
          obtain ⟨pp, hpp⟩ : ∃ pp : ByteArray, (⟨(34 :: pre).toArray⟩ : ByteArray) = pp := ⟨_, rfl⟩
          rw [hpp] at HD hjs
          have hpz : pp.size ≤ 1000000 := by rw [← hpp]; show (34 :: pre).toArray.size ≤ 1000000; simp; omega
          clear hpp hjl
          cases hj : jsonT (34 :: (pre ++ [34])) with
          | error e =>
            have HV := Lib.hid (HY.out pre k e HSC.out hj)
            have he0 : ¬ e = 0 := by rw [← rd_json] at hj; exact rdJ_err _ _ hj
            rw [hj] at HJ
            clear hj
            go_wp2_with fail
            refine HD.out.mono ?_; rintro x w2 ⟨rfl, hz⟩
            have HZ := Lib.hid hz
            clear hz
            go_wp2_with fail
            refine (HJ.out _ HZ.out.bel).mono ?_; rintro x w3 ⟨hx, hb⟩
            have hx : x = .returned (.tuple #[.slice none 0 0, .int .i64 e]) := hx
            subst hx
            have HZ3 := Lib.hid (HZ.out.step hb)
            clear hb
            obtain ⟨⟨c0, c1, c2⟩, ⟨g0, g1, g2⟩, hz⟩ := tcellsL HZ3.out.ht
            have s0 := pset (i := 0) HZ3.out.ht (.int .u8 0) rfl
            have s1 := pset (i := 1) s0 (.string ⟨#[]⟩) rfl
            have s2 := pset (i := 2) s1 (.int .i64 0) rfl
            have HT3 := Lib.hid s2
            have HB3 := Lib.hid (((HZ3.out.bel.setCell (p := ⟨w.heap.size + 1, 0, none⟩) (Nat.le_succ _) (.int .u8 0)).setCell (p := ⟨w.heap.size + 1, 1, none⟩) (Nat.le_succ _) (.string ⟨#[]⟩)).setCell (p := ⟨w.heap.size + 1, 2, none⟩) (Nat.le_succ _) (.int .i64 0))
            clear s0 s1 s2
            go_wp2_with fail
            clear c0 c1 c2 g0 g1 g2 hz
            obtain ⟨⟨c0, c1, c2⟩, ⟨g0, g1, g2⟩, hz⟩ := tcellsL HT3.out
            refine bodyPost_ret (v := .tuple #[.agg #[.int .u8 0, .string ⟨#[]⟩, .int .i64 0], .int .i64 0]) (by simp [results, Tryz.results203, go_sem, *]) rfl ⟨by rw [HV.out]; rfl, HB3.out⟩
          | ok v =>
            have HV := Lib.hid (HO.out pre k v HSC.out hj)
            obtain ⟨x, hv, hvx, _⟩ := json_quote_ok _ _ hj
            rw [hj] at HJ
            rw [hv] at HV HJ
            clear hj hv hvx
            go_wp2_with fail
            refine HD.out.mono ?_; rintro x1 w2 ⟨rfl, hz⟩
            have HZ := Lib.hid hz
            clear hz
            go_wp2_with fail
            refine (HJ.out _ HZ.out.bel).mono ?_; rintro x2 w3 ⟨hx, hb⟩
            obtain ⟨_, u, hx, hu⟩ := (show _ ∧ ∃ u, x2 = .returned (.tuple #[u, .int .i64 0]) ∧ OwnC (w2.heap.size + 1) u [⟨3, [], x, 0, 0⟩] w3 from hx)
            subst hx
            obtain ⟨b, off, cap, rfl, hcx⟩ := cel_head hu
            clear hu
            have HZ3 := Lib.hid (HZ.out.step hb)
            clear hb
            obtain ⟨xs, hxs⟩ : ∃ xs : ByteArray, (⟨x.toArray⟩ : ByteArray) = xs := ⟨_, rfl⟩
            rw [show (⟨(⟨3, [], x, 0, 0⟩ : Cel).text.toArray⟩ : ByteArray) = xs from hxs] at hcx
            have HXS := Lib.hid hxs
            clear hxs
            obtain ⟨⟨c0, c1, c2⟩, ⟨g0, g1, g2⟩, hz⟩ := tcellsL HZ3.out.ht
            have s0 := pset (i := 0) HZ3.out.ht (.int .u8 3) rfl
            have s1 := pset (i := 1) s0 (.string xs) rfl
            have s2 := pset (i := 2) s1 (.int .i64 0) rfl
            have HT3 := Lib.hid s2
            have HB3 := Lib.hid (((HZ3.out.bel.setCell (p := ⟨w.heap.size + 1, 0, none⟩) (Nat.le_succ _) (.int .u8 3)).setCell (p := ⟨w.heap.size + 1, 1, none⟩) (Nat.le_succ _) (.string xs)).setCell (p := ⟨w.heap.size + 1, 2, none⟩) (Nat.le_succ _) (.int .i64 0))
            clear s0 s1 s2
            go_wp2_with fail
            clear c0 c1 c2 g0 g1 g2 hz
            obtain ⟨⟨c0, c1, c2⟩, ⟨g0, g1, g2⟩, hz⟩ := tcellsL HT3.out
            refine bodyPost_ret (v := .tuple #[.agg #[.int .u8 3, .string xs, .int .i64 0], .int .i64 ((k : Int) + 1)]) (by simp [results, Tryz.results203, go_sem, *]) rfl ⟨by rw [HV.out, ← HXS.out]; rfl, HB3.out⟩
        · have h34i : ¬ ((c.toNat : Int) = 34) := u8_not 34 c (fun e => h34 e.symm)
          by_cases h9 : c = 9
          · subst h9
            have SC2 : Hid (Sc r (pre ++ [92, 116]) false (s.data.toList.drop (k + 1)) (k + 1 - 1)) := Lib.hid (by
              have := HS2.out.step (by rfl)
              rw [hkk] at this
              exact this)
            have HC := Lib.hid (HX.out.str (by simp; omega) ⟨#[92, 116]⟩ (by decide))
            obtain ⟨g, rfl⟩ : ∃ g, gk = g + 1 := ⟨gk - 1, by omega⟩
            clear hkk
            go_wp2_with fail
            ((with_reducible refine HC.out.mono ?_); rintro e w2 ⟨rfl, hx⟩)
            have HX2 := Lib.hid hx
            clear hx
            go_wp2_with fail
            go_roundg g
            case measure => omega
            case rel => exact ⟨k + 1, false, pre ++ [92, 116], by go_num, rfl, by omega, by omega, by rw [List.length_append]; simp; omega, SC2, HX2⟩
          · have h9i : ¬ ((c.toNat : Int) = 9) := u8_not 9 c (fun e => h9 e.symm)
            by_cases h92 : c = 92
            · subst h92
              have SC2 : Hid (Sc r (pre ++ [92]) true (s.data.toList.drop (k + 1)) (k + 1 - 1)) := Lib.hid (by
                have := HS2.out.step (by rfl)
                rw [hkk] at this
                exact this)
              have HC := Lib.hid (HX.out.byteN (by simp; omega) 92 92 rfl)
              obtain ⟨g, rfl⟩ : ∃ g, gk = g + 1 := ⟨gk - 1, by omega⟩
              clear hkk
              go_wp2_with fail
              ((with_reducible refine HC.out.mono ?_); rintro e w2 ⟨rfl, hx⟩)
              have HX2 := Lib.hid hx
              clear hx
              go_wp2_with fail
              go_roundg g
              case measure => omega
              case rel => exact ⟨k + 1, true, pre ++ [92], by go_num, rfl, by omega, by omega, by rw [List.length_append]; simp; omega, SC2, HX2⟩
            · have h92i : ((c.toNat : Int) == 92) = false := beq_eq_false_iff_ne.2 (u8_not 92 c (fun e => h92 e.symm))
              have SC2 : Hid (Sc r (pre ++ [c]) false (s.data.toList.drop (k + 1)) (k + 1 - 1)) := Lib.hid (by
                have := HS2.out.step (by simp [h34])
                rw [hkk, show (c == 9 && !false) = false from by simp [h9], show (!false && c == 92) = false from by simp [h92]] at this
                exact this)
              have HC := Lib.hid (HX.out.byte (by simp; omega) c)
              obtain ⟨g, rfl⟩ : ∃ g, gk = g + 1 := ⟨gk - 1, by omega⟩
              clear hkk
              go_wp2_with fail
              ((with_reducible refine HC.out.mono ?_); rintro e w2 ⟨rfl, hx⟩)
              have HX2 := Lib.hid hx
              clear hx
              go_wp2_with fail
              go_roundg g
              case measure => omega
              case rel => exact ⟨k + 1, false, pre ++ [c], by go_num, rfl, by omega, by omega, by rw [List.length_append]; simp; omega, SC2, HX2⟩
    · obtain rfl : k = s.size := by omega
      have hsn : scanT false r = none := by
        have := HS.out
        rw [List.drop_of_length_le (by rw [len_z]; exact Nat.le_refl _)] at this
        exact this.none
      have HV := Lib.hid (HN.out hsn)
      have HZ3 : Hid (TZ w #[.int .u8 0, .string ⟨#[]⟩, .int .i64 0] wo) := Lib.hid ⟨HX.out.ht, HX.out.bel⟩
      clear hsn
      obtain ⟨⟨c0, c1, c2⟩, ⟨g0, g1, g2⟩, hz⟩ := tcellsL HZ3.out.ht
      have s0 := pset (i := 0) HZ3.out.ht (.int .u8 0) rfl
      have s1 := pset (i := 1) s0 (.string ⟨#[]⟩) rfl
      have s2 := pset (i := 2) s1 (.int .i64 0) rfl
      have HT3 := Lib.hid s2
      have HB3 := Lib.hid (((HZ3.out.bel.setCell (p := ⟨w.heap.size + 1, 0, none⟩) (Nat.le_succ _) (.int .u8 0)).setCell (p := ⟨w.heap.size + 1, 1, none⟩) (Nat.le_succ _) (.string ⟨#[]⟩)).setCell (p := ⟨w.heap.size + 1, 2, none⟩) (Nat.le_succ _) (.int .i64 0))
      clear s0 s1 s2
      go_wp2_with fail
      clear c0 c1 c2 g0 g1 g2 hz
      obtain ⟨⟨c0, c1, c2⟩, ⟨g0, g1, g2⟩, hz⟩ := tcellsL HT3.out
      refine bodyPost_ret (v := .tuple #[.agg #[.int .u8 0, .string ⟨#[]⟩, .int .i64 0], .int .i64 0]) (by simp [results, Tryz.results203, go_sem, *]) rfl ⟨by rw [HV.out]; rfl, HB3.out⟩
theorem tread_any (s : ByteArray) (h0 : 0 < s.size) (hs : s.size ≤ 17000) (w : World) (hE : EnvU w) :
    Calls Tryz.prog 203 #[.agg #[], .string s] w fun e w' => e = .returned (tellX 3 (txtT s.data.toList)) ∧ Below w.heap.size w w' := by
  have hd := head_z s h0
  obtain ⟨r, hr⟩ : ∃ r, s.data.toList.drop 1 = r := ⟨_, rfl⟩
  rw [hr] at hd
  by_cases hq : s[0] = 34
  · rw [hq] at hd
    have hqi : ((s[0].toNat : Nat) : Int) = 34 := by rw [hq]; rfl
    have HP := fun w => Tryz.strings_HasPrefix s ⟨#[34, 34, 34]⟩ w
    cases hp : Lib.hasPrefix s.data.toList (⟨#[34, 34, 34]⟩ : ByteArray).data.toList with
    | true =>
      rw [hp] at HP
      rw [hd, txt_three 34 r (by rw [← hd]; exact hp)]
      exact txt_three_ s h0 hs hqi (Lib.hid fun w => (HP w).mono fun e w' ⟨h1, h2⟩ => ⟨h1, h2.symm⟩) w
    | false =>
      rw [hp] at HP
      have hp2 : [34, 34, 34].isPrefixOf (34 :: r) = false := by rw [← hd]; exact hp
      rw [hd]
      exact txt_go s h0 hs hqi r (Lib.hid hd) (Lib.hid fun w => (HP w).mono fun e w' ⟨h1, h2⟩ => ⟨h1, h2.symm⟩) _ (Lib.hid fun h => by rw [txt_open r hp2 h]) (Lib.hid fun b n e h1 h2 => by rw [txt_bad r b n e hp2 h1 h2]) (Lib.hid fun b n v h1 h2 => by rw [txt_good r b n v hp2 h1 h2]) w hE
  · rw [hd, txt_quote _ r hq]
    exact txt_no s h0 hs hq w
end Go.Proofs.YtgaknbnhmoddcaaGreatDoor
namespace Go.Proofs.YtgaknbnhmoddcaaGreatDoor
open Go.RowKit
theorem tok_info : (Tryz.prog.info? 72).map (fun i => (i.zero, i.size, i.bytes)) = some (some (.agg #[.int .u8 0, .string ⟨#[]⟩, .int .i64 0]), 3, 32) := by kernel_rfl
def tokCells : List Tok → List Value
  | [] => []
  | t :: r => .int .u8 (t.kind.toNat : Int) :: .string ⟨t.text.toArray⟩ :: .int .i64 t.pos :: tokCells r
theorem tokCells_len : ∀ L : List Tok, (tokCells L).length = L.length * 3
  | [] => rfl
  | t :: r => by rw [tokCells]; simp [tokCells_len r]; omega
theorem tokCells_app : ∀ L M : List Tok, tokCells (L ++ M) = tokCells L ++ tokCells M
  | [], _ => rfl
  | t :: r, M => by rw [List.cons_append, tokCells, tokCells_app r M, tokCells]; rfl
theorem tokCells_one : ∀ L : List Tok, ∀ u ∈ tokCells L, u.oneCell' = true
  | [], u, h => by cases h
  | t :: r, u, h => by
    rw [tokCells] at h
    rcases List.mem_cons.1 h with h | h
    · rw [h]; rfl
    rcases List.mem_cons.1 h with h | h
    · rw [h]; rfl
    rcases List.mem_cons.1 h with h | h
    · rw [h]; rfl
    · exact tokCells_one r u h
theorem tokCells_get : ∀ (L : List Tok) (k : Nat) (h : k < L.length), (tokCells L)[k * 3]? = some (.int .u8 (L[k].kind.toNat : Int)) ∧ (tokCells L)[k * 3 + 1]? = some (.string ⟨L[k].text.toArray⟩) ∧ (tokCells L)[k * 3 + 2]? = some (.int .i64 L[k].pos)
  | [], k, h => by simp at h
  | t :: r, 0, h => by simp [tokCells]
  | t :: r, k + 1, h => by
    have ih := tokCells_get r k (by simpa using h)
    rw [show (k + 1) * 3 = k * 3 + 1 + 1 + 1 from by omega, show k * 3 + 1 + 1 + 1 + 1 = k * 3 + 1 + 1 + 1 + 1 from rfl]
    simp only [tokCells, List.getElem?_cons_succ, List.getElem_cons_succ]
    exact ih
theorem row_cells : ∀ (L : List Tok) (b off : Nat) (w : World), TokRow b off L w → ∀ j u, (tokCells L)[j]? = some u → w.cell? ⟨b, off + j, none⟩ = some u
  | [], b, off, w, h, j, u, hu => by simp [tokCells] at hu
  | t :: r, b, off, w, h, j, u, hu => by
    obtain ⟨c0, c1, c2⟩ := h 0 (by simp)
    rw [tokCells] at hu
    match j, hu with
    | 0, hu => rw [← hu]; simpa using c0
    | 1, hu => rw [← hu]; simpa using c1
    | 2, hu => rw [← hu]; simpa using c2
    | j + 3, hu =>
      have ht : TokRow b (off + 3) r w := by
        intro k hk
        have := h (k + 1) (by simpa using hk)
        rw [show off + (k + 1) * 3 = off + 3 + k * 3 from by omega] at this
        exact this
      have := row_cells r b (off + 3) w ht j u (by simpa using hu)
      rw [show off + (j + 3) = off + 3 + j from by omega]
      exact this
theorem addr_addT (b o j : Nat) : (⟨b, o, none⟩ : Addr).add j = ⟨b, o + j, none⟩ := by
  unfold Addr.add
  split
  · rename_i hz; rw [hz]; rfl
  · rfl
/-- A slice of tokens of the call's own. -/
def OwnT (B : Nat) (v : Value) (L : List Tok) (W : World) : Prop := W.ownsRow B 72 3 v L.length (tokCells L)
theorem OwnT.nil (B : Nat) (W : World) : OwnT B (.slice none 0 0) [] W := World.ownsRow_nil W B 72 3
theorem OwnT.below {B : Nat} {v : Value} {l : List Tok} {w w' : World} (h : OwnT B v l w) (hb : Below w.heap.size w w') : OwnT B v l w' := by
  obtain ⟨h1, h2⟩ := h
  refine ⟨h1, ?_⟩
  rcases h2 with h2 | ⟨g, cap, cur, hv, hB, hg, hrest⟩
  · exact Or.inl h2
  · have hlt : g < w.heap.size := (Array.getElem?_eq_some_iff.1 hg).1
    exact Or.inr ⟨g, cap, cur, hv, hB, (hb.block g hlt).trans hg, hrest⟩
theorem OwnT.alloc {B : Nat} {v : Value} {l : List Tok} {w : World} (h : OwnT B v l w) (o : Obj) : OwnT B v l (w.alloc o) := World.ownsRow.alloc h o
theorem OwnT.lt {B : Nat} {v : Value} {l : List Tok} {w : World} (h : OwnT B v l w) : ∀ k, v.ownBlock = some k → B ≤ k := fun k hk => (World.ownsRow.lt h k hk).1
theorem OwnT.sl {B : Nat} {v : Value} {L : List Tok} {w : World} (h : OwnT B v L w) : TokSl v L w := by
  obtain ⟨h1, h2⟩ := h
  rcases h2 with ⟨rfl, h2⟩ | ⟨g, cap, cur, rfl, hB, hg, hn, hc, hcs, ht⟩
  · exact Or.inl ⟨_, _, rfl, List.eq_nil_of_length_eq_zero h2, fun _ => rfl⟩
  · refine Or.inr ⟨g, 0, cap, rfl, ?_⟩
    intro k hk
    obtain ⟨g0, g1, g2⟩ := tokCells_get L k hk
    have F : ∀ j u, (tokCells L)[j]? = some u → w.cell? ⟨g, 0 + j, none⟩ = some u := by
      intro j u hj
      have hjl : j < L.length * 3 := by rw [← tokCells_len]; exact (List.getElem?_eq_some_iff.1 hj).1
      rw [← ht, List.getElem?_take, if_pos hjl] at hj
      rw [Nat.zero_add]
      refine (Lib.cell_of_heap hg j).trans ?_
      simpa using hj
    exact ⟨F _ _ g0, F _ _ g1, F _ _ g2⟩
/-- 'append(v, u..)' of tokens that stand in a row. -/
theorem wpList_appT {ops : Array Oper} {rest : List Oper} {o : Oper} {a : Act} {Q : Exit → Act → World → Prop} {w : World} (hgd : o.guard = none) (s x : Operand)
    (ho : o.op = .call { callee := .builtin .append, args := #[s, x], argTypes := #[32, 32] }) (B : Nat) (v u : Value) (L M : List Tok) (hs : a.eval s = v) (hown : OwnT B v L w)
    (hx : a.eval x = u) (hu : TokSl u M w) (hlen : L.length + M.length ≤ 1000000) (hB : B ≤ w.heap.size)
    (h : ∀ v' w', OwnT B v' (L ++ M) w' → w.grownBy w' v.ownBlock → wpList Tryz.prog ops Q rest (a.put o.dst v') w') : wpList Tryz.prog ops Q (o :: rest) a w := by
  obtain ⟨i0, hi, hz0, hz1, hz2⟩ := info_parts tok_info
  have fin : ∀ (ad : Addr) (c : Nat), u = .slice (some ad) M.length c → (∀ j q, (tokCells M)[j]? = some q → w.cell? (ad.add j) = some q) → wpList Tryz.prog ops Q (o :: rest) a w := by
    intro ad c hu2 hcells
    refine wpList_append_own w hgd s x 32 ho B 72 i0 (.agg #[.int .u8 0, .string ⟨#[]⟩, .int .i64 0]) 3 32 Tryz.underlying32 hi hz0 hz1 hz2 rfl (by decide) v L.length (tokCells L) hs hown ad M.length c (tokCells M) (hx.trans hu2) (tokCells_len M) hcells (tokCells_one M) (by unfold maxLen; omega) (by omega) hB ?_
    intro v' w' h1 h2 _
    refine h v' w' ?_ h2
    unfold OwnT
    rw [List.length_append, tokCells_app]
    exact h1
  rcases hu with ⟨ua, uc, hu2, rfl, hcap⟩ | ⟨b, off, cap, hu2, hr⟩
  · rcases ua with _ | ad
    · refine wpList_append_own_none hgd s x 32 ho B 72 i0 3 Tryz.underlying32 hi v L.length (tokCells L) hs hown (by rw [hx, hu2, hcap rfl]) ?_
      have := h v w (by rw [List.append_nil]; exact hown) (World.grownBy.refl w _)
      exact this
    · exact fin ad uc hu2 (fun j q hq => by simp [tokCells] at hq)
  · exact fin ⟨b, off, none⟩ cap hu2 (fun j q hq => by rw [addr_addT]; exact row_cells M b off w hr j q hq)
end Go.Proofs.YtgaknbnhmoddcaaGreatDoor
namespace Go.Proofs.YtgaknbnhmoddcaaGreatDoor
open Go.RowKit
set_option maxRecDepth 100000 in
theorem add_any (F f : Nat) (hf : f ≤ 100000) (W : World) (hh : W.heap[F]? = some (.cells #[.int .i32 (f : Int)] 96 (0, 0))) :
    Calls Tryz.prog 51 #[.pointer (some ⟨F, 0, none⟩), .int .i32 1] W fun e w' => e = .returned (.int .i32 ((f : Int) + 1)) ∧ w' = W.setCell ⟨F, 0, none⟩ (.int .i32 ((f : Int) + 1)) := by
  have hc : W.cell? ⟨F, 0, none⟩ = some (.int .i32 (f : Int)) := by rw [Lib.cell_of_heap hh]; rfl
  have hz : W.frozen? ⟨F, 0, none⟩ = false := Lib.frozen_of_heap hh 0
  have hw : IntKind.i32.wrap ((f : Int) + 1) = (f : Int) + 1 := by
    rw [IntKind.wrap_i32]; omega
  have hadd := run_call_add (P := Tryz.prog) Tryz.func79 (by kernel_rfl) (by kernel_rfl) (by kernel_rfl) .i32 (by kernel_rfl) (y := 1) (s := (f : Int) + 1) hc hz (by simp [go_sem, hw])
  clear hw
  go_enter Tryz.func51, Tryz.ntmps51
  go_wp2
  go_ret
  exact ⟨rfl, rfl⟩
/-- What Lex holds: its fuel, its readers, the tokens so far. -/
structure LX (w : World) (F f : Nat) (v : Value) (L : List Tok) (W : World) : Prop where
  hf : W.heap[F]? = some (.cells #[.int .i32 (f : Int)] 96 (0, 0))
  ha : W.heap[F + 1]? = some (.cells #[.iface 97 (.agg #[]), .iface 98 (.agg #[]), .iface 99 (.agg #[]), .iface 100 (.agg #[])] 106 (0, 0))
  own : OwnT (F + 2) v L W
  bel : Below w.heap.size w W
  le : w.heap.size ≤ F
section
variable {w W W' : World} {F f : Nat} {v v' : Value} {L L' : List Tok}
theorem LX.lt (h : LX w F f v L W) : F + 1 < W.heap.size := heap_lt h.ha
theorem LX.below (h : LX w F f v L W) (hb : Below W.heap.size W W') : LX w F f v L W' :=
  ⟨(hb.block _ (heap_lt h.hf)).trans h.hf, (hb.block _ (heap_lt h.ha)).trans h.ha, h.own.below hb, h.bel.trans (hb.mono h.bel.size), h.le⟩
theorem own_at {B b : Nat} (h : OwnT B v L W) (u : Value) (i : Nat) (hne : v.ownBlock ≠ some b) : OwnT B v L (W.setCell ⟨b, i, none⟩ u) := by
  obtain ⟨h1, h2⟩ := h
  refine ⟨h1, ?_⟩
  rcases h2 with h2 | ⟨g, cap, cur, hv, hB, hg, hrest⟩
  · exact Or.inl h2
  · refine Or.inr ⟨g, cap, cur, hv, hB, ?_, hrest⟩
    rw [Below.heap_setCell _ _ _ _ (show g ≠ b from fun e => hne (by rw [hv, ← e]; rfl))]
    exact hg
theorem LX.fuel (h : LX w F f v L W) : LX w F (f + 1) v L (W.setCell ⟨F, 0, none⟩ (.int .i32 ((f : Int) + 1))) := by
  refine ⟨?_, ?_, own_at h.own _ _ (fun e => ?_), h.bel.setCell (p := ⟨F, 0, none⟩) h.le _, h.le⟩
  · exact pset h.hf _ rfl
  · rw [Below.heap_setCell _ _ _ _ (show F + 1 ≠ F by omega)]; exact h.ha
  · have := h.own.lt F e; omega
theorem LX.set {b : Nat} (h : LX w F f v L W) (i : Nat) (u : Value) (hb : F + 2 ≤ b) (hne : v.ownBlock ≠ some b) : LX w F f v L (W.setCell ⟨b, i, none⟩ u) := by
  refine ⟨?_, ?_, own_at h.own _ _ hne, h.bel.setCell (p := ⟨b, i, none⟩) (by have := h.le; show w.heap.size ≤ b; omega) _, h.le⟩
  · rw [Below.heap_setCell _ _ _ _ (show F ≠ b by omega)]; exact h.hf
  · rw [Below.heap_setCell _ _ _ _ (show F + 1 ≠ b by omega)]; exact h.ha
theorem LX.grown (h : LX w F f v L W) (ho : OwnT (F + 2) v' L' W') (hg : W.grownBy W' v.ownBlock) : LX w F f v' L' W' := by
  have hlt := h.lt
  refine ⟨?_, ?_, ho, ?_, h.le⟩
  · rw [hg.block F (by omega) (fun e => by have := h.own.lt F e.symm; omega)]; exact h.hf
  · rw [hg.block (F + 1) (by omega) (fun e => by have := h.own.lt (F + 1) e.symm; omega)]; exact h.ha
  · exact h.bel.grown hg h.bel.size (fun k hk => by have := h.own.lt k hk; have := h.le; omega)
theorem LX.own_lt (h : LX w F f v L W) (k : Nat) (hk : v.ownBlock = some k) : k < W.heap.size := by
  rcases h.own.2 with h2 | ⟨g, cap, cur, hv, hB, hg, hrest⟩
  · rw [h2.1] at hk; cases hk
  · rw [hv] at hk; injection hk with hk; subst hk; exact heap_lt hg
end
/-- .. and the token that was read. -/
structure LY (w : World) (F f : Nat) (v : Value) (L : List Tok) (b : Nat) (A : Array Value) (W : World) : Prop where
  x : LX w F f v L W
  ht : W.heap[b]? = some (.cells A 72 (0, 0))
  hb : F + 2 ≤ b
  ne : v.ownBlock ≠ some b
theorem LY.new1 {w W w5 : World} {F f : Nat} {v : Value} {L : List Tok} (h : LX w F f v L W) (hb : Below W.drew.heap.size W.drew w5) (a0 a1 a2 : Value) : LY w F f v L w5.heap.size #[a0, a1, a2] (w5.alloc (.cells #[a0, a1, a2] 72)) := by
  have h1 : LX w F f v L w5 := (h.below (Below.refl W.heap.size W).drew).below hb
  refine ⟨h1.below ((Below.refl _ _).alloc (Nat.le_refl _) _), heap_alloc_new w5 _, h1.lt, fun e => ?_⟩
  have := h1.own_lt _ e; omega
theorem LY.new2 {w W w5 : World} {F f : Nat} {v : Value} {L : List Tok} {O : Obj} (h : LX w F f v L W) (hb : Below (W.alloc O).drew.heap.size (W.alloc O).drew w5) (b0 b1 b2 : Value) (hh : w5.heap[W.heap.size]? = some (.cells #[b0, b1, b2] 72 (0, 0))) (a0 a1 a2 : Value) : LY w F f v L W.heap.size #[a0, a1, a2] (((w5.setCell ⟨W.heap.size, 0, none⟩ a0).setCell ⟨W.heap.size, 1, none⟩ a1).setCell ⟨W.heap.size, 2, none⟩ a2) := by
  have hne : v.ownBlock ≠ some W.heap.size := fun e => by have := h.own_lt _ e; omega
  have h1 : LX w F f v L w5 := ((h.below ((Below.refl W.heap.size W).alloc (Nat.le_refl _) O)).below (Below.refl (W.alloc O).heap.size (W.alloc O)).drew).below hb
  exact ⟨((h1.set 0 a0 h.lt hne).set 1 a1 h.lt hne).set 2 a2 h.lt hne, pset (pset (pset hh a0 rfl) a1 rfl) a2 rfl, h.lt, hne⟩
theorem tok_new (W : World) (k : UInt8) (a : List UInt8) (p : Int) : TokSl (.slice (some ⟨W.heap.size, 0, none⟩) 1 1) [⟨k, a, p⟩] (W.alloc (.cells #[.int .u8 (k.toNat : Int), .string ⟨a.toArray⟩, .int .i64 p] 72)) := by
  refine Or.inr ⟨_, _, _, rfl, ?_⟩
  intro j hj
  have : j = 0 := by simp at hj; omega
  subst this
  have h := heap_alloc_new W (.cells #[.int .u8 (k.toNat : Int), .string ⟨a.toArray⟩, .int .i64 p] 72 (0, 0))
  exact ⟨(Lib.cell_of_heap h 0).trans rfl, (Lib.cell_of_heap h 1).trans rfl, (Lib.cell_of_heap h 2).trans rfl⟩
theorem tok_newn (n : Nat) (W : World) (hn : n = W.heap.size) (k : UInt8) (a : List UInt8) (p : Int) : TokSl (.slice (some ⟨n, 0, none⟩) 1 1) [⟨k, a, p⟩] (W.alloc (.cells #[.int .u8 (k.toNat : Int), .string ⟨a.toArray⟩, .int .i64 p] 72)) := by
  subst hn; exact tok_new W k a p
/-- What Lex answers. -/
def LexE (B : Nat) (o : Except (Int × Nat) (List Tok)) (x : Ending) (W : World) : Prop := match o with
  | .error (e, a) => x = .returned (.tuple #[.slice none 0 0, .int .i64 (a : Int), .int .i64 e])
  | .ok L => ∃ v, x = .returned (.tuple #[v, .int .i64 0, .int .i64 0]) ∧ OwnT B v L W
theorem LexE.err {B : Nat} {o : Except (Int × Nat) (List Tok)} {a : Nat} {i e : Int} {W : World} (h : o = .error (e, a)) (hi : (a : Int) = i) : LexE B o (.returned (.tuple #[.slice none 0 0, .int .i64 i, .int .i64 e])) W := by
  rw [h, ← hi]; rfl
theorem OwnT.less {B B' : Nat} {v : Value} {L : List Tok} {W : World} (h : OwnT B v L W) (hB : B' ≤ B) : OwnT B' v L W := by
  obtain ⟨h1, h2⟩ := h
  refine ⟨h1, ?_⟩
  rcases h2 with h2 | ⟨g, cap, cur, hv, hg, hrest⟩
  · exact Or.inl h2
  · exact Or.inr ⟨g, cap, cur, hv, Nat.le_trans hB hg, hrest⟩
theorem rd_form (j : Nat) (l : List UInt8) : ∃ (kv : Int) (xs : ByteArray) (n : Int), tellY (rdT j l) = .tuple #[.agg #[.int .u8 kv, .string xs, .int .i64 0], .int .i64 n] ∧ ((rdT j l = none ∧ n = 0) ∨ ∃ k a m, rdT j l = some (k, a, m) ∧ kv = (k.toNat : Int) ∧ xs = ⟨a.toArray⟩ ∧ n = (m : Int)) := by
  cases h : rdT j l with
  | none => exact ⟨0, ⟨#[]⟩, 0, rfl, Or.inl ⟨rfl, rfl⟩⟩
  | some x => obtain ⟨k, a, m⟩ := x; exact ⟨_, _, _, rfl, Or.inr ⟨k, a, m, rfl, rfl, rfl, rfl⟩⟩
theorem tell_rd (k : UInt8) (o : Option (List UInt8)) : tellV k o = tellY (o.map fun a => (k, a, a.length)) := by cases o <;> rfl
theorem tell_rx (o : Option (List UInt8 × Nat)) : tellX 3 o = tellY (o.map fun x => (3, x.1, x.2)) := by cases o with | none => rfl | some x => rfl
theorem nil_0 (n : Nat) (w : World) : (nilAhead (n + 1) 97 (.agg #[]) "provost/lex.read").run Tryz.prog w = .ok (some false) w := by kernel_rfl
theorem meth_0 (n : Nat) (w : World) : (method (n + 1) 97 (.agg #[]) "provost/lex.read").run Tryz.prog w = .ok (198, .agg #[]) w := by kernel_rfl
theorem nil_1 (n : Nat) (w : World) : (nilAhead (n + 1) 98 (.agg #[]) "provost/lex.read").run Tryz.prog w = .ok (some false) w := by kernel_rfl
theorem meth_1 (n : Nat) (w : World) : (method (n + 1) 98 (.agg #[]) "provost/lex.read").run Tryz.prog w = .ok (199, .agg #[]) w := by kernel_rfl
theorem nil_2 (n : Nat) (w : World) : (nilAhead (n + 1) 99 (.agg #[]) "provost/lex.read").run Tryz.prog w = .ok (some false) w := by kernel_rfl
theorem meth_2 (n : Nat) (w : World) : (method (n + 1) 99 (.agg #[]) "provost/lex.read").run Tryz.prog w = .ok (203, .agg #[]) w := by kernel_rfl
theorem nil_3 (n : Nat) (w : World) : (nilAhead (n + 1) 100 (.agg #[]) "provost/lex.read").run Tryz.prog w = .ok (some false) w := by kernel_rfl
theorem meth_3 (n : Nat) (w : World) : (method (n + 1) 100 (.agg #[]) "provost/lex.read").run Tryz.prog w = .ok (230, .agg #[]) w := by kernel_rfl
end Go.Proofs.YtgaknbnhmoddcaaGreatDoor
namespace Go.Proofs.YtgaknbnhmoddcaaGreatDoor
open Go.RowKit
set_option maxRecDepth 100000 in
set_option maxHeartbeats 8000000 in
theorem lex_go (s : ByteArray) (hs : s.size ≤ 16384) (w : World) (hE : EnvU w) (HC : Hid (Calls Tryz.prog 49 #[.string s] w fun e w' => e = .returned (.int .i64 0) ∧ Below w.heap.size w w')) (R : Except (Int × Nat) (List Tok)) (HR : Hid (lexG 1024 0 s.data.toList [] = R)) :
    Calls Tryz.prog 21 #[.string s] w fun e w' => LexE w.heap.size R e w' ∧ Below w.heap.size w w' := by
  obtain ⟨l, hl⟩ : ∃ l, s.data.toList = l := ⟨_, rfl⟩
  rw [hl] at HR
  have hll := len_z s
  rw [hl] at hll
  have HLL := Lib.hid hll
  have HL := Lib.hid hl
  have HSK := Lib.hid (fun (u : ByteArray) (hu : u.size ≤ 1000000) (W : World) (h : Below w.heap.size w W) => skip_any u hu W (hE.below h))
  have HT2 := Lib.hid (fun (u : ByteArray) (h0 : 0 < u.size) (hu : u.size ≤ 17000) (W : World) (h : Below w.heap.size w W) => tread_any u h0 hu W (hE.below h))
  clear hE hl hll
  go_enter Tryz.func21, Tryz.ntmps21
  go_wp2_with fail
  go_step3
  go_wp2_with fail
  refine HC.out.mono ?_; rintro e w1 ⟨rfl, hb⟩
  have HB1 := Lib.hid hb
  clear hb
  go_wp2_with fail
  go_step3
  go_wp2_with fail
  obtain ⟨F, hF⟩ : ∃ F, w1.heap.size = F := ⟨_, rfl⟩
  have hx0 : LX w F 0 (.slice none 0 0) [] ((w1.alloc (.cells #[.int .i32 0] 96)).alloc (.cells #[.iface 97 (.agg #[]), .iface 98 (.agg #[]), .iface 99 (.agg #[]), .iface 100 (.agg #[])] 106)) :=
    ⟨heap_old (heap_new _ _ _ hF.symm), heap_new _ _ _ (by simp [hF]), OwnT.nil _ _, HB1.out.trans (((Below.refl _ _).alloc (Nat.le_refl _) _).alloc (by simp) _ |>.mono HB1.out.size), by rw [← hF]; exact HB1.out.size⟩
  have HX0 := Lib.hid hx0
  rw [hF]
  clear hx0 hF
  go_loopg [2, 3] s.size (fun g v2 v3 wx => ∃ (f at_ : Nat) (L : List Tok), v3 = .int .i64 at_ ∧ at_ + g = s.size ∧ f ≤ 1024 ∧ Hid (L.length ≤ f) ∧ Hid (lexG (1024 - f) at_ (l.drop at_) L = R) ∧ Hid (LX w F f v2 L wx))
  case atStart => exact ⟨0, 0, [], rfl, by omega, by omega, Lib.hid (Nat.zero_le _), Lib.hid (by rw [List.drop_zero]; exact HR.out), HX0⟩
  case round =>
    rename World => wo
    obtain ⟨v2, rfl⟩ : ∃ v2, v2 = u2 := ⟨_, rfl⟩
    generalize gk = g0 at *
    obtain ⟨f, at_, L, rfl, hag, hf, HLN, HG, HX⟩ := hrel
    obtain ⟨u, hu⟩ : ∃ u, s.extract at_ s.size = u := ⟨_, rfl⟩
    have hul : u.data.toList = l.drop at_ := by rw [← hu, extract_drop, HL.out]
    have huz : u.size = s.size - at_ := by
      have := len_z u
      rw [hul, List.length_drop, HLL.out] at this; omega
    have hu6 : u.size ≤ 1000000 := by omega
    have HS1 := Lib.hid (HSK.out u hu6 wo HX.out.bel)
    rw [hul] at HS1
    obtain ⟨sd1, sd2⟩ := skip_drop (l.drop at_)
    obtain ⟨l1, hl1⟩ : ∃ l1, (skip0 (l.drop at_)).1 = l1 := ⟨_, rfl⟩
    obtain ⟨ok, hok⟩ : ∃ ok, (skip0 (l.drop at_)).2 = ok := ⟨_, rfl⟩
    rw [hl1] at sd1 sd2
    have hdl : (l.drop at_).length = u.size := by rw [← hul, len_z]
    rw [hdl] at sd1 sd2
    obtain ⟨m1, hm1⟩ : ∃ m1, u.size - l1.length = m1 := ⟨_, rfl⟩
    rw [hl1, hok, hm1] at HS1
    rw [hm1, List.drop_drop] at sd1
    have hm2 : m1 ≤ u.size := by omega
    have HDL := Lib.hid hdl
    have HM1 := Lib.hid hm1
    have HL1 := Lib.hid hl1
    have HOK := Lib.hid hok
    have HD1 := Lib.hid sd1
    have hle1 : at_ + m1 ≤ s.size := by omega
    have hl1z : l1.length = s.size - (at_ + m1) := by omega
    have HL1Z := Lib.hid hl1z
    have hat : (at_ : Int) ≤ (s.size : Int) := by omega
    clear hul huz hdl sd1 sd2 hl1 hm1 hok hl1z
    cases ok with
    | false =>
      have F1 : Hid (R = .error (170, at_ + m1)) := Lib.hid (by
        rw [← HG.out, lex_bad _ _ _ _ HOK.out, HL1.out, HDL.out, HM1.out])
      go_wp2_with fail
      refine HS1.out.mono ?_; rintro e w2 ⟨rfl, hb⟩
      have HX2 := Lib.hid (HX.out.below hb)
      clear hb
      go_wp2_with fail
      (try rw [Exit.noGoto_ret])
      go_ret3
      exact ⟨LexE.err F1.out (by omega), HX2.out.bel⟩
    | true =>
      by_cases hend : at_ + m1 = s.size
      · have F1 : Hid (R = .ok (L ++ [⟨0, [], ((at_ + m1 : Nat) : Int)⟩])) := Lib.hid (by
          have hl0 : l1 = [] := List.length_eq_zero_iff.1 (by rw [HL1Z.out]; omega)
          have := lex_done (1024 - f) at_ (l.drop at_) L HOK.out (by rw [HL1.out, hl0])
          rw [← HG.out, this, HL1.out, HDL.out, HM1.out])
        have hendi : (at_ : Int) + (m1 : Int) = (s.size : Int) := by omega
        go_wp2_with fail
        refine HS1.out.mono ?_; rintro e w2 ⟨rfl, hb⟩
        have HX2 := Lib.hid (HX.out.below hb)
        clear hb
        go_wp2_with (at_builtin; refine wpList_appT rfl _ _ rfl (F + 2) v2 (.slice (some ⟨w2.heap.size, 0, none⟩) 1 1) L [⟨0, [], (s.size : Int)⟩] rfl (HX2.out.own.below ((Below.refl _ _).alloc (Nat.le_refl _) _)) rfl (tok_new w2 0 [] (s.size : Int)) ?c1 ?c2 ?_)
        case c1 => have := HLN.out; simp; omega
        case c2 => have := HX2.out.lt; simp; omega
        intro v' w3 hown hg
        have HX3 := Lib.hid ((HX2.out.below ((Below.refl _ _).alloc (Nat.le_refl _) _)).grown hown hg)
        clear hown hg
        go_wp2_with fail
        (try rw [Exit.noGoto_ret])
        go_ret3
        refine ⟨?_, HX3.out.bel⟩
        rw [F1.out]
        exact ⟨v', rfl, by rw [show ((at_ + m1 : Nat) : Int) = (s.size : Int) from by omega]; exact HX3.out.own.less (by have := HX3.out.le; omega)⟩
      · have hendi : ¬ ((at_ : Int) + (m1 : Int) = (s.size : Int)) := by omega
        have hne : Hid (l1 ≠ []) := Lib.hid (fun e => by have := HL1Z.out; rw [e] at this; simp at this; omega)
        by_cases hful : f = 1024
        · subst hful
          have F1 : Hid (R = .error (171, at_ + m1)) := Lib.hid (by
            rw [← HG.out, Nat.sub_self, lex_fuel _ _ _ HOK.out (by rw [HL1.out]; exact hne.out), HL1.out, HDL.out, HM1.out])
          go_wp2_with fail
          refine HS1.out.mono ?_; rintro e w2 ⟨rfl, hb⟩
          have HX2 := Lib.hid (HX.out.below hb)
          clear hb
          go_wp2_with fail
          refine (add_any F 1024 (by decide) w2 HX2.out.hf).mono ?_; rintro e w3 ⟨rfl, rfl⟩
          go_wp2_with fail
          (try rw [Exit.noGoto_ret])
          go_ret3
          exact ⟨LexE.err F1.out (by omega), HX2.out.fuel.bel⟩
        · have hf1 : f < 1024 := by omega
          have hfi : ¬ (1024 : Int) < (f : Int) + 1 := by omega
          obtain ⟨A, hA⟩ : ∃ A, at_ + m1 = A := ⟨_, rfl⟩
          have hAi : (at_ : Int) + (m1 : Int) = (A : Int) := by omega
          rw [hA] at HD1 HL1Z hle1
          have hsA : (A : Int) ≠ (s.size : Int) := by omega
          go_wp2_with fail
          refine HS1.out.mono ?_; rintro e w2 ⟨rfl, hb⟩
          have HX2 := Lib.hid (HX.out.below hb)
          clear hb
          go_wp2_with fail
          refine (add_any F f (by omega) w2 HX2.out.hf).mono ?_; rintro e w3 ⟨rfl, hw3⟩
          have HX3 : Hid (LX w F (f + 1) v2 L w3) := Lib.hid (by rw [hw3]; exact HX2.out.fuel)
          clear hw3
          obtain ⟨u2, hu2⟩ : ∃ u2, s.extract A s.size = u2 := ⟨_, rfl⟩
          have hu2l : u2.data.toList = l1 := by rw [← hu2, extract_drop, HL.out, HD1.out]
          have hu2z : u2.size = s.size - A := by
            have := len_z u2
            rw [hu2l, HL1Z.out] at this; omega
          have hu20 : 0 < u2.size := by omega
          have RD0 := Lib.hid (fun W => nread_any u2 (by omega) W)
          have RD1 := Lib.hid (fun W => numread_any u2 (by omega) W)
          have RD2 := Lib.hid (fun W h => HT2.out u2 hu20 (by omega) W h)
          have RD3 := Lib.hid (fun W => pread17_any u2 hu20 (by omega) W)
          rw [hu2l, tell_rd] at RD0 RD1 RD3
          rw [hu2l, tell_rx] at RD2
          have HU2Z := Lib.hid hu2z
          clear hu2l hu2z hu20
          go_wp2_with fail
          rename World => w3
          generalize hwo : w3 = wz at *
          go_loopg [2, 3, 58] 4 (fun g s2 s3 s58 wx => ∃ jj : Nat, s58 = .int .i64 jj ∧ jj + g = 4 ∧ s2 = v2 ∧ s3 = .int .i64 A ∧ Hid (∀ i, i < jj → rdT i l1 = none) ∧ Hid (LX w F (f + 1) v2 L wx))
          case atStart => exact ⟨0, rfl, rfl, rfl, rfl, Lib.hid (fun i h => absurd h (Nat.not_lt_zero _)), HX3⟩
          case round =>
            rename World => wq
            obtain ⟨jj, rfl, hjg, hs2, rfl, HPR, HXQ⟩ := hrel
            obtain rfl := hs2
            obtain ⟨v2, rfl⟩ : ∃ v2, v2 = u2 := ⟨_, rfl⟩
            rcases (show jj = 4 ∨ jj = 0 ∨ jj = 1 ∨ jj = 2 ∨ jj = 3 from by omega) with hj | hj | hj | hj | hj
            · obtain rfl : jj = 4 := hj
              have F1 : Hid (R = .error (170, A)) := Lib.hid (by
                have hn : tokG l1 = none := by rw [tok_rd, HPR.out 0 (by omega), HPR.out 1 (by omega), HPR.out 2 (by omega), HPR.out 3 (by omega)]; rfl
                have := lex_none (1023 - f) at_ (l.drop at_) L HOK.out (by rw [HL1.out]; exact hne.out) (by rw [HL1.out]; exact hn)
                rw [← HG.out, show 1024 - f = 1023 - f + 1 from by omega, this, HL1.out, HDL.out, HM1.out, hA])
              go_wp2_with fail
              (try rw [Exit.noGoto_ret])
              go_ret3
              exact ⟨LexE.err F1.out rfl, HXQ.out.bel⟩
            · obtain rfl : jj = 0 := hj
              have cq0 : wq.cell? ⟨F + 1, 0, none⟩ = some (.iface 97 (.agg #[])) := Lib.cell_of_heap HXQ.out.ha 0
              obtain ⟨kv, xs, nn, hform, hcase⟩ := rd_form 0 l1
              have HRD := RD0
              rw [show tellY ((nameT l1).map fun a => (1, a, a.length)) = tellY (rdT 0 l1) from rfl, hform] at HRD
              have HCASE := Lib.hid hcase
              have hAle : (A : Int) ≤ (s.size : Int) := by omega
              clear hform hcase
              have hnil := fun w => nil_0 382 w
              have hmeth := fun w => meth_0 382 w
              go_upto_region 17 with fail
              go_cut [12, 13] (fun s12 s13 wx => ∃ b, s12 = .pointer (some ⟨b, 0, none⟩) ∧ s13 = .int .i64 nn ∧ Hid (LY w F (f + 1) v2 L b #[.int .u8 kv, .string xs, .int .i64 0] wx))
              case first =>
                refine wp_region_held_drew (S := fun _ => True) (by kernel_rfl) trivial (fun hHeld => ?_)
                refine tky 0 (some 63) (v := ?_) rfl (by kernel_rfl) (by kernel_rfl) (by kernel_rfl) (fun _ _ _ h => h) ?_ hHeld ?_
                rotate_left
                focus (intro w hSw; go_simp; (try with_reducible rfl); done)
                simp only [Act.put, List.setIfInBounds_toArray, List.set_cons_zero, List.set_cons_succ]
                refine tky 1 (some 64) (v := ?_) rfl (by kernel_rfl) (by kernel_rfl) (by kernel_rfl) (fun _ _ _ h => h) ?_ hHeld ?_
                rotate_left
                focus (intro w hSw; go_simp; (try with_reducible rfl); done)
                simp only [Act.put, List.setIfInBounds_toArray, List.set_cons_zero, List.set_cons_succ]
                refine tky 2 (some 65) (v := ?_) rfl (by kernel_rfl) (by kernel_rfl) (by kernel_rfl) (fun _ _ _ h => h) ?_ hHeld ?_
                rotate_left
                focus (intro w hSw; go_simp; (try with_reducible rfl); done)
                simp only [Act.put, List.setIfInBounds_toArray, List.set_cons_zero, List.set_cons_succ]
                refine tky 3 (some 66) (v := ?_) rfl (by kernel_rfl) (by kernel_rfl) (by kernel_rfl) (fun _ _ _ h => h) ?_ hHeld ?_
                rotate_left
                focus (intro w hSw; go_simp; (try with_reducible rfl); done)
                simp only [Act.put, List.setIfInBounds_toArray, List.set_cons_zero, List.set_cons_succ]
                refine tky 4 (some 67) (v := ?_) rfl (by kernel_rfl) (by kernel_rfl) (by kernel_rfl) (fun _ _ _ h => h) ?_ hHeld ?_
                rotate_left
                focus (intro w hSw; go_simp; (try with_reducible rfl); done)
                simp only [Act.put, List.setIfInBounds_toArray, List.set_cons_zero, List.set_cons_succ]
                refine tky 5 (some 68) (v := ?_) rfl (by kernel_rfl) (by kernel_rfl) (by kernel_rfl) (fun _ _ _ h => h) ?_ hHeld ?_
                rotate_left
                focus (intro w hSw; go_simp; (try with_reducible rfl); done)
                simp only [Act.put, List.setIfInBounds_toArray, List.set_cons_zero, List.set_cons_succ]
                refine tky 6 (some 69) (v := ?_) rfl (by kernel_rfl) (by kernel_rfl) (by kernel_rfl) (fun _ _ _ h => h) ?_ hHeld ?_
                rotate_left
                focus (intro w hSw; go_simp; (try with_reducible rfl); done)
                simp only [Act.put, List.setIfInBounds_toArray, List.set_cons_zero, List.set_cons_succ]
                refine wpAnyH_ready (rs := [7, 11]) (by kernel_rfl) (by simp) ?_
                refine acons 7 rfl (fun K hK => ?_) ?_
                · go_simp
                  ((with_reducible refine (HRD.out _).mono ?_); rintro e w5 ⟨rfl, hb5⟩)
                  (try dsimp only)
                  refine hK.out _ _ trivial (fun _ => ?_)
                  clear hK K
                  (try simp only [Act.put, List.setIfInBounds_toArray, List.set_cons_zero, List.set_cons_succ])
                  (try (have hh5 := (hb5.block _ (by simp)).trans (heap_alloc_new _ _); obtain ⟨⟨c0, c1, c2⟩, ⟨g0, g1, g2⟩, hz5⟩ := tcellsL hh5))
                  refine tky 8 (some 62) (v := ?_) rfl (by kernel_rfl) (by kernel_rfl) (by kernel_rfl) (fun _ _ _ h => h) ?_ hHeld ?_
                  rotate_left
                  focus (intro w hSw; go_simp; (try with_reducible rfl); done)
                  simp only [Act.put, List.setIfInBounds_toArray, List.set_cons_zero, List.set_cons_succ]
                  refine tky 9 (some 71) (v := ?_) rfl (by kernel_rfl) (by kernel_rfl) (by kernel_rfl) (fun _ _ _ h => h) ?_ hHeld ?_
                  rotate_left
                  focus (intro w hSw; go_simp; (try with_reducible rfl); done)
                  simp only [Act.put, List.setIfInBounds_toArray, List.set_cons_zero, List.set_cons_succ]
                  refine tky 10 (some 72) (v := ?_) rfl (by kernel_rfl) (by kernel_rfl) (by kernel_rfl) (fun _ _ _ h => h) ?_ hHeld ?_
                  rotate_left
                  focus (intro w hSw; go_simp; (try with_reducible rfl); done)
                  simp only [Act.put, List.setIfInBounds_toArray, List.set_cons_zero, List.set_cons_succ]
                  refine rcons 11 rfl (by kernel_rfl) (fun K hK => ?_)
                  go_simp
                  refine hK.out _ _ trivial (fun _ => ?_)
                  clear hK K
                  (try simp only [Act.put, List.setIfInBounds_toArray, List.set_cons_zero, List.set_cons_succ])
                  refine rcons 12 rfl (by kernel_rfl) (fun K hK => ?_)
                  go_simp
                  refine hK.out _ _ trivial (fun _ => ?_)
                  clear hK K
                  (try simp only [Act.put, List.setIfInBounds_toArray, List.set_cons_zero, List.set_cons_succ])
                  refine tky 13 (some 13) (v := ?_) rfl (by kernel_rfl) (by kernel_rfl) (by kernel_rfl) (fun _ _ _ h => h) ?_ hHeld ?_
                  rotate_left
                  focus (intro w hSw; go_simp; (try with_reducible rfl); done)
                  simp only [Act.put, List.setIfInBounds_toArray, List.set_cons_zero, List.set_cons_succ]
                  refine wpAnyH_done (by kernel_rfl) ?_ _
                  go_wp2_with fail
                  go_meet
                  first | exact ⟨_, rfl, rfl, Lib.hid (LY.new1 HXQ.out hb5 _ _ _)⟩ | exact ⟨_, rfl, rfl, Lib.hid (LY.new2 HXQ.out hb5 _ _ _ hh5 _ _ _)⟩
                refine acons 11 rfl (fun K hK => ?_) ?_
                · go_simp
                  refine hK.out _ _ trivial (fun _ => ?_)
                  clear hK K
                  (try simp only [Act.put, List.setIfInBounds_toArray, List.set_cons_zero, List.set_cons_succ])
                  refine rcons 7 rfl (by kernel_rfl) (fun K hK => ?_)
                  go_simp
                  ((with_reducible refine (HRD.out _).mono ?_); rintro e w5 ⟨rfl, hb5⟩)
                  (try dsimp only)
                  refine hK.out _ _ trivial (fun _ => ?_)
                  clear hK K
                  (try simp only [Act.put, List.setIfInBounds_toArray, List.set_cons_zero, List.set_cons_succ])
                  (try (have hh5 := (hb5.block _ (by simp)).trans (heap_alloc_new _ _); obtain ⟨⟨c0, c1, c2⟩, ⟨g0, g1, g2⟩, hz5⟩ := tcellsL hh5))
                  refine tky 8 (some 62) (v := ?_) rfl (by kernel_rfl) (by kernel_rfl) (by kernel_rfl) (fun _ _ _ h => h) ?_ hHeld ?_
                  rotate_left
                  focus (intro w hSw; go_simp; (try with_reducible rfl); done)
                  simp only [Act.put, List.setIfInBounds_toArray, List.set_cons_zero, List.set_cons_succ]
                  refine tky 9 (some 71) (v := ?_) rfl (by kernel_rfl) (by kernel_rfl) (by kernel_rfl) (fun _ _ _ h => h) ?_ hHeld ?_
                  rotate_left
                  focus (intro w hSw; go_simp; (try with_reducible rfl); done)
                  simp only [Act.put, List.setIfInBounds_toArray, List.set_cons_zero, List.set_cons_succ]
                  refine tky 10 (some 72) (v := ?_) rfl (by kernel_rfl) (by kernel_rfl) (by kernel_rfl) (fun _ _ _ h => h) ?_ hHeld ?_
                  rotate_left
                  focus (intro w hSw; go_simp; (try with_reducible rfl); done)
                  simp only [Act.put, List.setIfInBounds_toArray, List.set_cons_zero, List.set_cons_succ]
                  refine rcons 12 rfl (by kernel_rfl) (fun K hK => ?_)
                  go_simp
                  refine hK.out _ _ trivial (fun _ => ?_)
                  clear hK K
                  (try simp only [Act.put, List.setIfInBounds_toArray, List.set_cons_zero, List.set_cons_succ])
                  refine tky 13 (some 13) (v := ?_) rfl (by kernel_rfl) (by kernel_rfl) (by kernel_rfl) (fun _ _ _ h => h) ?_ hHeld ?_
                  rotate_left
                  focus (intro w hSw; go_simp; (try with_reducible rfl); done)
                  simp only [Act.put, List.setIfInBounds_toArray, List.set_cons_zero, List.set_cons_succ]
                  refine wpAnyH_done (by kernel_rfl) ?_ _
                  go_wp2_with fail
                  go_meet
                  first | exact ⟨_, rfl, rfl, Lib.hid (LY.new1 HXQ.out hb5 _ _ _)⟩ | exact ⟨_, rfl, rfl, Lib.hid (LY.new2 HXQ.out hb5 _ _ _ hh5 _ _ _)⟩
                exact AllReadyH.nil
              case rest =>
                clear cq0 hnil hmeth HRD
                rename World => wy
                obtain ⟨b, rfl, rfl, HY⟩ := hcut
                rcases HCASE.out with ⟨hno, hn0⟩ | ⟨k, a, m, hso, hkv, hxs, hnn⟩
                · have HPR2 : Hid (∀ i, i < 0 + 1 → rdT i l1 = none) := Lib.hid (fun i hi => by
                    by_cases h : i = 0
                    · rw [h]; exact hno
                    · exact HPR.out i (by omega))
                  subst hn0
                  clear hno
                  go_wp2_with fail
                  go_roundg 3
                  case measure => omega
                  case rel => exact ⟨0 + 1, rfl, by omega, rfl, rfl, HPR2, Lib.hid HY.out.x⟩
                · subst hkv hxs hnn
                  obtain ⟨ht, hm0, hml⟩ := rd_pos 0 l1 (by have := HL1Z.out; omega) HPR.out (by omega) k a m hso
                  rw [HL1Z.out] at hml
                  have HLEX : Hid (lexG (1024 - (f + 1)) (A + m) (l.drop (A + m)) (L ++ [⟨k, a, (A : Int)⟩]) = R) := Lib.hid (by
                    have := lex_some (1023 - f) at_ (l.drop at_) L k a m HOK.out (by rw [HL1.out]; exact hne.out) (by rw [HL1.out]; exact ht)
                    rw [HL1.out, HDL.out, HM1.out, hA, HD1.out, List.drop_drop] at this
                    rw [← HG.out, show 1024 - f = 1023 - f + 1 from by omega, this, show 1024 - (f + 1) = 1023 - f from by omega])
                  have hmi : (0 : Int) < (m : Int) := by omega
                  have hAm : A + m ≤ s.size := by omega
                  obtain ⟨aa, haa⟩ : ∃ aa : ByteArray, (⟨a.toArray⟩ : ByteArray) = aa := ⟨_, rfl⟩
                  have HTN := Lib.hid (fun (W : World) (n : Nat) (hn : n = W.heap.size) => tok_newn n W hn k a (A : Int))
                  rw [haa] at HTN HY
                  obtain ⟨⟨c0, c1, c2⟩, ⟨g0_, g1, g2⟩, hz⟩ := tcellsL HY.out.ht
                  have hy2 := pset (i := 2) HY.out.ht (.int .i64 (A : Int)) rfl
                  obtain ⟨⟨d0, d1, d2⟩, ⟨q0, q1, q2⟩, hzz⟩ := tcellsL hy2
                  have HX5 : Hid (LX w F (f + 1) v2 L (wy.setCell ⟨b, 2, none⟩ (.int .i64 (A : Int)))) := Lib.hid (HY.out.x.set 2 _ HY.out.hb HY.out.ne)
                  clear hy2 ht hso haa
                  go_wp2_with (at_builtin; refine wpList_appT rfl _ _ rfl (F + 2) v2 (.slice (some ⟨wy.heap.size, 0, none⟩) 1 1) L [⟨k, a, (A : Int)⟩] rfl (HX5.out.own.below ((Below.refl _ _).alloc (Nat.le_refl _) _)) rfl (HTN.out _ _ (by simp)) ?c1 ?c2 ?_)
                  case c1 => have := HLN.out; simp; omega
                  case c2 => have := HX5.out.lt; simp at this ⊢; omega
                  intro v' w6 hown hg
                  have HX6 := Lib.hid ((HX5.out.below ((Below.refl _ _).alloc (Nat.le_refl _) _)).grown hown hg)
                  clear hown hg c0 c1 c2 g0_ g1 g2 hz d0 d1 d2 q0 q1 q2 hzz
                  go_wp2_with fail
                  obtain ⟨gg, hgg⟩ : ∃ gg, A + m + gg = s.size := ⟨s.size - (A + m), by omega⟩
                  go_roundg gg
                  case measure => omega
                  case rel => exact ⟨f + 1, A + m, L ++ [⟨k, a, (A : Int)⟩], by go_num, hgg, by omega, Lib.hid (by have := HLN.out; simp; omega), HLEX, HX6⟩
            · obtain rfl : jj = 1 := hj
              have cq0 : wq.cell? ⟨F + 1, 1, none⟩ = some (.iface 98 (.agg #[])) := Lib.cell_of_heap HXQ.out.ha 1
              obtain ⟨kv, xs, nn, hform, hcase⟩ := rd_form 1 l1
              have HRD := RD1
              rw [show tellY ((numTk l1).map fun a => (2, a, a.length)) = tellY (rdT 1 l1) from rfl, hform] at HRD
              have HCASE := Lib.hid hcase
              have hAle : (A : Int) ≤ (s.size : Int) := by omega
              clear hform hcase
              have hnil := fun w => nil_1 382 w
              have hmeth := fun w => meth_1 382 w
              go_upto_region 17 with fail
              go_cut [12, 13] (fun s12 s13 wx => ∃ b, s12 = .pointer (some ⟨b, 0, none⟩) ∧ s13 = .int .i64 nn ∧ Hid (LY w F (f + 1) v2 L b #[.int .u8 kv, .string xs, .int .i64 0] wx))
              case first =>
                refine wp_region_held_drew (S := fun _ => True) (by kernel_rfl) trivial (fun hHeld => ?_)
                refine tky 0 (some 63) (v := ?_) rfl (by kernel_rfl) (by kernel_rfl) (by kernel_rfl) (fun _ _ _ h => h) ?_ hHeld ?_
                rotate_left
                focus (intro w hSw; go_simp; (try with_reducible rfl); done)
                simp only [Act.put, List.setIfInBounds_toArray, List.set_cons_zero, List.set_cons_succ]
                refine tky 1 (some 64) (v := ?_) rfl (by kernel_rfl) (by kernel_rfl) (by kernel_rfl) (fun _ _ _ h => h) ?_ hHeld ?_
                rotate_left
                focus (intro w hSw; go_simp; (try with_reducible rfl); done)
                simp only [Act.put, List.setIfInBounds_toArray, List.set_cons_zero, List.set_cons_succ]
                refine tky 2 (some 65) (v := ?_) rfl (by kernel_rfl) (by kernel_rfl) (by kernel_rfl) (fun _ _ _ h => h) ?_ hHeld ?_
                rotate_left
                focus (intro w hSw; go_simp; (try with_reducible rfl); done)
                simp only [Act.put, List.setIfInBounds_toArray, List.set_cons_zero, List.set_cons_succ]
                refine tky 3 (some 66) (v := ?_) rfl (by kernel_rfl) (by kernel_rfl) (by kernel_rfl) (fun _ _ _ h => h) ?_ hHeld ?_
                rotate_left
                focus (intro w hSw; go_simp; (try with_reducible rfl); done)
                simp only [Act.put, List.setIfInBounds_toArray, List.set_cons_zero, List.set_cons_succ]
                refine tky 4 (some 67) (v := ?_) rfl (by kernel_rfl) (by kernel_rfl) (by kernel_rfl) (fun _ _ _ h => h) ?_ hHeld ?_
                rotate_left
                focus (intro w hSw; go_simp; (try with_reducible rfl); done)
                simp only [Act.put, List.setIfInBounds_toArray, List.set_cons_zero, List.set_cons_succ]
                refine tky 5 (some 68) (v := ?_) rfl (by kernel_rfl) (by kernel_rfl) (by kernel_rfl) (fun _ _ _ h => h) ?_ hHeld ?_
                rotate_left
                focus (intro w hSw; go_simp; (try with_reducible rfl); done)
                simp only [Act.put, List.setIfInBounds_toArray, List.set_cons_zero, List.set_cons_succ]
                refine tky 6 (some 69) (v := ?_) rfl (by kernel_rfl) (by kernel_rfl) (by kernel_rfl) (fun _ _ _ h => h) ?_ hHeld ?_
                rotate_left
                focus (intro w hSw; go_simp; (try with_reducible rfl); done)
                simp only [Act.put, List.setIfInBounds_toArray, List.set_cons_zero, List.set_cons_succ]
                refine wpAnyH_ready (rs := [7, 11]) (by kernel_rfl) (by simp) ?_
                refine acons 7 rfl (fun K hK => ?_) ?_
                · go_simp
                  ((with_reducible refine (HRD.out _).mono ?_); rintro e w5 ⟨rfl, hb5⟩)
                  (try dsimp only)
                  refine hK.out _ _ trivial (fun _ => ?_)
                  clear hK K
                  (try simp only [Act.put, List.setIfInBounds_toArray, List.set_cons_zero, List.set_cons_succ])
                  (try (have hh5 := (hb5.block _ (by simp)).trans (heap_alloc_new _ _); obtain ⟨⟨c0, c1, c2⟩, ⟨g0, g1, g2⟩, hz5⟩ := tcellsL hh5))
                  refine tky 8 (some 62) (v := ?_) rfl (by kernel_rfl) (by kernel_rfl) (by kernel_rfl) (fun _ _ _ h => h) ?_ hHeld ?_
                  rotate_left
                  focus (intro w hSw; go_simp; (try with_reducible rfl); done)
                  simp only [Act.put, List.setIfInBounds_toArray, List.set_cons_zero, List.set_cons_succ]
                  refine tky 9 (some 71) (v := ?_) rfl (by kernel_rfl) (by kernel_rfl) (by kernel_rfl) (fun _ _ _ h => h) ?_ hHeld ?_
                  rotate_left
                  focus (intro w hSw; go_simp; (try with_reducible rfl); done)
                  simp only [Act.put, List.setIfInBounds_toArray, List.set_cons_zero, List.set_cons_succ]
                  refine tky 10 (some 72) (v := ?_) rfl (by kernel_rfl) (by kernel_rfl) (by kernel_rfl) (fun _ _ _ h => h) ?_ hHeld ?_
                  rotate_left
                  focus (intro w hSw; go_simp; (try with_reducible rfl); done)
                  simp only [Act.put, List.setIfInBounds_toArray, List.set_cons_zero, List.set_cons_succ]
                  refine rcons 11 rfl (by kernel_rfl) (fun K hK => ?_)
                  go_simp
                  refine hK.out _ _ trivial (fun _ => ?_)
                  clear hK K
                  (try simp only [Act.put, List.setIfInBounds_toArray, List.set_cons_zero, List.set_cons_succ])
                  refine rcons 12 rfl (by kernel_rfl) (fun K hK => ?_)
                  go_simp
                  refine hK.out _ _ trivial (fun _ => ?_)
                  clear hK K
                  (try simp only [Act.put, List.setIfInBounds_toArray, List.set_cons_zero, List.set_cons_succ])
                  refine tky 13 (some 13) (v := ?_) rfl (by kernel_rfl) (by kernel_rfl) (by kernel_rfl) (fun _ _ _ h => h) ?_ hHeld ?_
                  rotate_left
                  focus (intro w hSw; go_simp; (try with_reducible rfl); done)
                  simp only [Act.put, List.setIfInBounds_toArray, List.set_cons_zero, List.set_cons_succ]
                  refine wpAnyH_done (by kernel_rfl) ?_ _
                  go_wp2_with fail
                  go_meet
                  first | exact ⟨_, rfl, rfl, Lib.hid (LY.new1 HXQ.out hb5 _ _ _)⟩ | exact ⟨_, rfl, rfl, Lib.hid (LY.new2 HXQ.out hb5 _ _ _ hh5 _ _ _)⟩
                refine acons 11 rfl (fun K hK => ?_) ?_
                · go_simp
                  refine hK.out _ _ trivial (fun _ => ?_)
                  clear hK K
                  (try simp only [Act.put, List.setIfInBounds_toArray, List.set_cons_zero, List.set_cons_succ])
                  refine rcons 7 rfl (by kernel_rfl) (fun K hK => ?_)
                  go_simp
                  ((with_reducible refine (HRD.out _).mono ?_); rintro e w5 ⟨rfl, hb5⟩)
                  (try dsimp only)
                  refine hK.out _ _ trivial (fun _ => ?_)
                  clear hK K
                  (try simp only [Act.put, List.setIfInBounds_toArray, List.set_cons_zero, List.set_cons_succ])
                  (try (have hh5 := (hb5.block _ (by simp)).trans (heap_alloc_new _ _); obtain ⟨⟨c0, c1, c2⟩, ⟨g0, g1, g2⟩, hz5⟩ := tcellsL hh5))
                  refine tky 8 (some 62) (v := ?_) rfl (by kernel_rfl) (by kernel_rfl) (by kernel_rfl) (fun _ _ _ h => h) ?_ hHeld ?_
                  rotate_left
                  focus (intro w hSw; go_simp; (try with_reducible rfl); done)
                  simp only [Act.put, List.setIfInBounds_toArray, List.set_cons_zero, List.set_cons_succ]
                  refine tky 9 (some 71) (v := ?_) rfl (by kernel_rfl) (by kernel_rfl) (by kernel_rfl) (fun _ _ _ h => h) ?_ hHeld ?_
                  rotate_left
                  focus (intro w hSw; go_simp; (try with_reducible rfl); done)
                  simp only [Act.put, List.setIfInBounds_toArray, List.set_cons_zero, List.set_cons_succ]
                  refine tky 10 (some 72) (v := ?_) rfl (by kernel_rfl) (by kernel_rfl) (by kernel_rfl) (fun _ _ _ h => h) ?_ hHeld ?_
                  rotate_left
                  focus (intro w hSw; go_simp; (try with_reducible rfl); done)
                  simp only [Act.put, List.setIfInBounds_toArray, List.set_cons_zero, List.set_cons_succ]
                  refine rcons 12 rfl (by kernel_rfl) (fun K hK => ?_)
                  go_simp
                  refine hK.out _ _ trivial (fun _ => ?_)
                  clear hK K
                  (try simp only [Act.put, List.setIfInBounds_toArray, List.set_cons_zero, List.set_cons_succ])
                  refine tky 13 (some 13) (v := ?_) rfl (by kernel_rfl) (by kernel_rfl) (by kernel_rfl) (fun _ _ _ h => h) ?_ hHeld ?_
                  rotate_left
                  focus (intro w hSw; go_simp; (try with_reducible rfl); done)
                  simp only [Act.put, List.setIfInBounds_toArray, List.set_cons_zero, List.set_cons_succ]
                  refine wpAnyH_done (by kernel_rfl) ?_ _
                  go_wp2_with fail
                  go_meet
                  first | exact ⟨_, rfl, rfl, Lib.hid (LY.new1 HXQ.out hb5 _ _ _)⟩ | exact ⟨_, rfl, rfl, Lib.hid (LY.new2 HXQ.out hb5 _ _ _ hh5 _ _ _)⟩
                exact AllReadyH.nil
              case rest =>
                clear cq0 hnil hmeth HRD
                rename World => wy
                obtain ⟨b, rfl, rfl, HY⟩ := hcut
                rcases HCASE.out with ⟨hno, hn0⟩ | ⟨k, a, m, hso, hkv, hxs, hnn⟩
                · have HPR2 : Hid (∀ i, i < 1 + 1 → rdT i l1 = none) := Lib.hid (fun i hi => by
                    by_cases h : i = 1
                    · rw [h]; exact hno
                    · exact HPR.out i (by omega))
                  subst hn0
                  clear hno
                  go_wp2_with fail
                  go_roundg 2
                  case measure => omega
                  case rel => exact ⟨1 + 1, rfl, by omega, rfl, rfl, HPR2, Lib.hid HY.out.x⟩
                · subst hkv hxs hnn
                  obtain ⟨ht, hm0, hml⟩ := rd_pos 1 l1 (by have := HL1Z.out; omega) HPR.out (by omega) k a m hso
                  rw [HL1Z.out] at hml
                  have HLEX : Hid (lexG (1024 - (f + 1)) (A + m) (l.drop (A + m)) (L ++ [⟨k, a, (A : Int)⟩]) = R) := Lib.hid (by
                    have := lex_some (1023 - f) at_ (l.drop at_) L k a m HOK.out (by rw [HL1.out]; exact hne.out) (by rw [HL1.out]; exact ht)
                    rw [HL1.out, HDL.out, HM1.out, hA, HD1.out, List.drop_drop] at this
                    rw [← HG.out, show 1024 - f = 1023 - f + 1 from by omega, this, show 1024 - (f + 1) = 1023 - f from by omega])
                  have hmi : (0 : Int) < (m : Int) := by omega
                  have hAm : A + m ≤ s.size := by omega
                  obtain ⟨aa, haa⟩ : ∃ aa : ByteArray, (⟨a.toArray⟩ : ByteArray) = aa := ⟨_, rfl⟩
                  have HTN := Lib.hid (fun (W : World) (n : Nat) (hn : n = W.heap.size) => tok_newn n W hn k a (A : Int))
                  rw [haa] at HTN HY
                  obtain ⟨⟨c0, c1, c2⟩, ⟨g0_, g1, g2⟩, hz⟩ := tcellsL HY.out.ht
                  have hy2 := pset (i := 2) HY.out.ht (.int .i64 (A : Int)) rfl
                  obtain ⟨⟨d0, d1, d2⟩, ⟨q0, q1, q2⟩, hzz⟩ := tcellsL hy2
                  have HX5 : Hid (LX w F (f + 1) v2 L (wy.setCell ⟨b, 2, none⟩ (.int .i64 (A : Int)))) := Lib.hid (HY.out.x.set 2 _ HY.out.hb HY.out.ne)
                  clear hy2 ht hso haa
                  go_wp2_with (at_builtin; refine wpList_appT rfl _ _ rfl (F + 2) v2 (.slice (some ⟨wy.heap.size, 0, none⟩) 1 1) L [⟨k, a, (A : Int)⟩] rfl (HX5.out.own.below ((Below.refl _ _).alloc (Nat.le_refl _) _)) rfl (HTN.out _ _ (by simp)) ?c1 ?c2 ?_)
                  case c1 => have := HLN.out; simp; omega
                  case c2 => have := HX5.out.lt; simp at this ⊢; omega
                  intro v' w6 hown hg
                  have HX6 := Lib.hid ((HX5.out.below ((Below.refl _ _).alloc (Nat.le_refl _) _)).grown hown hg)
                  clear hown hg c0 c1 c2 g0_ g1 g2 hz d0 d1 d2 q0 q1 q2 hzz
                  go_wp2_with fail
                  obtain ⟨gg, hgg⟩ : ∃ gg, A + m + gg = s.size := ⟨s.size - (A + m), by omega⟩
                  go_roundg gg
                  case measure => omega
                  case rel => exact ⟨f + 1, A + m, L ++ [⟨k, a, (A : Int)⟩], by go_num, hgg, by omega, Lib.hid (by have := HLN.out; simp; omega), HLEX, HX6⟩
            · obtain rfl : jj = 2 := hj
              have cq0 : wq.cell? ⟨F + 1, 2, none⟩ = some (.iface 99 (.agg #[])) := Lib.cell_of_heap HXQ.out.ha 2
              obtain ⟨kv, xs, nn, hform, hcase⟩ := rd_form 2 l1
              have HRD := RD2
              rw [show tellY ((txtT l1).map fun x => (3, x.1, x.2)) = tellY (rdT 2 l1) from rfl, hform] at HRD
              have HCASE := Lib.hid hcase
              have hAle : (A : Int) ≤ (s.size : Int) := by omega
              clear hform hcase
              have hnil := fun w => nil_2 382 w
              have hmeth := fun w => meth_2 382 w
              go_upto_region 17 with fail
              go_cut [12, 13] (fun s12 s13 wx => ∃ b, s12 = .pointer (some ⟨b, 0, none⟩) ∧ s13 = .int .i64 nn ∧ Hid (LY w F (f + 1) v2 L b #[.int .u8 kv, .string xs, .int .i64 0] wx))
              case first =>
                refine wp_region_held_drew (S := fun _ => True) (by kernel_rfl) trivial (fun hHeld => ?_)
                refine tky 0 (some 63) (v := ?_) rfl (by kernel_rfl) (by kernel_rfl) (by kernel_rfl) (fun _ _ _ h => h) ?_ hHeld ?_
                rotate_left
                focus (intro w hSw; go_simp; (try with_reducible rfl); done)
                simp only [Act.put, List.setIfInBounds_toArray, List.set_cons_zero, List.set_cons_succ]
                refine tky 1 (some 64) (v := ?_) rfl (by kernel_rfl) (by kernel_rfl) (by kernel_rfl) (fun _ _ _ h => h) ?_ hHeld ?_
                rotate_left
                focus (intro w hSw; go_simp; (try with_reducible rfl); done)
                simp only [Act.put, List.setIfInBounds_toArray, List.set_cons_zero, List.set_cons_succ]
                refine tky 2 (some 65) (v := ?_) rfl (by kernel_rfl) (by kernel_rfl) (by kernel_rfl) (fun _ _ _ h => h) ?_ hHeld ?_
                rotate_left
                focus (intro w hSw; go_simp; (try with_reducible rfl); done)
                simp only [Act.put, List.setIfInBounds_toArray, List.set_cons_zero, List.set_cons_succ]
                refine tky 3 (some 66) (v := ?_) rfl (by kernel_rfl) (by kernel_rfl) (by kernel_rfl) (fun _ _ _ h => h) ?_ hHeld ?_
                rotate_left
                focus (intro w hSw; go_simp; (try with_reducible rfl); done)
                simp only [Act.put, List.setIfInBounds_toArray, List.set_cons_zero, List.set_cons_succ]
                refine tky 4 (some 67) (v := ?_) rfl (by kernel_rfl) (by kernel_rfl) (by kernel_rfl) (fun _ _ _ h => h) ?_ hHeld ?_
                rotate_left
                focus (intro w hSw; go_simp; (try with_reducible rfl); done)
                simp only [Act.put, List.setIfInBounds_toArray, List.set_cons_zero, List.set_cons_succ]
                refine tky 5 (some 68) (v := ?_) rfl (by kernel_rfl) (by kernel_rfl) (by kernel_rfl) (fun _ _ _ h => h) ?_ hHeld ?_
                rotate_left
                focus (intro w hSw; go_simp; (try with_reducible rfl); done)
                simp only [Act.put, List.setIfInBounds_toArray, List.set_cons_zero, List.set_cons_succ]
                refine tky 6 (some 69) (v := ?_) rfl (by kernel_rfl) (by kernel_rfl) (by kernel_rfl) (fun _ _ _ h => h) ?_ hHeld ?_
                rotate_left
                focus (intro w hSw; go_simp; (try with_reducible rfl); done)
                simp only [Act.put, List.setIfInBounds_toArray, List.set_cons_zero, List.set_cons_succ]
                refine wpAnyH_ready (rs := [7, 11]) (by kernel_rfl) (by simp) ?_
                refine acons 7 rfl (fun K hK => ?_) ?_
                · go_simp
                  (refine (HRD.out _ (by first | exact HXQ.out.bel.drew | exact (HXQ.out.bel.alloc HXQ.out.bel.size _).drew)).mono ?_; rintro e w5 ⟨rfl, hb5⟩)
                  (try dsimp only)
                  refine hK.out _ _ trivial (fun _ => ?_)
                  clear hK K
                  (try simp only [Act.put, List.setIfInBounds_toArray, List.set_cons_zero, List.set_cons_succ])
                  (try (have hh5 := (hb5.block _ (by simp)).trans (heap_alloc_new _ _); obtain ⟨⟨c0, c1, c2⟩, ⟨g0, g1, g2⟩, hz5⟩ := tcellsL hh5))
                  refine tky 8 (some 62) (v := ?_) rfl (by kernel_rfl) (by kernel_rfl) (by kernel_rfl) (fun _ _ _ h => h) ?_ hHeld ?_
                  rotate_left
                  focus (intro w hSw; go_simp; (try with_reducible rfl); done)
                  simp only [Act.put, List.setIfInBounds_toArray, List.set_cons_zero, List.set_cons_succ]
                  refine tky 9 (some 71) (v := ?_) rfl (by kernel_rfl) (by kernel_rfl) (by kernel_rfl) (fun _ _ _ h => h) ?_ hHeld ?_
                  rotate_left
                  focus (intro w hSw; go_simp; (try with_reducible rfl); done)
                  simp only [Act.put, List.setIfInBounds_toArray, List.set_cons_zero, List.set_cons_succ]
                  refine tky 10 (some 72) (v := ?_) rfl (by kernel_rfl) (by kernel_rfl) (by kernel_rfl) (fun _ _ _ h => h) ?_ hHeld ?_
                  rotate_left
                  focus (intro w hSw; go_simp; (try with_reducible rfl); done)
                  simp only [Act.put, List.setIfInBounds_toArray, List.set_cons_zero, List.set_cons_succ]
                  refine rcons 11 rfl (by kernel_rfl) (fun K hK => ?_)
                  go_simp
                  refine hK.out _ _ trivial (fun _ => ?_)
                  clear hK K
                  (try simp only [Act.put, List.setIfInBounds_toArray, List.set_cons_zero, List.set_cons_succ])
                  refine rcons 12 rfl (by kernel_rfl) (fun K hK => ?_)
                  go_simp
                  refine hK.out _ _ trivial (fun _ => ?_)
                  clear hK K
                  (try simp only [Act.put, List.setIfInBounds_toArray, List.set_cons_zero, List.set_cons_succ])
                  refine tky 13 (some 13) (v := ?_) rfl (by kernel_rfl) (by kernel_rfl) (by kernel_rfl) (fun _ _ _ h => h) ?_ hHeld ?_
                  rotate_left
                  focus (intro w hSw; go_simp; (try with_reducible rfl); done)
                  simp only [Act.put, List.setIfInBounds_toArray, List.set_cons_zero, List.set_cons_succ]
                  refine wpAnyH_done (by kernel_rfl) ?_ _
                  go_wp2_with fail
                  go_meet
                  first | exact ⟨_, rfl, rfl, Lib.hid (LY.new1 HXQ.out hb5 _ _ _)⟩ | exact ⟨_, rfl, rfl, Lib.hid (LY.new2 HXQ.out hb5 _ _ _ hh5 _ _ _)⟩
                refine acons 11 rfl (fun K hK => ?_) ?_
                · go_simp
                  refine hK.out _ _ trivial (fun _ => ?_)
                  clear hK K
                  (try simp only [Act.put, List.setIfInBounds_toArray, List.set_cons_zero, List.set_cons_succ])
                  refine rcons 7 rfl (by kernel_rfl) (fun K hK => ?_)
                  go_simp
                  (refine (HRD.out _ (by first | exact HXQ.out.bel.drew | exact (HXQ.out.bel.alloc HXQ.out.bel.size _).drew)).mono ?_; rintro e w5 ⟨rfl, hb5⟩)
                  (try dsimp only)
                  refine hK.out _ _ trivial (fun _ => ?_)
                  clear hK K
                  (try simp only [Act.put, List.setIfInBounds_toArray, List.set_cons_zero, List.set_cons_succ])
                  (try (have hh5 := (hb5.block _ (by simp)).trans (heap_alloc_new _ _); obtain ⟨⟨c0, c1, c2⟩, ⟨g0, g1, g2⟩, hz5⟩ := tcellsL hh5))
                  refine tky 8 (some 62) (v := ?_) rfl (by kernel_rfl) (by kernel_rfl) (by kernel_rfl) (fun _ _ _ h => h) ?_ hHeld ?_
                  rotate_left
                  focus (intro w hSw; go_simp; (try with_reducible rfl); done)
                  simp only [Act.put, List.setIfInBounds_toArray, List.set_cons_zero, List.set_cons_succ]
                  refine tky 9 (some 71) (v := ?_) rfl (by kernel_rfl) (by kernel_rfl) (by kernel_rfl) (fun _ _ _ h => h) ?_ hHeld ?_
                  rotate_left
                  focus (intro w hSw; go_simp; (try with_reducible rfl); done)
                  simp only [Act.put, List.setIfInBounds_toArray, List.set_cons_zero, List.set_cons_succ]
                  refine tky 10 (some 72) (v := ?_) rfl (by kernel_rfl) (by kernel_rfl) (by kernel_rfl) (fun _ _ _ h => h) ?_ hHeld ?_
                  rotate_left
                  focus (intro w hSw; go_simp; (try with_reducible rfl); done)
                  simp only [Act.put, List.setIfInBounds_toArray, List.set_cons_zero, List.set_cons_succ]
                  refine rcons 12 rfl (by kernel_rfl) (fun K hK => ?_)
                  go_simp
                  refine hK.out _ _ trivial (fun _ => ?_)
                  clear hK K
                  (try simp only [Act.put, List.setIfInBounds_toArray, List.set_cons_zero, List.set_cons_succ])
                  refine tky 13 (some 13) (v := ?_) rfl (by kernel_rfl) (by kernel_rfl) (by kernel_rfl) (fun _ _ _ h => h) ?_ hHeld ?_
                  rotate_left
                  focus (intro w hSw; go_simp; (try with_reducible rfl); done)
                  simp only [Act.put, List.setIfInBounds_toArray, List.set_cons_zero, List.set_cons_succ]
                  refine wpAnyH_done (by kernel_rfl) ?_ _
                  go_wp2_with fail
                  go_meet
                  first | exact ⟨_, rfl, rfl, Lib.hid (LY.new1 HXQ.out hb5 _ _ _)⟩ | exact ⟨_, rfl, rfl, Lib.hid (LY.new2 HXQ.out hb5 _ _ _ hh5 _ _ _)⟩
                exact AllReadyH.nil
              case rest =>
                clear cq0 hnil hmeth HRD
                rename World => wy
                obtain ⟨b, rfl, rfl, HY⟩ := hcut
                rcases HCASE.out with ⟨hno, hn0⟩ | ⟨k, a, m, hso, hkv, hxs, hnn⟩
                · have HPR2 : Hid (∀ i, i < 2 + 1 → rdT i l1 = none) := Lib.hid (fun i hi => by
                    by_cases h : i = 2
                    · rw [h]; exact hno
                    · exact HPR.out i (by omega))
                  subst hn0
                  clear hno
                  go_wp2_with fail
                  go_roundg 1
                  case measure => omega
                  case rel => exact ⟨2 + 1, rfl, by omega, rfl, rfl, HPR2, Lib.hid HY.out.x⟩
                · subst hkv hxs hnn
                  obtain ⟨ht, hm0, hml⟩ := rd_pos 2 l1 (by have := HL1Z.out; omega) HPR.out (by omega) k a m hso
                  rw [HL1Z.out] at hml
                  have HLEX : Hid (lexG (1024 - (f + 1)) (A + m) (l.drop (A + m)) (L ++ [⟨k, a, (A : Int)⟩]) = R) := Lib.hid (by
                    have := lex_some (1023 - f) at_ (l.drop at_) L k a m HOK.out (by rw [HL1.out]; exact hne.out) (by rw [HL1.out]; exact ht)
                    rw [HL1.out, HDL.out, HM1.out, hA, HD1.out, List.drop_drop] at this
                    rw [← HG.out, show 1024 - f = 1023 - f + 1 from by omega, this, show 1024 - (f + 1) = 1023 - f from by omega])
                  have hmi : (0 : Int) < (m : Int) := by omega
                  have hAm : A + m ≤ s.size := by omega
                  obtain ⟨aa, haa⟩ : ∃ aa : ByteArray, (⟨a.toArray⟩ : ByteArray) = aa := ⟨_, rfl⟩
                  have HTN := Lib.hid (fun (W : World) (n : Nat) (hn : n = W.heap.size) => tok_newn n W hn k a (A : Int))
                  rw [haa] at HTN HY
                  obtain ⟨⟨c0, c1, c2⟩, ⟨g0_, g1, g2⟩, hz⟩ := tcellsL HY.out.ht
                  have hy2 := pset (i := 2) HY.out.ht (.int .i64 (A : Int)) rfl
                  obtain ⟨⟨d0, d1, d2⟩, ⟨q0, q1, q2⟩, hzz⟩ := tcellsL hy2
                  have HX5 : Hid (LX w F (f + 1) v2 L (wy.setCell ⟨b, 2, none⟩ (.int .i64 (A : Int)))) := Lib.hid (HY.out.x.set 2 _ HY.out.hb HY.out.ne)
                  clear hy2 ht hso haa
                  go_wp2_with (at_builtin; refine wpList_appT rfl _ _ rfl (F + 2) v2 (.slice (some ⟨wy.heap.size, 0, none⟩) 1 1) L [⟨k, a, (A : Int)⟩] rfl (HX5.out.own.below ((Below.refl _ _).alloc (Nat.le_refl _) _)) rfl (HTN.out _ _ (by simp)) ?c1 ?c2 ?_)
                  case c1 => have := HLN.out; simp; omega
                  case c2 => have := HX5.out.lt; simp at this ⊢; omega
                  intro v' w6 hown hg
                  have HX6 := Lib.hid ((HX5.out.below ((Below.refl _ _).alloc (Nat.le_refl _) _)).grown hown hg)
                  clear hown hg c0 c1 c2 g0_ g1 g2 hz d0 d1 d2 q0 q1 q2 hzz
                  go_wp2_with fail
                  obtain ⟨gg, hgg⟩ : ∃ gg, A + m + gg = s.size := ⟨s.size - (A + m), by omega⟩
                  go_roundg gg
                  case measure => omega
                  case rel => exact ⟨f + 1, A + m, L ++ [⟨k, a, (A : Int)⟩], by go_num, hgg, by omega, Lib.hid (by have := HLN.out; simp; omega), HLEX, HX6⟩
            · obtain rfl : jj = 3 := hj
              have cq0 : wq.cell? ⟨F + 1, 3, none⟩ = some (.iface 100 (.agg #[])) := Lib.cell_of_heap HXQ.out.ha 3
              obtain ⟨kv, xs, nn, hform, hcase⟩ := rd_form 3 l1
              have HRD := RD3
              rw [show tellY ((punT l1).map fun a => (4, a, a.length)) = tellY (rdT 3 l1) from rfl, hform] at HRD
              have HCASE := Lib.hid hcase
              have hAle : (A : Int) ≤ (s.size : Int) := by omega
              clear hform hcase
              have hnil := fun w => nil_3 382 w
              have hmeth := fun w => meth_3 382 w
              go_upto_region 17 with fail
              go_cut [12, 13] (fun s12 s13 wx => ∃ b, s12 = .pointer (some ⟨b, 0, none⟩) ∧ s13 = .int .i64 nn ∧ Hid (LY w F (f + 1) v2 L b #[.int .u8 kv, .string xs, .int .i64 0] wx))
              case first =>
                refine wp_region_held_drew (S := fun _ => True) (by kernel_rfl) trivial (fun hHeld => ?_)
                refine tky 0 (some 63) (v := ?_) rfl (by kernel_rfl) (by kernel_rfl) (by kernel_rfl) (fun _ _ _ h => h) ?_ hHeld ?_
                rotate_left
                focus (intro w hSw; go_simp; (try with_reducible rfl); done)
                simp only [Act.put, List.setIfInBounds_toArray, List.set_cons_zero, List.set_cons_succ]
                refine tky 1 (some 64) (v := ?_) rfl (by kernel_rfl) (by kernel_rfl) (by kernel_rfl) (fun _ _ _ h => h) ?_ hHeld ?_
                rotate_left
                focus (intro w hSw; go_simp; (try with_reducible rfl); done)
                simp only [Act.put, List.setIfInBounds_toArray, List.set_cons_zero, List.set_cons_succ]
                refine tky 2 (some 65) (v := ?_) rfl (by kernel_rfl) (by kernel_rfl) (by kernel_rfl) (fun _ _ _ h => h) ?_ hHeld ?_
                rotate_left
                focus (intro w hSw; go_simp; (try with_reducible rfl); done)
                simp only [Act.put, List.setIfInBounds_toArray, List.set_cons_zero, List.set_cons_succ]
                refine tky 3 (some 66) (v := ?_) rfl (by kernel_rfl) (by kernel_rfl) (by kernel_rfl) (fun _ _ _ h => h) ?_ hHeld ?_
                rotate_left
                focus (intro w hSw; go_simp; (try with_reducible rfl); done)
                simp only [Act.put, List.setIfInBounds_toArray, List.set_cons_zero, List.set_cons_succ]
                refine tky 4 (some 67) (v := ?_) rfl (by kernel_rfl) (by kernel_rfl) (by kernel_rfl) (fun _ _ _ h => h) ?_ hHeld ?_
                rotate_left
                focus (intro w hSw; go_simp; (try with_reducible rfl); done)
                simp only [Act.put, List.setIfInBounds_toArray, List.set_cons_zero, List.set_cons_succ]
                refine tky 5 (some 68) (v := ?_) rfl (by kernel_rfl) (by kernel_rfl) (by kernel_rfl) (fun _ _ _ h => h) ?_ hHeld ?_
                rotate_left
                focus (intro w hSw; go_simp; (try with_reducible rfl); done)
                simp only [Act.put, List.setIfInBounds_toArray, List.set_cons_zero, List.set_cons_succ]
                refine tky 6 (some 69) (v := ?_) rfl (by kernel_rfl) (by kernel_rfl) (by kernel_rfl) (fun _ _ _ h => h) ?_ hHeld ?_
                rotate_left
                focus (intro w hSw; go_simp; (try with_reducible rfl); done)
                simp only [Act.put, List.setIfInBounds_toArray, List.set_cons_zero, List.set_cons_succ]
                refine wpAnyH_ready (rs := [7, 11]) (by kernel_rfl) (by simp) ?_
                refine acons 7 rfl (fun K hK => ?_) ?_
                · go_simp
                  ((with_reducible refine (HRD.out _).mono ?_); rintro e w5 ⟨rfl, hb5⟩)
                  (try dsimp only)
                  refine hK.out _ _ trivial (fun _ => ?_)
                  clear hK K
                  (try simp only [Act.put, List.setIfInBounds_toArray, List.set_cons_zero, List.set_cons_succ])
                  (try (have hh5 := (hb5.block _ (by simp)).trans (heap_alloc_new _ _); obtain ⟨⟨c0, c1, c2⟩, ⟨g0, g1, g2⟩, hz5⟩ := tcellsL hh5))
                  refine tky 8 (some 62) (v := ?_) rfl (by kernel_rfl) (by kernel_rfl) (by kernel_rfl) (fun _ _ _ h => h) ?_ hHeld ?_
                  rotate_left
                  focus (intro w hSw; go_simp; (try with_reducible rfl); done)
                  simp only [Act.put, List.setIfInBounds_toArray, List.set_cons_zero, List.set_cons_succ]
                  refine tky 9 (some 71) (v := ?_) rfl (by kernel_rfl) (by kernel_rfl) (by kernel_rfl) (fun _ _ _ h => h) ?_ hHeld ?_
                  rotate_left
                  focus (intro w hSw; go_simp; (try with_reducible rfl); done)
                  simp only [Act.put, List.setIfInBounds_toArray, List.set_cons_zero, List.set_cons_succ]
                  refine tky 10 (some 72) (v := ?_) rfl (by kernel_rfl) (by kernel_rfl) (by kernel_rfl) (fun _ _ _ h => h) ?_ hHeld ?_
                  rotate_left
                  focus (intro w hSw; go_simp; (try with_reducible rfl); done)
                  simp only [Act.put, List.setIfInBounds_toArray, List.set_cons_zero, List.set_cons_succ]
                  refine rcons 11 rfl (by kernel_rfl) (fun K hK => ?_)
                  go_simp
                  refine hK.out _ _ trivial (fun _ => ?_)
                  clear hK K
                  (try simp only [Act.put, List.setIfInBounds_toArray, List.set_cons_zero, List.set_cons_succ])
                  refine rcons 12 rfl (by kernel_rfl) (fun K hK => ?_)
                  go_simp
                  refine hK.out _ _ trivial (fun _ => ?_)
                  clear hK K
                  (try simp only [Act.put, List.setIfInBounds_toArray, List.set_cons_zero, List.set_cons_succ])
                  refine tky 13 (some 13) (v := ?_) rfl (by kernel_rfl) (by kernel_rfl) (by kernel_rfl) (fun _ _ _ h => h) ?_ hHeld ?_
                  rotate_left
                  focus (intro w hSw; go_simp; (try with_reducible rfl); done)
                  simp only [Act.put, List.setIfInBounds_toArray, List.set_cons_zero, List.set_cons_succ]
                  refine wpAnyH_done (by kernel_rfl) ?_ _
                  go_wp2_with fail
                  go_meet
                  first | exact ⟨_, rfl, rfl, Lib.hid (LY.new1 HXQ.out hb5 _ _ _)⟩ | exact ⟨_, rfl, rfl, Lib.hid (LY.new2 HXQ.out hb5 _ _ _ hh5 _ _ _)⟩
                refine acons 11 rfl (fun K hK => ?_) ?_
                · go_simp
                  refine hK.out _ _ trivial (fun _ => ?_)
                  clear hK K
                  (try simp only [Act.put, List.setIfInBounds_toArray, List.set_cons_zero, List.set_cons_succ])
                  refine rcons 7 rfl (by kernel_rfl) (fun K hK => ?_)
                  go_simp
                  ((with_reducible refine (HRD.out _).mono ?_); rintro e w5 ⟨rfl, hb5⟩)
                  (try dsimp only)
                  refine hK.out _ _ trivial (fun _ => ?_)
                  clear hK K
                  (try simp only [Act.put, List.setIfInBounds_toArray, List.set_cons_zero, List.set_cons_succ])
                  (try (have hh5 := (hb5.block _ (by simp)).trans (heap_alloc_new _ _); obtain ⟨⟨c0, c1, c2⟩, ⟨g0, g1, g2⟩, hz5⟩ := tcellsL hh5))
                  refine tky 8 (some 62) (v := ?_) rfl (by kernel_rfl) (by kernel_rfl) (by kernel_rfl) (fun _ _ _ h => h) ?_ hHeld ?_
                  rotate_left
                  focus (intro w hSw; go_simp; (try with_reducible rfl); done)
                  simp only [Act.put, List.setIfInBounds_toArray, List.set_cons_zero, List.set_cons_succ]
                  refine tky 9 (some 71) (v := ?_) rfl (by kernel_rfl) (by kernel_rfl) (by kernel_rfl) (fun _ _ _ h => h) ?_ hHeld ?_
                  rotate_left
                  focus (intro w hSw; go_simp; (try with_reducible rfl); done)
                  simp only [Act.put, List.setIfInBounds_toArray, List.set_cons_zero, List.set_cons_succ]
                  refine tky 10 (some 72) (v := ?_) rfl (by kernel_rfl) (by kernel_rfl) (by kernel_rfl) (fun _ _ _ h => h) ?_ hHeld ?_
                  rotate_left
                  focus (intro w hSw; go_simp; (try with_reducible rfl); done)
                  simp only [Act.put, List.setIfInBounds_toArray, List.set_cons_zero, List.set_cons_succ]
                  refine rcons 12 rfl (by kernel_rfl) (fun K hK => ?_)
                  go_simp
                  refine hK.out _ _ trivial (fun _ => ?_)
                  clear hK K
                  (try simp only [Act.put, List.setIfInBounds_toArray, List.set_cons_zero, List.set_cons_succ])
                  refine tky 13 (some 13) (v := ?_) rfl (by kernel_rfl) (by kernel_rfl) (by kernel_rfl) (fun _ _ _ h => h) ?_ hHeld ?_
                  rotate_left
                  focus (intro w hSw; go_simp; (try with_reducible rfl); done)
                  simp only [Act.put, List.setIfInBounds_toArray, List.set_cons_zero, List.set_cons_succ]
                  refine wpAnyH_done (by kernel_rfl) ?_ _
                  go_wp2_with fail
                  go_meet
                  first | exact ⟨_, rfl, rfl, Lib.hid (LY.new1 HXQ.out hb5 _ _ _)⟩ | exact ⟨_, rfl, rfl, Lib.hid (LY.new2 HXQ.out hb5 _ _ _ hh5 _ _ _)⟩
                exact AllReadyH.nil
              case rest =>
                clear cq0 hnil hmeth HRD
                rename World => wy
                obtain ⟨b, rfl, rfl, HY⟩ := hcut
                rcases HCASE.out with ⟨hno, hn0⟩ | ⟨k, a, m, hso, hkv, hxs, hnn⟩
                · have HPR2 : Hid (∀ i, i < 3 + 1 → rdT i l1 = none) := Lib.hid (fun i hi => by
                    by_cases h : i = 3
                    · rw [h]; exact hno
                    · exact HPR.out i (by omega))
                  subst hn0
                  clear hno
                  go_wp2_with fail
                  go_roundg 0
                  case measure => omega
                  case rel => exact ⟨3 + 1, rfl, by omega, rfl, rfl, HPR2, Lib.hid HY.out.x⟩
                · subst hkv hxs hnn
                  obtain ⟨ht, hm0, hml⟩ := rd_pos 3 l1 (by have := HL1Z.out; omega) HPR.out (by omega) k a m hso
                  rw [HL1Z.out] at hml
                  have HLEX : Hid (lexG (1024 - (f + 1)) (A + m) (l.drop (A + m)) (L ++ [⟨k, a, (A : Int)⟩]) = R) := Lib.hid (by
                    have := lex_some (1023 - f) at_ (l.drop at_) L k a m HOK.out (by rw [HL1.out]; exact hne.out) (by rw [HL1.out]; exact ht)
                    rw [HL1.out, HDL.out, HM1.out, hA, HD1.out, List.drop_drop] at this
                    rw [← HG.out, show 1024 - f = 1023 - f + 1 from by omega, this, show 1024 - (f + 1) = 1023 - f from by omega])
                  have hmi : (0 : Int) < (m : Int) := by omega
                  have hAm : A + m ≤ s.size := by omega
                  obtain ⟨aa, haa⟩ : ∃ aa : ByteArray, (⟨a.toArray⟩ : ByteArray) = aa := ⟨_, rfl⟩
                  have HTN := Lib.hid (fun (W : World) (n : Nat) (hn : n = W.heap.size) => tok_newn n W hn k a (A : Int))
                  rw [haa] at HTN HY
                  obtain ⟨⟨c0, c1, c2⟩, ⟨g0_, g1, g2⟩, hz⟩ := tcellsL HY.out.ht
                  have hy2 := pset (i := 2) HY.out.ht (.int .i64 (A : Int)) rfl
                  obtain ⟨⟨d0, d1, d2⟩, ⟨q0, q1, q2⟩, hzz⟩ := tcellsL hy2
                  have HX5 : Hid (LX w F (f + 1) v2 L (wy.setCell ⟨b, 2, none⟩ (.int .i64 (A : Int)))) := Lib.hid (HY.out.x.set 2 _ HY.out.hb HY.out.ne)
                  clear hy2 ht hso haa
                  go_wp2_with (at_builtin; refine wpList_appT rfl _ _ rfl (F + 2) v2 (.slice (some ⟨wy.heap.size, 0, none⟩) 1 1) L [⟨k, a, (A : Int)⟩] rfl (HX5.out.own.below ((Below.refl _ _).alloc (Nat.le_refl _) _)) rfl (HTN.out _ _ (by simp)) ?c1 ?c2 ?_)
                  case c1 => have := HLN.out; simp; omega
                  case c2 => have := HX5.out.lt; simp at this ⊢; omega
                  intro v' w6 hown hg
                  have HX6 := Lib.hid ((HX5.out.below ((Below.refl _ _).alloc (Nat.le_refl _) _)).grown hown hg)
                  clear hown hg c0 c1 c2 g0_ g1 g2 hz d0 d1 d2 q0 q1 q2 hzz
                  go_wp2_with fail
                  obtain ⟨gg, hgg⟩ : ∃ gg, A + m + gg = s.size := ⟨s.size - (A + m), by omega⟩
                  go_roundg gg
                  case measure => omega
                  case rel => exact ⟨f + 1, A + m, L ++ [⟨k, a, (A : Int)⟩], by go_num, hgg, by omega, Lib.hid (by have := HLN.out; simp; omega), HLEX, HX6⟩
end Go.Proofs.YtgaknbnhmoddcaaGreatDoor
namespace Go.Proofs.YtgaknbnhmoddcaaGreatDoor
open Go.Lib
/-- Are these a text's tokens, and is its end where the text ends? -/
def isL (l : List UInt8) (want : List (UInt8 × List UInt8)) : Bool := match lex0 l with
  | .error _ => false
  | .ok L => L.map kt == want ++ [(0, [])] && (L.getLastD ⟨0, [], -1⟩).pos == (l.length : Int)
end Go.Proofs.YtgaknbnhmoddcaaGreatDoor
namespace Go.Proofs.YtgaknbnhmoddcaaGreatDoor
open Go.RowKit
set_option maxRecDepth 100000 in
theorem lex_chk (s : ByteArray) (w : World) (e : Int) (he : e ≠ 0) (HC : Hid (Calls Tryz.prog 49 #[.string s] w fun x w' => x = .returned (.int .i64 e) ∧ Below w.heap.size w w')) :
    Calls Tryz.prog 21 #[.string s] w fun x w' => x = .returned (.tuple #[.slice none 0 0, .int .i64 0, .int .i64 e]) ∧ Below w.heap.size w w' := by
  have te : (e != 0) = true := by simpa using he
  clear he
  go_enter Tryz.func21, Tryz.ntmps21
  go_wp2_with fail
  go_step3
  go_wp2_with fail
  refine HC.out.mono ?_; rintro x w1 ⟨rfl, hb⟩
  go_wp2_with fail
  (try rw [Exit.noGoto_ret])
  go_ret3
  exact ⟨rfl, hb⟩
theorem llex_any (s : ByteArray) (hs : s.size ≤ 1000000) (w : World) (hE : EnvU w) :
    Calls Tryz.prog 21 #[.string s] w fun e w' => LexE w.heap.size (lex0 s.data.toList) e w' ∧ Below w.heap.size w w' := by
  have HC := tcheck_any s hs w hE
  unfold lex0
  have hz := len_z s
  by_cases h1 : 16384 < s.data.toList.length
  · rw [if_pos h1]
    rw [show chkE s.data.toList = 4 from by unfold chkE; rw [if_pos h1]] at HC
    exact (lex_chk s w 4 (by decide) (Lib.hid HC)).mono fun e w' ⟨h1, h2⟩ => ⟨h1, h2⟩
  · rw [if_neg h1]
    cases hv : Lib.validD s.data.toList with
    | false =>
      rw [show chkE s.data.toList = 10 from by unfold chkE; rw [if_neg h1, hv]; rfl] at HC
      exact (lex_chk s w 10 (by decide) (Lib.hid HC)).mono fun e w' ⟨h1, h2⟩ => ⟨h1, h2⟩
    | true =>
      rw [show chkE s.data.toList = 0 from by unfold chkE; rw [if_neg h1, hv]; rfl] at HC
      exact lex_go s (by omega) w hE (Lib.hid HC) _ (Lib.hid rfl)
theorem lexG_err : ∀ (k a : Nat) (l : List UInt8) (acc : List Tok) (e : Int) (n : Nat), lexG k a l acc = .error (e, n) → e ≠ 0
  | k, a, l, acc, e, n, h => by
    cases h2 : (skip0 l).2 with
    | false => rw [lex_bad k a l acc h2] at h; injection h with h; injection h with h _; subst h; decide
    | true =>
      by_cases h3 : (skip0 l).1 = []
      · rw [lex_done k a l acc h2 h3] at h; cases h
      · match k with
        | 0 => rw [lex_fuel a l acc h2 h3] at h; injection h with h; injection h with h _; subst h; decide
        | k + 1 =>
          cases h4 : tokG (skip0 l).1 with
          | none => rw [lex_none k a l acc h2 h3 h4] at h; injection h with h; injection h with h _; subst h; decide
          | some x =>
            obtain ⟨kd, tx, m⟩ := x
            rw [lex_some k a l acc kd tx m h2 h3 h4] at h
            exact lexG_err k _ _ _ e n h
theorem lex0_err (l : List UInt8) (e : Int) (n : Nat) (h : lex0 l = .error (e, n)) : e ≠ 0 := by
  unfold lex0 at h
  split at h
  · injection h with h; injection h with h _; subst h; decide
  · split at h
    · injection h with h; injection h with h _; subst h; decide
    · exact lexG_err _ _ _ _ e n h
theorem lex_yes (s : ByteArray) (hs : s.size ≤ 1000000) (L : List Tok) (h : lex0 s.data.toList = .ok L) (w : World) (hE : EnvU w) :
    Calls Tryz.prog 21 #[.string s] w fun e w' => (∃ v, e = .returned (.tuple #[v, .int .i64 0, .int .i64 0]) ∧ OwnT w.heap.size v L w') ∧ Below w.heap.size w w' :=
  (llex_any s hs w hE).mono fun e w' ⟨h1, h2⟩ => ⟨by rw [h] at h1; exact h1, h2⟩
theorem lex_not (s : ByteArray) (hs : s.size ≤ 1000000) (k : Int) (a : Nat) (h : lex0 s.data.toList = .error (k, a)) (w : World) (hE : EnvU w) :
    Calls Tryz.prog 21 #[.string s] w fun e w' => e = .returned (.tuple #[.slice none 0 0, .int .i64 (a : Int), .int .i64 k]) ∧ Below w.heap.size w w' :=
  (llex_any s hs w hE).mono fun e w' ⟨h1, h2⟩ => ⟨by rw [h] at h1; exact h1, h2⟩
theorem OwnT.form {B : Nat} {v : Value} {L : List Tok} {W : World} (h : OwnT B v L W) : ∃ a n c, v = .slice a n c ∧ n = L.length := by
  rcases h.2 with ⟨h1, h2⟩ | ⟨g, cap, cur, hv, _⟩
  · exact ⟨none, 0, 0, h1, h2.symm⟩
  · exact ⟨_, _, _, hv, rfl⟩
/-- A slice of the call's own stays when another one grows. -/
theorem OwnT.other {B : Nat} {v : Value} {L : List Tok} {W W' : World} {r : Option Nat} (h : OwnT B v L W) (hg : W.grownBy W' r) (hne : ∀ k, v.ownBlock = some k → r ≠ some k) : OwnT B v L W' := by
  obtain ⟨h1, h2⟩ := h
  refine ⟨h1, ?_⟩
  rcases h2 with h2 | ⟨g, cap, cur, hv, hB, hgg, hrest⟩
  · exact Or.inl h2
  · refine Or.inr ⟨g, cap, cur, hv, hB, ?_, hrest⟩
    rw [hg.block g (heap_lt hgg) (fun e => hne g (by rw [hv]; rfl) e.symm)]
    exact hgg
/-- Its last one. -/
theorem OwnT.last {B : Nat} {v : Value} {L : List Tok} {W : World} (h : OwnT B v L W) (h0 : 0 < L.length) : ∃ g cap, v = .slice (some ⟨g, 0, none⟩) L.length cap ∧ W.cell? ⟨g, (L.length - 1) * 3 + 2, none⟩ = some (.int .i64 (L.getLastD ⟨0, [], -1⟩).pos) := by
  rcases h.2 with ⟨h1, h2⟩ | ⟨g, cap, cur, hv, hB, hg, hn, hc, hcs, ht⟩
  · omega
  · refine ⟨g, cap, hv, ?_⟩
    obtain ⟨_, _, g2⟩ := tokCells_get L (L.length - 1) (by omega)
    have hl := tokCells_len L
    have hj : (L.length - 1) * 3 + 2 < L.length * 3 := by omega
    rw [Lib.cell_of_heap hg, ← Array.getElem?_toList]
    rw [← ht, List.getElem?_take, if_pos hj] at g2
    rw [g2]
    congr 3
    rw [List.getLastD_eq_getLast?, List.getLast?_eq_getElem?, List.getElem?_eq_getElem (by omega)]
    rfl
theorem lex_row (s : ByteArray) (hs : s.size ≤ 1000000) (L : List Tok) (h : lex0 s.data.toList = .ok L) (h0 : 0 < L.length) (w : World) (hE : EnvU w) :
    Calls Tryz.prog 21 #[.string s] w fun e w' => (∃ g cap, e = .returned (.tuple #[.slice (some ⟨g, 0, none⟩) L.length cap, .int .i64 0, .int .i64 0]) ∧ OwnT w.heap.size (.slice (some ⟨g, 0, none⟩) L.length cap) L w') ∧ Below w.heap.size w w' := by
  refine (lex_yes s hs L h w hE).mono ?_
  rintro e w' ⟨⟨v, rfl, ho⟩, hb⟩
  obtain ⟨g, cap, rfl, _⟩ := ho.last h0
  exact ⟨⟨g, cap, rfl, ho⟩, hb⟩
end Go.Proofs.YtgaknbnhmoddcaaGreatDoor
namespace Go.Proofs.YtgaknbnhmoddcaaGreatDoor
open Go.Lib
/-- A text's tokens, or none. -/
def lexT (l : List UInt8) : List Tok := match lex0 l with
  | .ok T => T
  | .error _ => []
theorem lexT_ok (l : List UInt8) (h : lexT l ≠ []) : lex0 l = .ok (lexT l) := by
  unfold lexT at *
  cases hx : lex0 l with
  | ok T => rfl
  | error e => rw [hx] at h; exact absurd rfl h
def celE (a b : Cel) : Bool := a.kind == b.kind && a.name == b.name && a.text == b.text && a.num == b.num && a.many == b.many
def celsE : List Cel → List Cel → Bool
  | [], [] => true
  | a :: r, b :: s => celE a b && celsE r s
  | _, _ => false
theorem celsE_eq : ∀ a b : List Cel, celsE a b = true → a = b
  | [], [], _ => rfl
  | [], _ :: _, h => by cases h
  | _ :: _, [], h => by cases h
  | ⟨k, n, t, u, m⟩ :: r, ⟨k', n', t', u', m'⟩ :: s, h => by
    rw [celsE, Bool.and_eq_true] at h
    unfold celE at h
    simp only [Bool.and_eq_true, beq_iff_eq] at h
    obtain ⟨⟨⟨⟨⟨h1, h2⟩, h3⟩, h4⟩, h5⟩, h6⟩ := h
    rw [h1, h2, h3, h4, h5, celsE_eq r s h6]
def okLit (T : List Tok) (fixed : Bool) (a : Nat) (w : List Cel) : Bool := !T.isEmpty && (match litP fixed T 0 with
  | .ok x => x.1 == a && celsE x.2 w
  | .error _ => false)
def exAlive : List UInt8 := [91, 36, 120, 44, 123, 97, 58, 82, 69, 68, 125, 93, 32, 122]
theorem el_alive : okLit (lexT exAlive) false 9 [⟨6, [], [], 0, 2⟩, ⟨5, [], [120], 0, 0⟩, ⟨7, [], [], 0, 1⟩, ⟨4, [97], [82, 69, 68], 0, 0⟩] = true := by decide +kernel
end Go.Proofs.YtgaknbnhmoddcaaGreatDoor
namespace Go.Proofs.YtgaknbnhmoddcaaGreatDoor
open Go.Lib
def nmT (s : List UInt8) : Tok := ⟨1, s, 0⟩
def mkT (s : List UInt8) : Tok := ⟨4, s, 0⟩
def litK (c : Cel) : List Tok :=
  if c.kind = 0 then [nmT [110, 117, 108, 108]] else if c.kind = 1 then [nmT (if c.num = 1 then [116, 114, 117, 101] else [102, 97, 108, 115, 101])]
  else if c.kind = 2 then [⟨2, Lib.itoa c.num, 0⟩] else if c.kind = 3 then [⟨3, c.text, 0⟩] else if c.kind = 4 then [nmT c.text] else [mkT [36], nmT c.text]
def preK (isO : Bool) (l : List Cel) : List Tok := if isO then [nmT (l.headD ⟨0, [], [], 0, 0⟩).name, mkT [58]] else []
/-- The tokens of so many items, members. -/
def kidsK (val : List Cel → Option Nat) (tk : List Cel → List Tok) (isO : Bool) : Nat → List Cel → List Tok
  | 0, _ => []
  | n + 1, l => preK isO l ++ (tk l ++ kidsK val tk isO n (l.drop ((val l).getD 0)))
def opnK (c : Cel) : Tok := mkT (if c.kind == 6 then [91] else [123])
def shtK (c : Cel) : Tok := mkT (if c.kind == 6 then [93] else [125])
def headK (kids : Cel → List Cel → List Tok) : List Cel → List Tok
  | [] => []
  | c :: r => if nestC c then opnK c :: (kids c r ++ [shtK c]) else litK c
/-- The tokens of the value that begins a list. -/
def tokK : Nat → List Cel → List Tok
  | 0 => headK fun _ _ => []
  | d + 1 => headK fun c r => kidsK (valN d) (tokK d) (!(c.kind == 6)) c.many.toNat r
theorem headK_cons (kids : Cel → List Cel → List Tok) (c : Cel) (r : List Cel) : headK kids (c :: r) = if nestC c then opnK c :: (kids c r ++ [shtK c]) else litK c := rfl
theorem tokK_zero (l : List Cel) : tokK 0 l = headK (fun _ _ => []) l := rfl
theorem tokK_more (d : Nat) (l : List Cel) : tokK (d + 1) l = headK (fun c r => kidsK (valN d) (tokK d) (!(c.kind == 6)) c.many.toNat r) l := rfl
theorem litK_len (c : Cel) : (litK c).length ≤ 2 := by
  unfold litK
  repeat' split
  all_goals simp
theorem preK_len (isO : Bool) (l : List Cel) : (preK isO l).length ≤ 2 := by
  unfold preK
  split <;> simp
theorem kidsK_len (f : List Cel → Option Nat) (tf : List Cel → List Tok) (h : ∀ l k, f l = some k → (tf l).length + 2 ≤ 4 * k) (isL isO : Bool) : ∀ (n : Nat) (nm : List (List UInt8)) (l : List Cel) (k : Nat), kidsN f isL n nm l = some k → (kidsK f tf isO n l).length ≤ 4 * k
  | 0, nm, l, k, _ => by simp [kidsK]
  | n + 1, nm, [], k, hk => by cases hk
  | n + 1, nm, c :: r, k, hk => by
    rw [kidsN] at hk
    split at hk
    · split at hk
      · cases hk
      · rename_i k1 hk1
        have h1 := h _ _ hk1
        rw [Option.map_eq_some_iff] at hk
        obtain ⟨k2, hk2, hk3⟩ := hk
        have ih := kidsK_len f tf h isL isO n _ _ k2 hk2
        rw [kidsK, hk1, Option.getD_some, List.length_append, List.length_append]
        have := preK_len isO (c :: r)
        omega
    · cases hk
/-- A value of so many cells has four times as many tokens at most. -/
theorem tokK_len : ∀ (d : Nat) (l : List Cel) (k : Nat), valN d l = some k → (tokK d l).length + 2 ≤ 4 * k
  | 0, [], k, h => by cases h
  | 0, c :: r, k, h => by
    have hk := (valN_le 0 _ _ h).1
    rw [valN_zero, headN_cons] at h
    rw [tokK_zero, headK_cons]
    cases h1 : oneC c with
    | false => rw [h1] at h; cases h
    | true =>
      cases h2 : nestC c with
      | true => rw [h1, h2] at h; cases h
      | false => rw [if_neg (by decide)]; have := litK_len c; omega
  | d + 1, [], k, h => by cases h
  | d + 1, c :: r, k, h => by
    have hk := (valN_le (d + 1) _ _ h).1
    rw [valN_more, headN_cons] at h
    rw [tokK_more, headK_cons]
    cases h1 : oneC c with
    | false => rw [h1] at h; cases h
    | true =>
      cases h2 : nestC c with
      | false => rw [if_neg (by decide)]; have := litK_len c; omega
      | true =>
        rw [h1, h2, if_pos rfl, if_pos rfl, Option.map_eq_some_iff] at h
        obtain ⟨k2, hk2, hk3⟩ := h
        rw [if_pos rfl]
        have := kidsK_len (valN d) (tokK d) (fun l k hl => tokK_len d l k hl) _ (!(c.kind == 6)) _ _ _ k2 hk2
        rw [List.length_cons, List.length_append, List.length_singleton]
        omega
end Go.Proofs.YtgaknbnhmoddcaaGreatDoor
namespace Go.Proofs.YtgaknbnhmoddcaaGreatDoor
open Go.Lib
/-- Alike, an Int of -0 being one of 0. -/
def alikeK (p q : Tok) : Bool := p.kind == q.kind && (p.text == q.text || (p.text == [48] && q.text == [45, 48]))
def samesK : List Tok → List Tok → Bool
  | [], [] => true
  | p :: r, q :: s => alikeK p q && samesK r s
  | _, _ => false
theorem samesK_app : ∀ (a b c d : List Tok), samesK a b = true → samesK c d = true → samesK (a ++ c) (b ++ d) = true
  | [], [], c, d, _, h => h
  | [], _ :: _, c, d, h, _ => by cases h
  | _ :: _, [], c, d, h, _ => by cases h
  | p :: r, q :: s, c, d, h, h2 => by
    rw [samesK, Bool.and_eq_true] at h
    rw [List.cons_append, List.cons_append, samesK, Bool.and_eq_true]
    exact ⟨h.1, samesK_app r s c d h.2 h2⟩
theorem samesK_len : ∀ (a b : List Tok), samesK a b = true → a.length = b.length
  | [], [], _ => rfl
  | [], _ :: _, h => by cases h
  | _ :: _, [], h => by cases h
  | p :: r, q :: s, h => by
    rw [samesK, Bool.and_eq_true] at h
    rw [List.length_cons, List.length_cons, samesK_len r s h.2]
def segK (T : List Tok) (a b : Nat) : List Tok := (T.drop a).take (b - a)
theorem segK_app (T : List Tok) (a b c : Nat) (h : a ≤ b) (h2 : b ≤ c) : segK T a b ++ segK T b c = segK T a c := by
  unfold segK
  have e : T.drop b = (T.drop a).drop (b - a) := by rw [List.drop_drop]; congr 1; omega
  rw [e, ← List.take_add]
  congr 1; omega
theorem look_lt (T : List Tok) (a : Nat) (h : (lookP T a).kind ≠ 0) : a < T.length ∧ ∀ ha : a < T.length, T[a] = lookP T a := by
  unfold lookP at *
  by_cases ha : a < T.length
  · refine ⟨ha, fun _ => ?_⟩
    rw [List.getD_eq_getElem?_getD, List.getElem?_eq_getElem ha]; rfl
  · rw [List.getD_eq_getElem?_getD, List.getElem?_eq_none (by omega)] at h
    exact absurd rfl h
theorem segK_one (T : List Tok) (a : Nat) (h : (lookP T a).kind ≠ 0) : segK T a (a + 1) = [lookP T a] := by
  obtain ⟨h1, h2⟩ := look_lt T a h
  unfold segK
  rw [show a + 1 - a = 1 from by omega, List.drop_eq_getElem_cons h1, h2 h1]
  rfl
theorem mrk_look {T : List Tok} {a : Nat} {s : List UInt8} (h : mrkP T a s = true) : (lookP T a).kind = 4 ∧ (lookP T a).text = s := by
  unfold mrkP at h
  rw [Bool.and_eq_true, beq_iff_eq, beq_iff_eq] at h
  exact h
theorem seg_mark {T : List Tok} {a : Nat} {s : List UInt8} (h : mrkP T a s = true) : samesK [mkT s] (segK T a (a + 1)) = true ∧ a < T.length := by
  obtain ⟨h1, h2⟩ := mrk_look h
  have hk : (lookP T a).kind ≠ 0 := by rw [h1]; decide
  refine ⟨?_, (look_lt T a hk).1⟩
  rw [segK_one T a hk]
  simp [samesK, alikeK, mkT, h1, h2]
/-- Tokens that may stand in a text. -/
def OkK (T : List Tok) : Prop := ∀ t ∈ T, okT t = true ∧ (tellT t).length ≤ 16384
theorem look_ok {T : List Tok} (hT : OkK T) (a : Nat) (h : (lookP T a).kind ≠ 0) : okT (lookP T a) = true ∧ (tellT (lookP T a)).length ≤ 16384 := by
  obtain ⟨h1, h2⟩ := look_lt T a h
  rw [← h2 h1]
  exact hT _ (List.getElem_mem h1)
theorem nam_ok {T : List Tok} (hT : OkK T) {nm : List (List UInt8)} {a : Nat} {s : List UInt8} (h : namP nm T a = .ok s) : nameB s = true ∧ s.length ≤ 16384 ∧ nm.contains s = false ∧ samesK [nmT s] (segK T a (a + 1)) = true ∧ a < T.length := by
  unfold namP at h
  split at h
  · cases h
  · rename_i h1
    split at h
    · cases h
    · rename_i h2
      injection h with h
      have hk : (lookP T a).kind = 1 := by simpa using h1
      have hk0 : (lookP T a).kind ≠ 0 := by rw [hk]; decide
      obtain ⟨o1, o2⟩ := look_ok hT a hk0
      unfold okT at o1
      rw [if_neg hk0, if_pos hk] at o1
      unfold tellT at o2
      rw [if_neg (by rw [hk]; decide)] at o2
      rw [h] at o1 o2 h2
      refine ⟨o1, o2, by simpa using h2, ?_, (look_lt T a hk0).1⟩
      rw [segK_one T a hk0]
      simp [samesK, alikeK, nmT, hk, h]
theorem name_ascii (s : List UInt8) (h : nameB s = true) : s.isEmpty = false ∧ ∀ c ∈ s, c.toNat < 128 := by
  cases s with
  | nil => cases h
  | cons a r =>
    refine ⟨rfl, fun c hc => ?_⟩
    unfold nameB at h
    rw [Bool.and_eq_true, List.all_eq_true] at h
    have := h.2 c hc
    unfold nameC at this
    have := of_decide_eq_true this
    omega
theorem name_text (s : List UInt8) (h : nameB s = true) (hl : s.length ≤ 16384) : textB s = true ∧ s.isEmpty = false := by
  obtain ⟨h1, h2⟩ := name_ascii s h
  refine ⟨?_, h1⟩
  have := valid_ascii s [] h2
  rw [List.append_nil] at this
  unfold textB
  rw [this, decide_eq_true hl]
  rfl
theorem kidsK_app (val : List Cel → Option Nat) (tk : List Cel → List Tok) (hv : ∀ V W k, val V = some k → val (V ++ W) = some k ∧ tk (V ++ W) = tk V) (isL isO : Bool) : ∀ (n : Nat) (nm : List (List UInt8)) (V W : List Cel) (k : Nat), (∀ l j, val l = some j → j ≤ l.length) → kidsN val isL n nm V = some k → kidsN val isL n nm (V ++ W) = some k ∧ kidsK val tk isO n (V ++ W) = kidsK val tk isO n V
  | 0, nm, V, W, k, _, h => ⟨h, rfl⟩
  | n + 1, nm, [], W, k, _, h => by cases h
  | n + 1, nm, c :: r, W, k, hle, h => by
    rw [kidsN] at h
    split at h
    · rename_i hok
      split at h
      · cases h
      · rename_i k1 hk1
        rw [Option.map_eq_some_iff] at h
        obtain ⟨k2, hk2, rfl⟩ := h
        obtain ⟨e1, e2⟩ := hv (c :: r) W k1 hk1
        have hl := hle _ _ hk1
        have hd : ((c :: r) ++ W).drop k1 = (c :: r).drop k1 ++ W := by
          rw [List.drop_append_of_le_length hl]
        obtain ⟨g1, g2⟩ := kidsK_app val tk hv isL isO n _ ((c :: r).drop k1) W k2 hle hk2
        refine ⟨?_, ?_⟩
        · rw [List.cons_append, kidsN, if_pos hok]
          rw [List.cons_append] at e1 hd
          rw [e1]
          simp only
          rw [hd, g1]
          rfl
        · rw [kidsK, kidsK, e1, hk1, Option.getD_some, e2, hd, g2]
          rfl
    · cases h
theorem tokK_app : ∀ (d : Nat) (V W : List Cel) (k : Nat), valN d V = some k → valN d (V ++ W) = some k ∧ tokK d (V ++ W) = tokK d V
  | d, [], W, k, h => by cases d <;> cases h
  | 0, c :: r, W, k, h => by
    rw [List.cons_append]
    rw [valN_zero, headN_cons] at h ⊢
    refine ⟨?_, ?_⟩
    · cases h1 : oneC c with
      | false => rw [h1] at h; cases h
      | true =>
        cases h2 : nestC c with
        | true => rw [h1, h2] at h; cases h
        | false => rw [h1, h2] at h; exact h
    · rw [tokK_zero, tokK_zero, headK_cons, headK_cons]
  | d + 1, c :: r, W, k, h => by
    rw [List.cons_append]
    rw [valN_more, headN_cons] at h ⊢
    rw [tokK_more, tokK_more, headK_cons, headK_cons]
    cases h1 : oneC c with
    | false => rw [h1] at h; cases h
    | true =>
      cases h2 : nestC c with
      | false => rw [h1, h2] at h; exact ⟨h, rfl⟩
      | true =>
        rw [h1, h2, if_pos rfl, if_pos rfl, Option.map_eq_some_iff] at h
        obtain ⟨k2, hk2, rfl⟩ := h
        obtain ⟨g1, g2⟩ := kidsK_app (valN d) (tokK d) (fun V W k => tokK_app d V W k) (c.kind == 6) (!(c.kind == 6)) c.many.toNat [] r W k2 (fun l j hj => (valN_le d l j hj).2) hk2
        rw [if_pos rfl, if_pos rfl, if_pos rfl, if_pos rfl, g1, g2]
        exact ⟨rfl, rfl⟩
def wordsK : List (List UInt8) := [[110, 117, 108, 108], [116, 114, 117, 101], [102, 97, 108, 115, 101]]
/-- A cell of a literal (fixed: with no variable). -/
def LitC (fixed : Bool) (x : Cel) : Prop := (x.name = [] ∨ nameB x.name = true) ∧ (x.kind = 4 → wordsK.contains x.text = false) ∧ (fixed = true → x.kind ≠ 5)
def ValQ (fixed : Bool) (T : List Tok) (d : Nat) : Prop := ∀ (name : List UInt8) (a : Nat) (out : List Cel) (a2 : Nat) (o2 : List Cel), (name = [] ∨ nameB name = true) → valP fixed T d name a out = .ok (a2, o2) →
  ∃ c new, o2 = out ++ c :: new ∧ c.name = name ∧ valN d (c :: new) = some (new.length + 1) ∧ (∀ x ∈ c :: new, LitC fixed x) ∧ a < a2 ∧ a2 ≤ T.length ∧ samesK (tokK d (c :: new)) (segK T a a2) = true
theorem leaf_q (fixed : Bool) (T : List Tok) (hT : OkK T) (name : List UInt8) (hn : name = [] ∨ nameB name = true) (a : Nat) (out : List Cel) (a2 : Nat) (o2 : List Cel) (hb : begP fixed T a = true) (ho : opnP T a = false) (h : leafP fixed T name a out = .ok (a2, o2)) :
    ∃ c, o2 = out ++ [c] ∧ c.name = name ∧ oneC c = true ∧ nestC c = false ∧ LitC fixed c ∧ a < a2 ∧ a2 ≤ T.length ∧ samesK (litK c) (segK T a a2) = true := by
  unfold leafP at h
  by_cases hv : varP fixed T a = true
  · rw [if_pos hv] at h
    cases hs : namP [] T (a + 1) with
    | error e => rw [hs] at h; cases h
    | ok s =>
      rw [hs] at h
      injection h with h; injection h with h1 h2
      subst h1; subst h2
      obtain ⟨n1, n2, _, n3, n4⟩ := nam_ok hT hs
      unfold varP at hv
      rw [Bool.and_eq_true, Bool.not_eq_true'] at hv
      obtain ⟨m1, m2⟩ := seg_mark hv.2
      refine ⟨_, rfl, rfl, ?_, rfl, ⟨hn, fun h => absurd h (by simp), fun h => by rw [hv.1] at h; cases h⟩, by omega, by omega, ?_⟩
      · unfold oneC
        simp only
        rw [if_neg (by decide), if_neg (by decide), if_neg (by decide), if_neg (by decide), if_pos (by decide), n1]
        rfl
      · have := samesK_app _ _ _ _ m1 n3
        rw [segK_app T a (a + 1) (a + 2) (by omega) (by omega)] at this
        exact this
  · rw [if_neg hv] at h
    have hk0 : (lookP T a).kind ≠ 0 := by
      intro e
      unfold begP at hb
      rw [ho, e] at hb
      have hv : varP fixed T a = false := by simpa using hv
      rw [hv] at hb
      exact absurd hb (by decide)
    obtain ⟨l1, _⟩ := look_lt T a hk0
    obtain ⟨o1, o2'⟩ := look_ok hT a hk0
    by_cases h3 : (lookP T a).kind = 3
    · rw [if_pos h3] at h
      injection h with h; injection h with h1 h2
      subst h1; subst h2
      unfold okT at o1
      rw [if_neg hk0, if_neg (by rw [h3]; decide), if_neg (by rw [h3]; decide), if_pos h3] at o1
      refine ⟨_, rfl, rfl, ?_, rfl, ⟨hn, fun h => absurd h (by simp), fun _ => by simp⟩, by omega, by omega, ?_⟩
      · unfold oneC
        simp only
        rw [if_neg (by decide), if_neg (by decide), if_neg (by decide), if_pos (by decide), o1]
        rfl
      · rw [segK_one T a hk0]
        simp [litK, samesK, alikeK, h3]
    · rw [if_neg h3] at h
      by_cases h2 : (lookP T a).kind = 2
      · rw [if_pos h2] at h
        split at h
        · cases h
        · rename_i he
          injection h with h; injection h with h1 h4
          subst h1; subst h4
          have he : rdE (lookP T a).text = 0 := by simpa using he
          refine ⟨_, rfl, rfl, rfl, rfl, ⟨hn, fun h => absurd h (by simp), fun _ => by simp⟩, by omega, by omega, ?_⟩
          rw [segK_one T a hk0]
          show samesK [⟨2, Lib.itoa (rdV (lookP T a).text), 0⟩] [lookP T a] = true
          rcases itoa_read _ he with e | ⟨e, e0⟩
          · simp [samesK, alikeK, h2, e]
          · rw [e0]
            have hz : Lib.itoa 0 = [48] := by decide +kernel
            simp [samesK, alikeK, h2, e, hz]
      · rw [if_neg h2] at h
        injection h with h; injection h with h1 h4
        subst h1; subst h4
        have h1 : (lookP T a).kind = 1 := by
          unfold begP at hb
          rw [ho] at hb
          have hv : varP fixed T a = false := by simpa using hv
          rw [hv] at hb
          simp only [Bool.or_false, Bool.or_eq_true, beq_iff_eq] at hb
          rcases hb with (e | e) | e
          · exact e
          · exact absurd e h2
          · exact absurd e h3
        unfold okT at o1
        rw [if_neg hk0, if_pos h1] at o1
        rw [segK_one T a hk0]
        obtain ⟨tx, htx⟩ : ∃ tx, (lookP T a).text = tx := ⟨_, rfl⟩
        rw [htx] at o1 ⊢
        unfold wordP
        by_cases w1 : tx = [110, 117, 108, 108]
        · rw [if_pos w1]
          exact ⟨_, rfl, rfl, rfl, rfl, ⟨hn, fun h => absurd h (by simp), fun _ => by simp⟩, by omega, by omega, by simp [litK, nmT, samesK, alikeK, h1, htx, w1]⟩
        rw [if_neg w1]
        by_cases w2 : tx = [116, 114, 117, 101]
        · rw [if_pos w2]
          exact ⟨_, rfl, rfl, rfl, rfl, ⟨hn, fun h => absurd h (by simp), fun _ => by simp⟩, by omega, by omega, by simp [litK, nmT, samesK, alikeK, h1, htx, w2]⟩
        rw [if_neg w2]
        by_cases w3 : tx = [102, 97, 108, 115, 101]
        · rw [if_pos w3]
          exact ⟨_, rfl, rfl, rfl, rfl, ⟨hn, fun h => absurd h (by simp), fun _ => by simp⟩, by omega, by omega, by simp [litK, nmT, samesK, alikeK, h1, htx, w3]⟩
        rw [if_neg w3]
        refine ⟨_, rfl, rfl, ?_, rfl, ⟨hn, fun _ => ?_, fun _ => by simp⟩, by omega, by omega, by simp [litK, nmT, samesK, alikeK, h1, htx]⟩
        · unfold oneC
          simp only
          rw [if_neg (by decide), if_neg (by decide), if_neg (by decide), if_neg (by decide), if_pos (by decide), o1]
          rfl
        · simp [wordsK, w1, w2, w3]
theorem itm_q (fixed : Bool) (T : List Tok) (hT : OkK T) (d : Nat) (ih : ValQ fixed T d) (isO : Bool) : ∀ (f n : Nat) (nm : List (List UInt8)) (a : Nat) (out : List Cel) (k a2 : Nat) (o2 : List Cel), itmP (valP fixed T d) isO T f n nm a out = .ok (k, a2, o2) →
    ∃ j new, k = n + j ∧ o2 = out ++ new ∧ kidsN (valN d) (!isO) j nm new = some new.length ∧ (∀ x ∈ new, LitC fixed x) ∧ a < a2 ∧ a2 ≤ T.length ∧ samesK (kidsK (valN d) (tokK d) isO j new ++ [mkT (if isO then [125] else [93])]) (segK T a a2) = true
  | 0, n, nm, a, out, k, a2, o2, h => by rw [itmP] at h; cases h
  | f + 1, n, nm, a, out, k, a2, o2, h => by
    rw [itmP] at h
    by_cases hm : mrkP T a (if isO then [125] else [93]) = true
    · rw [if_pos hm] at h
      injection h with h; injection h with h1 h2; injection h2 with h2 h3
      subst h1; subst h2; subst h3
      obtain ⟨m1, m2⟩ := seg_mark hm
      exact ⟨0, [], rfl, by simp, rfl, (fun x hx => by cases hx), by omega, by omega, m1⟩
    · rw [if_neg hm] at h
      cases hx : (if isO then memP nm T a else .ok ([], a)) with
      | error e => rw [hx] at h; cases h
      | ok y =>
        obtain ⟨s, a1⟩ := y
        rw [hx] at h
        simp only at h
        have hmem : okN (!isO) nm s = true ∧ (s = [] ∨ nameB s = true) ∧ a ≤ a1 ∧ samesK (if isO then [nmT s, mkT [58]] else []) (segK T a a1) = true := by
          cases isO with
          | false =>
            simp only [Bool.false_eq_true, if_false] at hx ⊢
            injection hx with hx; injection hx with h1 h2
            subst h1; subst h2
            refine ⟨rfl, Or.inl rfl, Nat.le_refl _, ?_⟩
            unfold segK
            rw [Nat.sub_self]
            rfl
          | true =>
            simp only [if_true] at hx ⊢
            unfold memP at hx
            cases hs : namP nm T a with
            | error e => rw [hs] at hx; cases hx
            | ok s' =>
              rw [hs] at hx
              simp only at hx
              split at hx
              · rename_i hc
                injection hx with hx; injection hx with h1 h2
                subst h1; subst h2
                obtain ⟨n1, n2, n3, n4, n5⟩ := nam_ok hT hs
                obtain ⟨c1, c2⟩ := seg_mark hc
                obtain ⟨t1, t2⟩ := name_text _ n1 n2
                refine ⟨?_, Or.inr n1, by omega, ?_⟩
                · unfold okN
                  rw [t1, t2, among_cont, n3]
                  rfl
                · have := samesK_app _ _ _ _ n4 c1
                  rw [segK_app T a (a + 1) (a + 2) (by omega) (by omega)] at this
                  exact this
              · cases hx
        obtain ⟨g1, g2, g3, g4⟩ := hmem
        cases hv : valP fixed T d s a1 out with
        | error e => rw [hv] at h; cases h
        | ok z =>
          obtain ⟨a3, out2⟩ := z
          rw [hv] at h
          simp only at h
          obtain ⟨c, new1, rfl, v1, v2, v3, v4, v5, v6⟩ := ih s a1 out a3 out2 g2 hv
          obtain ⟨j, new2, e1, e2, e3, e4, e5, e6, e7⟩ := itm_q fixed T hT d ih isO f (n + 1) (if isO then s :: nm else nm) a3 _ k a2 o2 h
          have hva := tokK_app d (c :: new1) new2 (new1.length + 1) v2
          rw [List.cons_append] at hva
          have hdrop : (c :: (new1 ++ new2)).drop (new1.length + 1) = new2 := by
            rw [List.drop_succ_cons, List.drop_left]
          have hk3 : kidsN (valN d) (!isO) j (c.name :: nm) new2 = some new2.length := by
            rw [v1]
            cases isO with
            | true => exact e3
            | false => rw [← e3]; exact kidsN_names (valN d) j _ _ _
          refine ⟨j + 1, c :: new1 ++ new2, by omega, by rw [e2]; simp, ?_, ?_, by omega, e6, ?_⟩
          · rw [List.cons_append, kidsN, v1, if_pos g1, hva.1]
            simp only
            rw [hdrop, ← v1, hk3]
            simp only [Option.map_some, List.length_cons, List.length_append]
            congr 1; omega
          · intro x hx
            rcases List.mem_append.1 hx with hx | hx
            · exact v3 x hx
            · exact e4 x hx
          · rw [List.cons_append, kidsK, hva.1, Option.getD_some, hva.2, hdrop]
            have hpre : preK isO (c :: (new1 ++ new2)) = if isO then [nmT s, mkT [58]] else [] := by
              unfold preK
              rw [List.headD_cons, v1]
            rw [hpre]
            have s1 := samesK_app _ _ _ _ g4 v6
            rw [segK_app T a a1 a3 g3 (by omega)] at s1
            have s2 := samesK_app _ _ _ _ s1 e7
            rw [segK_app T a a3 a2 (by omega) (by omega)] at s2
            rw [List.append_assoc] at s2 ⊢
            rw [List.append_assoc]
            exact s2
theorem val_q_step (fixed : Bool) (T : List Tok) (hT : OkK T) (d : Nat) (ih : ∀ e, d = e + 1 → ValQ fixed T e) : ValQ fixed T d := by
  intro name a out a2 o2 hn h
  unfold valP at h
  cases hb : begP fixed T a with
  | false => rw [hb] at h; cases h
  | true =>
    rw [hb] at h
    simp only [Bool.not_true, Bool.false_eq_true, if_false] at h
    split at h
    · cases h
    · split at h
      · rename_i ho
        cases d with
        | zero => cases h
        | succ d =>
          simp only at h
          cases hi : itmP (valP fixed T d) (mrkP T a [123]) T (T.length + 1) 0 [] (a + 1) (out ++ [⟨if mrkP T a [123] then 7 else 6, name, [], 0, 0⟩]) with
          | error e => rw [hi] at h; cases h
          | ok y =>
            obtain ⟨n, a3, o3⟩ := y
            rw [hi] at h
            injection h with h; injection h with h1 h2
            subst h1; subst h2
            obtain ⟨j, new, e1, e2, e3, e4, e5, e6, e7⟩ := itm_q fixed T hT d (ih d rfl) (mrkP T a [123]) _ 0 [] (a + 1) _ n a3 o3 hi
            subst e2
            have ej : n = j := by omega
            subst ej
            have hopn : samesK [mkT (if mrkP T a [123] then [123] else [91])] (segK T a (a + 1)) = true := by
              cases hq : mrkP T a [123] with
              | true => exact (seg_mark hq).1
              | false =>
                unfold opnP at ho
                rw [hq, Bool.or_false] at ho
                exact (seg_mark ho).1
            refine ⟨⟨if mrkP T a [123] then 7 else 6, name, [], 0, (n : Int)⟩, new, ?_, rfl, ?_, ?_, by omega, e6, ?_⟩
            · rw [List.append_assoc, List.singleton_append, modify_app _ _ _ _ _ rfl]
            · rw [valN_more, headN_cons]
              cases hq : mrkP T a [123] with
              | true =>
                rw [hq] at e3
                have hone : oneC ⟨if true then 7 else 6, name, [], 0, (n : Int)⟩ = true := by unfold oneC; simp
                rw [hone]
                have hk : kidsN (valN d) ((7 : UInt8) == 6) n [] new = some new.length := e3
                show (if nestC ⟨7, name, [], 0, (n : Int)⟩ then (kidsN (valN d) ((7 : UInt8) == 6) ((n : Int).toNat) [] new).map (1 + ·) else some 1) = _
                rw [if_pos (show nestC _ = true from rfl), Int.toNat_natCast, hk]
                simp only [Option.map_some]
                congr 1; omega
              | false =>
                rw [hq] at e3
                have hone : oneC ⟨if false then 7 else 6, name, [], 0, (n : Int)⟩ = true := by unfold oneC; simp
                rw [hone]
                have hk : kidsN (valN d) ((6 : UInt8) == 6) n [] new = some new.length := e3
                show (if nestC ⟨6, name, [], 0, (n : Int)⟩ then (kidsN (valN d) ((6 : UInt8) == 6) ((n : Int).toNat) [] new).map (1 + ·) else some 1) = _
                rw [if_pos (show nestC _ = true from rfl), Int.toNat_natCast, hk]
                simp only [Option.map_some]
                congr 1; omega
            · intro x hx
              rcases List.mem_cons.1 hx with e | hx
              · rw [e]
                refine ⟨hn, fun h => ?_, fun _ h => ?_⟩
                · exfalso; revert h; cases mrkP T a [123] <;> simp
                · revert h; cases mrkP T a [123] <;> simp
              · exact e4 x hx
            · rw [tokK_more, headK_cons]
              have s2 := samesK_app _ _ _ _ hopn e7
              rw [segK_app T a (a + 1) a3 (by omega) (by omega)] at s2
              cases hq : mrkP T a [123] with
              | true =>
                rw [hq] at s2
                show samesK (if nestC ⟨7, name, [], 0, (n : Int)⟩ then opnK ⟨7, name, [], 0, (n : Int)⟩ :: (kidsK (valN d) (tokK d) true ((n : Int).toNat) new ++ [shtK ⟨7, name, [], 0, (n : Int)⟩]) else _) _ = true
                rw [if_pos (show nestC _ = true from rfl), Int.toNat_natCast]
                exact s2
              | false =>
                rw [hq] at s2
                show samesK (if nestC ⟨6, name, [], 0, (n : Int)⟩ then opnK ⟨6, name, [], 0, (n : Int)⟩ :: (kidsK (valN d) (tokK d) false ((n : Int).toNat) new ++ [shtK ⟨6, name, [], 0, (n : Int)⟩]) else _) _ = true
                rw [if_pos (show nestC _ = true from rfl), Int.toNat_natCast]
                exact s2
      · rename_i ho
        have ho : opnP T a = false := by simpa using ho
        obtain ⟨c, e1, e2, e3, e4, e5, e6, e7, e8⟩ := leaf_q fixed T hT name hn a out a2 o2 hb ho h
        refine ⟨c, [], e1, e2, ?_, ?_, e6, e7, ?_⟩
        · cases d <;> (first | rw [valN_zero, headN_cons, e3, e4] | rw [valN_more, headN_cons, e3, e4]) <;> rfl
        · intro y hy
          rw [List.mem_singleton] at hy
          rw [hy]
          exact e5
        · have : tokK d [c] = litK c := by
            cases d <;> (first | rw [tokK_zero, headK_cons, e4] | rw [tokK_more, headK_cons, e4]) <;> rfl
          rw [this]; exact e8
theorem val_q (fixed : Bool) (T : List Tok) (hT : OkK T) : ∀ d : Nat, ValQ fixed T d
  | 0 => val_q_step fixed T hT 0 fun e h => by omega
  | d + 1 => val_q_step fixed T hT (d + 1) fun e h => by
    have : e = d := by omega
    subst this
    exact val_q fixed T hT e
/-- May a literal be? -/
def litB (V : List Cel) : Bool := mayB V && V.all fun c => (c.name.isEmpty || nameB c.name) && !(c.kind == 4 && wordsK.contains c.text)
end Go.Proofs.YtgaknbnhmoddcaaGreatDoor
namespace Go.Proofs.YtgaknbnhmoddcaaGreatDoor
open Go.RowKit
theorem ix_indexByteString_run (s : ByteArray) (c : Int) (w : World) :
    (callFunc 118 #[.string s, .int .u8 c]).run Tryz.prog w = .ok (.value (.int .i64 (Lib.indexByte s.data.toList c.toNat.toUInt8))) w := by
  rw [run_callFunc_extern Tryz.func118 (by kernel_rfl) (by kernel_rfl) (by kernel_rfl) (e := Extern.BytealgIndexByte.indexByte) (by kernel_rfl), Lib.run_indexByteString]
  rfl
theorem ix_slIndexByte_any (s : ByteArray) (c : Int) (w : World) :
    Calls Tryz.prog 97 #[.string s, .int .u8 c] w fun e w' => e = .returned (.int .i64 (Lib.indexByte s.data.toList c.toNat.toUInt8)) ∧ w = w' := by
  have h := ix_indexByteString_run s c
  generalize Lib.indexByte s.data.toList c.toNat.toUInt8 = r at *
  go_enter Tryz.func97, Tryz.ntmps97
  go_wp2_with fail
  go_ret
  exact ⟨rfl, rfl⟩
theorem ix_index_one (s : ByteArray) (c : UInt8) (w : World) :
    Calls Tryz.prog 174 #[.string s, .string ⟨#[c]⟩] w fun e w' => e = .returned (.int .i64 (Lib.indexByte s.data.toList c)) ∧ w = w' := by
  by_cases h : s.data.toList = [c]
  · have hs : s = ⟨#[c]⟩ := by
      obtain ⟨d⟩ := s
      have : d = #[c] := by apply Array.ext'; simpa using h
      rw [this]
    subst hs
    have e : Lib.indexByte (⟨#[c]⟩ : ByteArray).data.toList c = 0 := by rw [h]; simp [Lib.indexByte]
    rw [e]
    go_enter Tryz.func174, Tryz.ntmps174
    go_wp2_with fail
    go_ret
    exact ⟨rfl, rfl⟩
  · have hb : ([c] == s.toList) = false := by
      rw [beq_eq_false_iff_ne, ByteArray.toList_eq]; exact fun e => h e.symm
    have H := Lib.hid (fun w => ix_slIndexByte_any s (c.toNat : Int) w)
    rw [show ((c.toNat : Int)).toNat.toUInt8 = c by simp] at H
    clear h
    go_enter Tryz.func174, Tryz.ntmps174
    go_wp2_with fail
    refine (H.out _).mono ?_; rintro e w1 ⟨rfl, rfl⟩
    go_wp2_with fail
    go_ret
    exact ⟨rfl, rfl⟩
theorem ix_sindex (s : ByteArray) (c : UInt8) (w : World) :
    Calls Tryz.prog 165 #[.string s, .string ⟨#[c]⟩] w fun e w' => e = .returned (.int .i64 (Lib.indexByte s.data.toList c)) ∧ w = w' := by
  have H := Lib.hid (fun w => ix_index_one s c w)
  generalize Lib.indexByte s.data.toList c = r at *
  go_enter Tryz.func165, Tryz.ntmps165
  go_wp2_with fail
  refine (H.out _).mono ?_; rintro e w1 ⟨rfl, rfl⟩
  go_wp2_with fail
  go_ret
  exact ⟨rfl, rfl⟩
theorem ix_contains (s : ByteArray) (c : UInt8) (w : World) :
    Calls Tryz.prog 149 #[.string s, .string ⟨#[c]⟩] w fun e w' => e = .returned (.bool (s.data.toList.contains c)) ∧ w = w' := by
  have H := fun w => ix_sindex s c w
  rcases ib_cases c s.data.toList with ⟨g1, n, g2⟩ | ⟨g1, g2⟩
  all_goals
    rw [g1]
    rw [g2] at H
    have HI := Lib.hid H
    clear H g1 g2
    go_enter Tryz.func149, Tryz.ntmps149
    go_wp2_with fail
    refine (HI.out _).mono ?_; rintro e w1 ⟨rfl, rfl⟩
    go_wp2_with fail
    go_ret
    first | exact ⟨rfl, rfl⟩ | exact ⟨ret_b (decide_eq_true (p := (0 : Int) ≤ n) (by omega)), rfl⟩
end Go.Proofs.YtgaknbnhmoddcaaGreatDoor
namespace Go.Proofs.YtgaknbnhmoddcaaGreatDoor
open Go.RowKit
theorem dw_all (p : UInt8 → Bool) : ∀ l : List UInt8, (l.dropWhile p).isEmpty = l.all p
  | [] => rfl
  | a :: l => by
    rw [List.dropWhile_cons, List.all_cons]
    cases p a with
    | true => simpa using dw_all p l
    | false => rfl
theorem dw_all2 (p : UInt8 → Bool) : ∀ l : List UInt8, (l.dropWhile p).all p = l.all p
  | [] => rfl
  | a :: l => by
    rw [List.dropWhile_cons, List.all_cons]
    cases h : p a with
    | true => simpa using dw_all2 p l
    | false => simp [h]
theorem trimS_all (l cs : List UInt8) : (Lib.trimS l cs).isEmpty = l.all (cs.contains ·) := by
  unfold Lib.trimS Lib.trimLeftS Lib.trimRightS
  rw [dw_all, List.all_reverse, dw_all2, List.all_reverse]
theorem nameC_ascii (c : UInt8) (h : nameC c = true) : c.toNat < 128 := by
  unfold nameC at h
  rw [decide_eq_true_eq] at h
  omega
theorem crune_any (c : UInt8) (h : nameC c = true) (w : World) :
    Calls Tryz.prog 120 #[.string ⟨#[95, 97, 98, 99, 100, 101, 102, 103, 104, 105, 106, 107, 108, 109, 110, 111, 112, 113, 114, 115, 116, 117, 118, 119, 120, 121, 122, 65, 66, 67, 68, 69, 70, 71, 72, 73, 74, 75, 76, 77, 78, 79, 80, 81, 82, 83, 84, 85, 86, 87, 88, 89, 90, 48, 49, 50, 51, 52, 53, 54, 55, 56, 57]⟩, .int .i32 (c.toNat : Int)] w fun e w' => e = .returned (.bool true) ∧ w = w' := by
  have ha := nameC_ascii c h
  refine (Tryz.strings_ContainsRune_ascii ⟨#[95, 97, 98, 99, 100, 101, 102, 103, 104, 105, 106, 107, 108, 109, 110, 111, 112, 113, 114, 115, 116, 117, 118, 119, 120, 121, 122, 65, 66, 67, 68, 69, 70, 71, 72, 73, 74, 75, 76, 77, 78, 79, 80, 81, 82, 83, 84, 85, 86, 87, 88, 89, 90, 48, 49, 50, 51, 52, 53, 54, 55, 56, 57]⟩ (c.toNat : Int) w (by omega) (by omega)).mono ?_
  rintro e w' ⟨h1, h2⟩
  refine ⟨?_, h2.symm⟩
  rw [h1, show ((c.toNat : Int)).toNat.toUInt8 = c by simp]
  rcases ib_cases c nameMs with ⟨g1, k, g2⟩ | ⟨g1, g2⟩
  · have : Lib.indexByte (⟨#[95, 97, 98, 99, 100, 101, 102, 103, 104, 105, 106, 107, 108, 109, 110, 111, 112, 113, 114, 115, 116, 117, 118, 119, 120, 121, 122, 65, 66, 67, 68, 69, 70, 71, 72, 73, 74, 75, 76, 77, 78, 79, 80, 81, 82, 83, 84, 85, 86, 87, 88, 89, 90, 48, 49, 50, 51, 52, 53, 54, 55, 56, 57]⟩ : ByteArray).data.toList c = k := g2
    rw [this]
    simp
  · rw [name_ms, h] at g1; cases g1
set_option maxRecDepth 100000 in
theorem nclo_any (c : UInt8) (h : nameC c = true) (w : World) :
    Calls Tryz.prog 151 #[.int .i32 (c.toNat : Int)] w fun e w' => e = .returned (.bool false) ∧ w = w' := by
  have H := Lib.hid (fun w => crune_any c h w)
  clear h
  generalize (c.toNat : Int) = n at *
  go_enter Tryz.func151, Tryz.ntmps151
  go_wp2_with fail
  refine (H.out _).mono ?_; rintro e w1 ⟨rfl, rfl⟩
  go_wp2_with fail
  go_ret
  exact ⟨rfl, rfl⟩
set_option maxRecDepth 100000 in
theorem nindex_any (s : ByteArray) (h : s.data.toList.all nameC = true) (hs : s.size ≤ 1000000) (w : World) :
    Calls Tryz.prog 175 #[.string s, .func (.func 151) #[] #[], .bool true] w fun e w' => e = .returned (.int .i64 (-1)) ∧ Below w.heap.size w w' := by
  have HA : Hid (∀ (k : Nat) (hk : k < s.size), nameC s[k] = true) := Lib.hid fun k hk => List.all_eq_true.1 h s[k] (by rw [show s[k] = s.data.toList[k]'(by rw [len_z]; exact hk) from by simp; rfl]; exact List.getElem_mem _)
  clear h
  go_enter Tryz.func175, Tryz.ntmps175
  go_wp2_with fail
  go_loopg [8] s.size (fun g v wr => ∃ k : Nat, g + k = s.size ∧ wr = w.iter s k) 
  case atStart => exact ⟨0, by omega, rfl⟩
  case round =>
    obtain ⟨k, hk, rfl⟩ := hrel
    by_cases hlt : k < s.size
    · have n0 := fun ty => run_next_ascii (P := Tryz.prog) w s k ty hlt (nameC_ascii _ (HA.out k hlt))
      have H := Lib.hid (fun w => nclo_any s[k] (HA.out k hlt) w)
      obtain ⟨g, rfl⟩ : ∃ g, gk = g + 1 := ⟨gk - 1, by omega⟩
      generalize (s[k].toNat : Int) = n at *
      go_wp2_with fail
      refine (H.out _).mono ?_; rintro e w1 ⟨rfl, rfl⟩
      clear n0
      go_wp2_with fail
      go_roundg g
      case measure => omega
      case rel => exact ⟨k + 1, by omega, rfl⟩
    · have n0 := fun ty => run_next_end (P := Tryz.prog) w s k ty hlt
      go_wp2_with fail
      go_ret
      refine ⟨rfl, ?_⟩
      unfold World.iter
      exact (Below.refl _ _).alloc (Nat.le_refl _) _
set_option maxRecDepth 100000 in
theorem ncontains_any (s : ByteArray) (h : s.data.toList.all nameC = true) (hs : s.size ≤ 1000000) (w : World) :
    Calls Tryz.prog 150 #[.string s, .func (.func 151) #[] #[]] w fun e w' => e = .returned (.bool false) ∧ Below w.heap.size w w' := by
  have H := Lib.hid (fun w => nindex_any s h hs w)
  clear h
  have HI : Hid (∀ w, Calls Tryz.prog 166 #[.string s, .func (.func 151) #[] #[]] w fun e w' => e = .returned (.int .i64 (-1)) ∧ Below w.heap.size w w') := Lib.hid fun w => by
    go_enter Tryz.func166, Tryz.ntmps166
    go_wp2_with fail
    refine (H.out _).mono ?_; rintro e w1 ⟨rfl, hb⟩
    go_wp2_with fail
    go_ret
    exact ⟨rfl, hb⟩
  go_enter Tryz.func150, Tryz.ntmps150
  go_wp2_with fail
  refine (HI.out _).mono ?_; rintro e w1 ⟨rfl, hb⟩
  go_wp2_with fail
  go_ret
  exact ⟨rfl, hb⟩
theorem cname_no (s : ByteArray) (h1 : s.toList = []) (h2 : s.toList.isEmpty = true) (w : World) :
    Calls Tryz.prog 134 #[.string s] w fun e w' => e = .returned (.bool false) ∧ Below w.heap.size w w' := by
  go_enter Tryz.func134, Tryz.ntmps134
  go_wp2_with fail
  go_ret
  exact ⟨rfl, Below.refl _ _⟩
theorem cname_trim (s : ByteArray) (hs : s.size ≤ 1000000) (w : World) :
    Calls Tryz.prog 126 #[.string s, .string ⟨#[95, 97, 98, 99, 100, 101, 102, 103, 104, 105, 106, 107, 108, 109, 110, 111, 112, 113, 114, 115, 116, 117, 118, 119, 120, 121, 122, 65, 66, 67, 68, 69, 70, 71, 72, 73, 74, 75, 76, 77, 78, 79, 80, 81, 82, 83, 84, 85, 86, 87, 88, 89, 90, 48, 49, 50, 51, 52, 53, 54, 55, 56, 57]⟩] w fun e w' => e = .returned (.string ⟨(Lib.trimS s.data.toList nameMs).toArray⟩) ∧ Below w.heap.size w w' :=
  Any.strings_Trim_laid Tryz.lays160 (by kernel_rfl) s ⟨#[95, 97, 98, 99, 100, 101, 102, 103, 104, 105, 106, 107, 108, 109, 110, 111, 112, 113, 114, 115, 116, 117, 118, 119, 120, 121, 122, 65, 66, 67, 68, 69, 70, 71, 72, 73, 74, 75, 76, 77, 78, 79, 80, 81, 82, 83, 84, 85, 86, 87, 88, 89, 90, 48, 49, 50, 51, 52, 53, 54, 55, 56, 57]⟩ w (by omega) (by decide) (ascii_of_all (by decide))
set_option maxRecDepth 100000 in
theorem cname_out (s t : ByteArray) (h1 : ¬ s.toList = []) (h2 : s.toList.isEmpty = false) (H : Hid (∀ w, Calls Tryz.prog 126 #[.string s, .string ⟨#[95, 97, 98, 99, 100, 101, 102, 103, 104, 105, 106, 107, 108, 109, 110, 111, 112, 113, 114, 115, 116, 117, 118, 119, 120, 121, 122, 65, 66, 67, 68, 69, 70, 71, 72, 73, 74, 75, 76, 77, 78, 79, 80, 81, 82, 83, 84, 85, 86, 87, 88, 89, 90, 48, 49, 50, 51, 52, 53, 54, 55, 56, 57]⟩] w fun e w' => e = .returned (.string t) ∧ Below w.heap.size w w'))
    (h3 : ¬ t.toList = []) (h4 : t.toList.isEmpty = false) (w : World) :
    Calls Tryz.prog 134 #[.string s] w fun e w' => e = .returned (.bool false) ∧ Below w.heap.size w w' := by
  go_enter Tryz.func134, Tryz.ntmps134
  go_wp2_with fail
  refine (H.out _).mono ?_; rintro e w1 ⟨rfl, hb⟩
  go_wp2_with fail
  go_ret
  exact ⟨rfl, hb⟩
set_option maxRecDepth 100000 in
theorem cname_in (s : ByteArray) (d : Bool) (hsz : 0 < s.size) (h1 : ¬ s.toList = []) (h2 : s.toList.isEmpty = false) (H : Hid (∀ w, Calls Tryz.prog 126 #[.string s, .string ⟨#[95, 97, 98, 99, 100, 101, 102, 103, 104, 105, 106, 107, 108, 109, 110, 111, 112, 113, 114, 115, 116, 117, 118, 119, 120, 121, 122, 65, 66, 67, 68, 69, 70, 71, 72, 73, 74, 75, 76, 77, 78, 79, 80, 81, 82, 83, 84, 85, 86, 87, 88, 89, 90, 48, 49, 50, 51, 52, 53, 54, 55, 56, 57]⟩] w fun e w' => e = .returned (.string ⟨#[]⟩) ∧ Below w.heap.size w w'))
    (HC : Hid (∀ w, Calls Tryz.prog 149 #[.string ⟨#[48, 49, 50, 51, 52, 53, 54, 55, 56, 57]⟩, .string (s.extract 0 1)] w fun e w' => e = .returned (.bool d) ∧ w = w'))
    (HF : Hid (∀ w, Calls Tryz.prog 150 #[.string s, .func (.func 151) #[] #[]] w fun e w' => e = .returned (.bool false) ∧ Below w.heap.size w w')) (w : World) :
    Calls Tryz.prog 134 #[.string s] w fun e w' => e = .returned (.bool !d) ∧ Below w.heap.size w w' := by
  cases d with
  | true =>
    go_enter Tryz.func134, Tryz.ntmps134
    go_wp2_with fail
    refine (H.out _).mono ?_; rintro e w1 ⟨rfl, hb⟩
    go_wp2_with fail
    refine (HC.out _).mono ?_; rintro e w2 ⟨rfl, rfl⟩
    go_wp2_with fail
    go_ret
    exact ⟨rfl, hb⟩
  | false =>
    go_enter Tryz.func134, Tryz.ntmps134
    go_wp2_with fail
    refine (H.out _).mono ?_; rintro e w1 ⟨rfl, hb⟩
    have HB := Lib.hid hb
    have hz := hb.size
    clear hb
    go_wp2_with fail
    refine (HC.out _).mono ?_; rintro e w2 ⟨rfl, rfl⟩
    go_wp2_with fail
    refine (HF.out _).mono ?_; rintro e w3 ⟨rfl, hb⟩
    have HB2 := Lib.hid (HB.out.trans (hb.mono hz))
    clear hb
    go_wp2_with fail
    go_ret
    exact ⟨rfl, HB2.out⟩
theorem cname_any (s : ByteArray) (hs : s.size ≤ 1000000) (w : World) :
    Calls Tryz.prog 134 #[.string s] w fun e w' => e = .returned (.bool (nameB s.data.toList)) ∧ Below w.heap.size w w' := by
  rcases empty_z s with ⟨h0, h1, h2, h3⟩ | ⟨h0, h1, h2, h3⟩
  · have hd := head_z s h0
    have hT := trimS_all s.data.toList nameMs
    rw [show (nameMs.contains ·) = nameC from funext name_ms] at hT
    have hnb : nameB s.data.toList = (!isDig s[0] && s.data.toList.all nameC) := by rw [hd]; rfl
    cases hall : s.data.toList.all nameC with
    | false =>
      rw [hall] at hT
      rw [hnb, hall, Bool.and_false]
      refine cname_out s ⟨(Lib.trimS s.data.toList nameMs).toArray⟩ h1 h2 (Lib.hid fun w => cname_trim s hs w) ?_ ?_ w
      · rw [ByteArray.toList_eq]; intro e
        have : Lib.trimS s.data.toList nameMs = [] := by simpa using e
        rw [this] at hT; cases hT
      · rw [ByteArray.toList_eq]; simpa using hT
    | true =>
      rw [hall] at hT
      rw [hnb, hall, Bool.and_true]
      refine cname_in s (isDig s[0]) h0 h1 h2 (Lib.hid fun w => ?_) (Lib.hid fun w => ?_) (Lib.hid fun w => ncontains_any s hall hs w) w
      · have := cname_trim s hs w
        rw [List.isEmpty_iff.1 hT] at this
        exact this
      · have he : s.extract 0 1 = ⟨#[s[0]]⟩ := by
          have hx : (s.extract 0 1).data.toList = [s[0]] := by
            have := Lib.extract_data s 0 1
            rw [this, hd]; simp
          exact bytes_ext' hx
        rw [he]
        have := ix_contains ⟨#[48, 49, 50, 51, 52, 53, 54, 55, 56, 57]⟩ s[0] w
        rw [show (⟨#[48, 49, 50, 51, 52, 53, 54, 55, 56, 57]⟩ : ByteArray).data.toList = ([48, 49, 50, 51, 52, 53, 54, 55, 56, 57] : List UInt8) from rfl, dig_ms] at this
        exact this
  · rw [h3]
    exact cname_no s h1 h2 w
end Go.Proofs.YtgaknbnhmoddcaaGreatDoor
