/- A text's Decimal, whole (money: Parse). -/
import Derived.Test.YtpkkejcndmcbiaaGreatDoorMi
set_option linter.unusedSimpArgs false
set_option linter.unusedVariables false
namespace Go.Proofs.YtpkkejcndmcbiaaGreatDoor
open Go.RowKit
theorem num_drop0 : ∀ l : List UInt8, num (l.dropWhile (· == 48)) = num l
  | [] => rfl
  | c :: l => by
    by_cases h : c = 48
    · subst h
      rw [List.dropWhile_cons_of_pos (by rfl), num_drop0 l]
      have := num_zeros 1 l
      exact this.symm
    · rw [List.dropWhile_cons_of_neg (by simpa using h)]
theorem ok_drop0 (l : List UInt8) (h : l.all isDig = true) (hz : l.dropWhile (· == 48) ≠ []) : okDigits (l.dropWhile (· == 48)) = true := by
  have ha : (l.dropWhile (· == 48)).all isDig = true := List.all_eq_true.2 fun x hx => List.all_eq_true.1 h x ((List.dropWhile_sublist _).subset hx)
  have hh := List.head_dropWhile_not (p := (· == (48 : UInt8))) (l := l) hz
  generalize l.dropWhile (· == 48) = z at *
  obtain ⟨c, r, rfl⟩ : ∃ c r, z = c :: r := by
    cases z with
    | nil => exact absurd rfl hz
    | cons c r => exact ⟨c, r, rfl⟩
  unfold okDigits digitsB
  rw [ha]
  simp only [List.head_cons] at hh
  have : ((c :: r).head? == some 48) = false := by
    simp only [List.head?_cons]
    rw [beq_eq_false_iff_ne] at hh ⊢
    simpa using hh
  rw [this]; rfl
theorem ok_below (l : List UInt8) (h : okDigits l = true) : below l = false := by
  cases l with
  | nil => rfl
  | cons c r =>
    simp only [okDigits, digitsB, Bool.and_eq_true, List.all_cons] at h
    exact dig_dash h.1.1.1
theorem body_id (l : List UInt8) (h : below l = false) : body l = l := by unfold body; rw [h]; rfl
theorem okd_all (l : List UInt8) (h : okDigits l = true) : l.all isDig = true := by
  simp only [okDigits, digitsB, Bool.and_eq_true] at h; exact h.1.1
theorem rdE_bad (l : List UInt8) (h : okDigits (body l) = false) : rdE l = 21 := by unfold rdE; rw [h]; rfl
theorem rdE_fine (l : List UInt8) (h : okDigits (body l) = true) : (rdE l == 21) = false := by
  unfold rdE err; rw [h]; simp only [if_true, beq_eq_false_iff_ne]; split <;> omega
theorem p_bad (l : List UInt8) (h : parseOk l = false) : pM l = 0 ∧ pS l = 0 ∧ pE l = 140 := by
  unfold pM pS pE; rw [h]; exact ⟨rfl, rfl, rfl⟩
theorem p_fine (l : List UInt8) (h : parseOk l = true) : pM l = (norm (back (body l)).length (pN l)).1 ∧ pS l = ((norm (back (body l)).length (pN l)).2 : Nat) ∧ pE l = 0 := by
  unfold pM pS pE; rw [h]; exact ⟨rfl, rfl, rfl⟩
theorem p_zero (l : List UInt8) (h : parseOk l = true) (h0 : pN l = 0) : pM l = 0 ∧ pS l = 0 ∧ pE l = 0 := by
  obtain ⟨h1, h2, h3⟩ := p_fine l h
  rw [h1, h2, h3, h0, norm_zero]; exact ⟨rfl, rfl, rfl⟩
theorem toList_mk (l : List UInt8) : (⟨l.toArray⟩ : ByteArray).toList = l := by rw [ByteArray.toList_eq]
theorem size_mk (l : List UInt8) : (⟨l.toArray⟩ : ByteArray).size = l.length := by show l.toArray.size = _; simp
theorem front_len (l : List UInt8) : (front l).length ≤ l.length := (List.takeWhile_sublist _).length_le
theorem back_len (l : List UInt8) : (back l).length ≤ l.length := by
  unfold back
  have := (List.dropWhile_sublist (p := (· != (46 : UInt8))) (l := l)).length_le
  rw [List.length_tail]; omega
theorem rd_pos (z : List UInt8) (h : okDigits z = true) : rdV z = val (num z) ∧ rdE z = err (num z) := by
  have hb := ok_below z h
  unfold rdV rdE signed
  rw [body_id z hb, h, hb]; exact ⟨rfl, rfl⟩
theorem rd_neg (z : List UInt8) (h : okDigits z = true) : rdV (45 :: z) = val (-(num z : Int)) ∧ rdE (45 :: z) = err (-(num z : Int)) := by
  unfold rdV rdE signed
  have e : body (45 :: z) = z := rfl
  have e2 : below (45 :: z) = true := rfl
  rw [e, e2, h]; exact ⟨rfl, rfl⟩
theorem err_ne {n : Int} (h : inR n = false) : (err n != 0) = true := by
  rw [err_out (fun q => by rw [(inR_iff n).2 q] at h; cases h)]; rfl
theorem mparse_any (s : ByteArray) (hs : s.size ≤ 1000000) (w : World) (he : Env w) :
    Calls Tryz.prog 60 #[.string s] w fun e w' => e = .returned (.tuple #[.agg #[.int .i64 (pM s.data.toList), .int .i64 (pS s.data.toList)], .int .i64 (pE s.data.toList)]) ∧ Below w.heap.size w w' := by
  obtain ⟨l, hl⟩ : ∃ l, s.data.toList = l := ⟨_, rfl⟩
  rw [hl]
  have hll : l.length ≤ 1000000 := by rw [← hl, Array.length_toList]; exact hs
  have hbl := body_len l
  have hfl := front_len (body l)
  have hkl := back_len (body l)
  have HC := Lib.hid (fun w => cut_dash s ⟨(body l).toArray⟩ (below l) (by rw [hl]) (by rw [hl]) w)
  have HK := Lib.hid (fun w => cut_one ⟨(body l).toArray⟩ 46 (by rw [size_mk]; unfold maxLen; omega) w)
  have HR := Lib.hid (fun w he => read_any ⟨(front (body l)).toArray⟩ (by rw [size_mk]; omega) w he)
  have HP := Lib.hid (fun w => (Tryz.strings_HasPrefix ⟨(front (body l)).toArray⟩ ⟨#[45]⟩ w).mono fun e w' ⟨a, b⟩ => (⟨a, b.symm⟩ : _ ∧ w = w'))
  rw [show (⟨(front (body l)).toArray⟩ : ByteArray).data.toList = front (body l) from rfl, show (⟨#[45]⟩ : ByteArray).data.toList = [45] from rfl, hasPrefix_dash] at HP
  rw [show (⟨(front (body l)).toArray⟩ : ByteArray).data.toList = front (body l) from rfl] at HR
  rw [show (⟨(body l).toArray⟩ : ByteArray).data.toList = body l from rfl, show (ahead 46 (body l)) = front (body l) from rfl, show (behind 46 (body l)) = back (body l) from rfl, show ((body l).contains 46) = point (body l) from rfl] at HK
  have hok : parseOk l = (okDigits (front (body l)) && (!point (body l) || okBack (back (body l))) && inR (pN l)) := rfl
  have hpN : pN l = if below l then -(num (front (body l) ++ back (body l)) : Int) else num (front (body l) ++ back (body l)) := rfl
  have hpm := p_fine l
  have hpz := p_zero l
  have hpb := p_bad l
  have hfn := front_none (body l)
  generalize pN l = N at *
  generalize parseOk l = ok at *
  generalize pM l = rM at *
  generalize pS l = rS at *
  generalize pE l = rE at *
  generalize front (body l) = f at *
  generalize back (body l) = b at *
  generalize point (body l) = pt at *
  generalize below l = bl at *
  cases h1 : okDigits (body f) with
  | false =>
    have hf : okDigits f = false := by
      cases q : okDigits f with
      | false => rfl
      | true => rw [body_id f (ok_below f q), q] at h1; cases h1
    rw [hf] at hok
    obtain ⟨rfl, rfl, rfl⟩ := hpb hok
    exact parse_e1 s _ _ _ _ _ _ _ w he HC HK HR (by rw [rdE_bad f h1]; rfl)
  | true =>
    have hE := rdE_fine f h1
    cases h2 : below f with
    | true =>
      have hf : okDigits f = false := by
        cases q : okDigits f with
        | false => rfl
        | true => rw [ok_below f q] at h2; cases h2
      rw [hf] at hok
      obtain ⟨rfl, rfl, rfl⟩ := hpb hok
      rw [h2] at HP
      exact parse_e2 s _ _ _ _ _ _ _ w he HC HK HR hE HP
    | false =>
      rw [body_id f h2] at h1
      rw [h2] at HP
      rw [h1, Bool.true_and] at hok
      have hfa := okd_all f h1
      cases hpt : pt with
      | false =>
        subst hpt
        have hb0 : b = [] := (hfn rfl).2
        rw [Bool.not_false, Bool.true_or, Bool.true_and] at hok
        have hba : b.all isDig = true := by rw [hb0]; rfl
        have hb18 : b.length ≤ 18 := by rw [hb0]; decide
        obtain ⟨z, hz⟩ : ∃ z, (f ++ b).dropWhile (· == 48) = z := ⟨_, rfl⟩
        have hzn : num z = num (f ++ b) := by rw [← hz, num_drop0]
        have hzl : z.length ≤ f.length + b.length := by
          have := (List.dropWhile_sublist (p := (· == (48 : UInt8))) (l := f ++ b)).length_le
          rw [hz, List.length_append] at this; exact this
        have HL : Hid (∀ w, Calls Tryz.prog 94 #[.string (⟨f.toArray⟩ ++ ⟨b.toArray⟩), .string ⟨#[48]⟩] w fun e w' => e = .returned (.string ⟨z.toArray⟩) ∧ w' = w) := Lib.hid fun w => by
          rw [cat]
          have := Tryz.strings_TrimLeft_one ⟨(f ++ b).toArray⟩ 48 (by decide) w
          rw [show Lib.trimLeftB (⟨(f ++ b).toArray⟩ : ByteArray).data.toList 48 = z from hz] at this
          exact this
        have hfs : (⟨f.toArray⟩ : ByteArray).size ≤ 140737488355328 := by rw [size_mk]; omega
        have hbs : (⟨b.toArray⟩ : ByteArray).size ≤ 140737488355328 := by rw [size_mk]; omega
        rw [← hzn] at hpN
        by_cases hz0 : z = []
        · subst hz0
          have hN : N = 0 := by rw [hpN]; cases bl <;> rfl
          have hi : inR N = true := by rw [hN]; rfl
          rw [hi] at hok
          obtain ⟨rfl, rfl, rfl⟩ := hpz hok hN
          exact parse_z_np s _ _ _ _ _ _ _ w he HC HK HR hE HP rfl hfs hbs _ HL (by rw [toList_mk]) (by rw [toList_mk]; rfl)
        · have hzo : okDigits z = true := by rw [← hz]; exact ok_drop0 _ (by rw [List.all_append, hfa, hba]; rfl) (by rw [hz]; exact hz0)
          have hz1 : ¬ (⟨z.toArray⟩ : ByteArray).toList = [] := by rw [toList_mk]; exact hz0
          have hz2 : (⟨z.toArray⟩ : ByteArray).toList.isEmpty = false := by rw [toList_mk]; simpa using hz0
          have hzs : (⟨z.toArray⟩ : ByteArray).size ≤ 281474976710656 := by rw [size_mk]; omega
          cases bl with
          | false =>
            simp only [Bool.false_eq_true, if_false] at hpN
            obtain ⟨r1, r2⟩ := rd_pos z hzo
            rw [← hpN] at r1 r2
            have HR2 := Lib.hid (fun w he => read_any ⟨z.toArray⟩ hzs w he)
            rw [show (⟨z.toArray⟩ : ByteArray).data.toList = z from rfl, r1, r2] at HR2
            cases hi : inR N with
            | false =>
              rw [hi] at hok
              obtain ⟨rfl, rfl, rfl⟩ := hpb hok
              exact parse_o_np_false s _ _ _ _ _ _ _ w he HC HK HR hE HP rfl hfs hbs _ HL rfl hz1 hz2 hzs _ _ HR2 (err_ne hi)
            | true =>
              rw [hi] at hok
              have hr := (inR_iff N).1 hi
              obtain ⟨rfl, rfl, rfl⟩ := hpm hok
              rw [val_in hr, err_in hr] at HR2
              exact parse_m_np_false s _ _ _ _ _ _ _ w he HC HK HR hE HP rfl hfs hbs _ HL rfl hz1 hz2 hzs _ _ HR2 rfl hr (by rw [size_mk]; omega) _ _ (Lib.hid (by rw [size_mk]))
          | true =>
            simp only [if_true] at hpN
            obtain ⟨r1, r2⟩ := rd_neg z hzo
            rw [← hpN] at r1 r2
            have HR2 : Hid (∀ w, Env w → Calls Tryz.prog 91 #[.string (⟨#[45]⟩ ++ ⟨z.toArray⟩)] w fun e' w' => e' = .returned (.tuple #[.int .i64 (val N), .int .i64 (err N)]) ∧ Below w.heap.size w w') := Lib.hid fun w he => by
              have := read_any ⟨(45 :: z).toArray⟩ (by rw [size_mk]; simp; omega) w he
              rw [show (⟨(45 :: z).toArray⟩ : ByteArray).data.toList = 45 :: z from rfl, r1, r2] at this
              rw [show (⟨#[45]⟩ ++ ⟨z.toArray⟩ : ByteArray) = ⟨(45 :: z).toArray⟩ from cat [45] z]
              exact this
            cases hi : inR N with
            | false =>
              rw [hi] at hok
              obtain ⟨rfl, rfl, rfl⟩ := hpb hok
              exact parse_o_np_true s _ _ _ _ _ _ _ w he HC HK HR hE HP rfl hfs hbs _ HL rfl hz1 hz2 hzs _ _ HR2 (err_ne hi)
            | true =>
              rw [hi] at hok
              have hr := (inR_iff N).1 hi
              obtain ⟨rfl, rfl, rfl⟩ := hpm hok
              rw [val_in hr, err_in hr] at HR2
              exact parse_m_np_true s _ _ _ _ _ _ _ w he HC HK HR hE HP rfl hfs hbs _ HL rfl hz1 hz2 hzs _ _ HR2 rfl hr (by rw [size_mk]; omega) _ _ (Lib.hid (by rw [size_mk]))
      | true =>
        subst hpt
        rw [Bool.not_true, Bool.false_or] at hok
        by_cases hb0 : b = []
        · subst hb0
          obtain ⟨rfl, rfl, rfl⟩ := hpb hok
          exact parse_e3 s _ _ _ _ _ _ _ w he HC HK HR hE HP rfl (by rw [toList_mk]) (by rw [toList_mk]; rfl)
        · have h3 : ¬ (⟨b.toArray⟩ : ByteArray).toList = [] := by rw [toList_mk]; exact hb0
          have h4 : (⟨b.toArray⟩ : ByteArray).toList.isEmpty = false := by rw [toList_mk]; simpa using hb0
          by_cases hb18 : b.length ≤ 18
          · have h5 : (⟨b.toArray⟩ : ByteArray).size ≤ 18 := by rw [size_mk]; exact hb18
            have HT := Lib.hid (fun w => trim_any ⟨b.toArray⟩ (by rw [size_mk]; omega) w)
            rw [show (⟨b.toArray⟩ : ByteArray).data.toList = b from rfl] at HT
            cases hba : b.all isDig with
            | false =>
              have hbk : okBack b = false := by unfold okBack digitsB; rw [hba]; rfl
              rw [hbk] at hok
              obtain ⟨rfl, rfl, rfl⟩ := hpb hok
              have ht : ¬ Lib.trimS b [48, 49, 50, 51, 52, 53, 54, 55, 56, 57] = [] := fun q => by rw [(trim_digits b).1 q] at hba; cases hba
              exact parse_e5 s _ _ _ _ _ _ _ w he HC HK HR _ hE HP rfl h3 h4 h5 HT (by rw [toList_mk]; exact ht) (by rw [toList_mk]; simpa using ht)
            | true =>
              have hbk : okBack b = true := by
                unfold okBack digitsB; rw [hba]
                have : b.isEmpty = false := by simpa using hb0
                rw [this]; simpa using hb18
              rw [hbk, Bool.true_and] at hok
              have ht : Lib.trimS b [48, 49, 50, 51, 52, 53, 54, 55, 56, 57] = [] := (trim_digits b).2 hba
              have h6 : (⟨(Lib.trimS b [48, 49, 50, 51, 52, 53, 54, 55, 56, 57]).toArray⟩ : ByteArray).toList = [] := by rw [toList_mk, ht]
              have h7 : (⟨(Lib.trimS b [48, 49, 50, 51, 52, 53, 54, 55, 56, 57]).toArray⟩ : ByteArray).toList.isEmpty = true := by rw [toList_mk, ht]; rfl
              obtain ⟨z, hz⟩ : ∃ z, (f ++ b).dropWhile (· == 48) = z := ⟨_, rfl⟩
              have hzn : num z = num (f ++ b) := by rw [← hz, num_drop0]
              have hzl : z.length ≤ f.length + b.length := by
                have := (List.dropWhile_sublist (p := (· == (48 : UInt8))) (l := f ++ b)).length_le
                rw [hz, List.length_append] at this; exact this
              have HL : Hid (∀ w, Calls Tryz.prog 94 #[.string (⟨f.toArray⟩ ++ ⟨b.toArray⟩), .string ⟨#[48]⟩] w fun e w' => e = .returned (.string ⟨z.toArray⟩) ∧ w' = w) := Lib.hid fun w => by
                rw [cat]
                have := Tryz.strings_TrimLeft_one ⟨(f ++ b).toArray⟩ 48 (by decide) w
                rw [show Lib.trimLeftB (⟨(f ++ b).toArray⟩ : ByteArray).data.toList 48 = z from hz] at this
                exact this
              have hfs : (⟨f.toArray⟩ : ByteArray).size ≤ 140737488355328 := by rw [size_mk]; omega
              have hbs : (⟨b.toArray⟩ : ByteArray).size ≤ 140737488355328 := by rw [size_mk]; omega
              rw [← hzn] at hpN
              by_cases hz0 : z = []
              · subst hz0
                have hN : N = 0 := by rw [hpN]; cases bl <;> rfl
                have hi : inR N = true := by rw [hN]; rfl
                rw [hi] at hok
                obtain ⟨rfl, rfl, rfl⟩ := hpz hok hN
                exact parse_z_pt s _ _ _ _ _ _ _ w he HC HK HR hE HP _ rfl h3 h4 h5 HT h6 h7 hfs hbs _ HL (by rw [toList_mk]) (by rw [toList_mk]; rfl)
              · have hzo : okDigits z = true := by rw [← hz]; exact ok_drop0 _ (by rw [List.all_append, hfa, hba]; rfl) (by rw [hz]; exact hz0)
                have hz1 : ¬ (⟨z.toArray⟩ : ByteArray).toList = [] := by rw [toList_mk]; exact hz0
                have hz2 : (⟨z.toArray⟩ : ByteArray).toList.isEmpty = false := by rw [toList_mk]; simpa using hz0
                have hzs : (⟨z.toArray⟩ : ByteArray).size ≤ 281474976710656 := by rw [size_mk]; omega
                cases bl with
                | false =>
                  simp only [Bool.false_eq_true, if_false] at hpN
                  obtain ⟨r1, r2⟩ := rd_pos z hzo
                  rw [← hpN] at r1 r2
                  have HR2 := Lib.hid (fun w he => read_any ⟨z.toArray⟩ hzs w he)
                  rw [show (⟨z.toArray⟩ : ByteArray).data.toList = z from rfl, r1, r2] at HR2
                  cases hi : inR N with
                  | false =>
                    rw [hi] at hok
                    obtain ⟨rfl, rfl, rfl⟩ := hpb hok
                    exact parse_o_pt_false s _ _ _ _ _ _ _ w he HC HK HR hE HP _ rfl h3 h4 h5 HT h6 h7 hfs hbs _ HL rfl hz1 hz2 hzs _ _ HR2 (err_ne hi)
                  | true =>
                    rw [hi] at hok
                    have hr := (inR_iff N).1 hi
                    obtain ⟨rfl, rfl, rfl⟩ := hpm hok
                    rw [val_in hr, err_in hr] at HR2
                    exact parse_m_pt_false s _ _ _ _ _ _ _ w he HC HK HR hE HP _ rfl h3 h4 h5 HT h6 h7 hfs hbs _ HL rfl hz1 hz2 hzs _ _ HR2 rfl hr (by rw [size_mk]; omega) _ _ (Lib.hid (by rw [size_mk]))
                | true =>
                  simp only [if_true] at hpN
                  obtain ⟨r1, r2⟩ := rd_neg z hzo
                  rw [← hpN] at r1 r2
                  have HR2 : Hid (∀ w, Env w → Calls Tryz.prog 91 #[.string (⟨#[45]⟩ ++ ⟨z.toArray⟩)] w fun e' w' => e' = .returned (.tuple #[.int .i64 (val N), .int .i64 (err N)]) ∧ Below w.heap.size w w') := Lib.hid fun w he => by
                    have := read_any ⟨(45 :: z).toArray⟩ (by rw [size_mk]; simp; omega) w he
                    rw [show (⟨(45 :: z).toArray⟩ : ByteArray).data.toList = 45 :: z from rfl, r1, r2] at this
                    rw [show (⟨#[45]⟩ ++ ⟨z.toArray⟩ : ByteArray) = ⟨(45 :: z).toArray⟩ from cat [45] z]
                    exact this
                  cases hi : inR N with
                  | false =>
                    rw [hi] at hok
                    obtain ⟨rfl, rfl, rfl⟩ := hpb hok
                    exact parse_o_pt_true s _ _ _ _ _ _ _ w he HC HK HR hE HP _ rfl h3 h4 h5 HT h6 h7 hfs hbs _ HL rfl hz1 hz2 hzs _ _ HR2 (err_ne hi)
                  | true =>
                    rw [hi] at hok
                    have hr := (inR_iff N).1 hi
                    obtain ⟨rfl, rfl, rfl⟩ := hpm hok
                    rw [val_in hr, err_in hr] at HR2
                    exact parse_m_pt_true s _ _ _ _ _ _ _ w he HC HK HR hE HP _ rfl h3 h4 h5 HT h6 h7 hfs hbs _ HL rfl hz1 hz2 hzs _ _ HR2 rfl hr (by rw [size_mk]; omega) _ _ (Lib.hid (by rw [size_mk]))
          · have hbk : okBack b = false := by unfold okBack; rw [decide_eq_false hb18, Bool.and_false]
            rw [hbk] at hok
            obtain ⟨rfl, rfl, rfl⟩ := hpb hok
            exact parse_e4 s _ _ _ _ _ _ _ w he HC HK HR hE HP rfl h3 h4 (by rw [size_mk]; omega) (by rw [size_mk]; omega)
end Go.Proofs.YtpkkejcndmcbiaaGreatDoor
