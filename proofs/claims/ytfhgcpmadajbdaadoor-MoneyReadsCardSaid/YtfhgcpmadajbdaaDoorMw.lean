/- The law on what texts tell (provostlaw14.MoneyReads), and the reference's Parse, whole. -/
import Derived.Test.YtfhgcpmadajbdaaDoorMv
import Derived.Test.YtfhgcpmadajbdaaDoorMk
set_option linter.unusedSimpArgs false
set_option linter.unusedVariables false
namespace Go.Proofs.YtfhgcpmadajbdaaDoor
open Go.RowKit
theorem ahead_body (l : List UInt8) : ahead 46 l = (if below l then [45] else []) ++ front (body l) ∧ behind 46 l = back (body l) ∧ l.contains 46 = point (body l) := by
  cases l with
  | nil => exact ⟨rfl, rfl, rfl⟩
  | cons c r =>
    cases h : below (c :: r) with
    | true =>
      have hc : c = 45 := by simpa [below] using h
      subst hc
      have e : body (45 :: r) = r := rfl
      rw [e]
      refine ⟨?_, ?_, ?_⟩
      · unfold ahead front; rw [List.takeWhile_cons_of_pos (by decide)]; rfl
      · unfold behind back; rw [List.dropWhile_cons_of_pos (by decide)]
      · unfold point; rw [List.contains_cons]; simp
    | false =>
      rw [body_id _ h]
      exact ⟨rfl, rfl, rfl⟩
theorem rparse_any (s : ByteArray) (hs : s.size ≤ 2000) (w : World) :
    Calls Tryd.prog 20 #[.string s] w fun e w' => e = .returned (.tuple #[.agg #[.int .i64 (pM s.data.toList), .int .i64 (pS s.data.toList)], .int .i64 (pE s.data.toList)]) ∧ Below w.heap.size w w' := by
  obtain ⟨l, hl⟩ : ∃ l, s.data.toList = l := ⟨_, rfl⟩
  have hll : l.length = s.size := by rw [← hl, Array.length_toList]; rfl
  obtain ⟨a1, a2, a3⟩ := ahead_body l
  obtain ⟨p, hp⟩ : ∃ p, (ahead 46 l).length = p := ⟨_, rfl⟩
  have hpl : p ≤ s.size := by rw [← hll, ← hp]; exact (List.takeWhile_sublist _).length_le
  have HQ0 : Hid (pt s.data.toList 0 = p) := Lib.hid (by rw [hl, ← hp]; unfold pt; simp)
  have HQn : Hid (pt s.data.toList s.size = s.size) := Lib.hid (pt_end s)
  have HQs := Lib.hid (pt_step s)
  have htake : l.take p = ahead 46 l := by
    rw [← hp]
    exact (List.prefix_iff_eq_take.1 (List.takeWhile_prefix _)).symm
  have hx1 : s.extract 0 p = ⟨(ahead 46 l).toArray⟩ := bytes_ext (by rw [Lib.extract_data, hl, List.drop_zero, Nat.sub_zero, htake])
  have HR := Lib.hid (fun w => rread_any ⟨(ahead 46 l).toArray⟩ w (by rw [size_mk, hp]; unfold maxLen; omega))
  rw [show (⟨(ahead 46 l).toArray⟩ : ByteArray).data.toList = ahead 46 l from rfl] at HR
  rw [hl]
  have hok : parseOk l = (okDigits (front (body l)) && (!point (body l) || okBack (back (body l))) && inR (pN l)) := rfl
  have hpN : pN l = if below l then -(num (front (body l) ++ back (body l)) : Int) else num (front (body l) ++ back (body l)) := rfl
  have hpm := p_fine l
  have hpb := p_bad l
  have hfn := front_none (body l)
  have hbh : below (ahead 46 l) = below l ∧ body (ahead 46 l) = front (body l) := by
    rw [a1]
    cases hb : below l with
    | true => exact ⟨rfl, rfl⟩
    | false =>
      rw [body_id l hb]
      simp only [Bool.false_eq_true, if_false, List.nil_append]
      have : below (front l) = false := by
        cases l with
        | nil => rfl
        | cons c r =>
          unfold front
          cases hc : (c != 46) with
          | true => rw [List.takeWhile_cons_of_pos (p := (· != (46 : UInt8))) hc]; exact hb
          | false => rw [List.takeWhile_cons_of_neg (p := (· != (46 : UInt8))) (by simpa using hc)]; rfl
      exact ⟨this, body_id _ this⟩
  obtain ⟨hb1, hb2⟩ := hbh
  have hal : (ahead 46 l).length = (if below l then 1 else 0) + (front (body l)).length := by rw [a1]; cases below l <;> simp; omega
  have hcut : point (body l) = true → l.drop (p + 1) = back (body l) ∧ p < l.length := by
    intro hpt
    obtain ⟨t1, t2, t3⟩ := ahead_take 46 l (by rw [a3]; exact hpt)
    rw [hp] at t2 t3
    exact ⟨t2.trans a2, t3⟩
  have hno : point (body l) = false → p = s.size := by
    intro hpt
    obtain ⟨t1, _⟩ := behind_nil_of 46 l (by rw [a3]; exact hpt)
    rw [← hp, t1, hll]
  have hbl := body_len l
  generalize pN l = N at *
  generalize parseOk l = ok at *
  generalize pM l = rM at *
  generalize pS l = rS at *
  generalize pE l = rE at *
  generalize hh : ahead 46 l = h at *
  generalize front (body l) = f at *
  generalize back (body l) = b at *
  generalize point (body l) = pp at *
  generalize below l = bl at *
  have hhs : (⟨h.toArray⟩ : ByteArray).size = p := by rw [size_mk, hp]
  cases h1 : okDigits f with
  | false =>
    rw [h1] at hok
    obtain ⟨rfl, rfl, rfl⟩ := hpb hok
    exact rparse_e1 s _ p _ _ w hs hpl _ HQ0 HQn HQs hx1 HR (by rw [rdE_bad h (by rw [hb2]; exact h1)]; rfl)
  | true =>
    have hE := rdE_fine h (by rw [hb2]; exact h1)
    rw [h1, Bool.true_and] at hok
    have hfa := okd_all f h1
    have hf0 : f ≠ [] := by rintro rfl; cases h1
    have hfl : 1 ≤ f.length := List.length_pos_iff.2 hf0
    have hh0 : 0 < (⟨h.toArray⟩ : ByteArray).size := by rw [hhs]; omega
    have hdash : ((((⟨h.toArray⟩ : ByteArray)[0]'hh0).toNat : Int) == 45) = bl := by
      rw [← below_eq _ hh0]; exact hb1
    have hx3 : bl = true → (⟨h.toArray⟩ : ByteArray).extract 1 (⟨h.toArray⟩ : ByteArray).size = ⟨f.toArray⟩ := fun hb => by
      subst hb
      refine bytes_ext ?_
      rw [Lib.extract_to_end, show (⟨h.toArray⟩ : ByteArray).data.toList = h from rfl, a1]; rfl
    have hfs : (⟨f.toArray⟩ : ByteArray).size = f.length := size_mk f
    cases hpp : pp with
    | false =>
      subst hpp
      have hb0 : b = [] := (hfn rfl).2
      rw [Bool.not_false, Bool.true_or, Bool.true_and] at hok
      have hps := hno rfl
      have hz0 : stripZ f = stripZ (f ++ b) := by rw [hb0, List.append_nil]
      have hzo := stripZ_ok (f ++ b) (by rw [List.all_append, hfa, hb0]; rfl) (by simp [hf0])
      have hzn := stripZ_num (f ++ b)
      have hzl := stripZ_len (f ++ b)
      rw [List.length_append] at hzl
      rw [← hzn] at hpN
      have hbl0 : b.length = 0 := by rw [hb0]; rfl
      generalize stripZ (f ++ b) = z at *
      cases bl with
      | false =>
        have hhf : h = f := by rw [a1]; rfl
        simp only [Bool.false_eq_true, if_false] at hpN
        obtain ⟨r1, r2⟩ := rd_pos z hzo
        rw [← hpN] at r1 r2
        have HR2 : Hid (∀ dB : ByteArray, dB.data.toList = z → ∀ w, Calls Tryd.prog 43 #[.string (dB)] w fun e' w' => e' = .returned (.tuple #[.int .i64 (val N), .int .i64 (err N)]) ∧ w = w') := Lib.hid fun dB hd w => by
          have := rread_any dB w (by have : dB.data.toList.length = z.length := by rw [hd]
                                     rw [Array.length_toList] at this; change dB.data.size ≤ _; unfold maxLen; omega)
          rw [hd, r1, r2] at this; exact this
        cases hi : inR N with
        | false =>
          rw [hi] at hok
          obtain ⟨rfl, rfl, rfl⟩ := hpb hok
          exact rparse_np_a_o s _ p _ _ w hs hpl _ HQ0 HQn HQs hx1 HR hE hh0 (by rw [hhs]; omega) hps 0 rfl hdash z (Lib.hid (by rw [show (⟨h.toArray⟩ : ByteArray).data.toList = h from rfl, hhf]; exact hz0)) _ _ HR2 (err_ne hi)
        | true =>
          rw [hi] at hok
          have hr := (inR_iff N).1 hi
          obtain ⟨rfl, rfl, rfl⟩ := hpm hok
          rw [val_in hr, err_in hr] at HR2
          rw [hbl0]
          exact rparse_np_a_m s _ p _ _ w hs hpl _ HQ0 HQn HQs hx1 HR hE hh0 (by rw [hhs]; omega) hps 0 rfl hdash z (Lib.hid (by rw [show (⟨h.toArray⟩ : ByteArray).data.toList = h from rfl, hhf]; exact hz0)) _ _ HR2 rfl _ _ (Lib.hid fun w => rmade_any N 0 hr (by omega) w)
      | true =>
        simp only [if_true] at hpN
        obtain ⟨r1, r2⟩ := rd_neg z hzo
        rw [← hpN] at r1 r2
        have HR2 : Hid (∀ dB : ByteArray, dB.data.toList = z → ∀ w, Calls Tryd.prog 43 #[.string (⟨#[45]⟩ ++ dB)] w fun e' w' => e' = .returned (.tuple #[.int .i64 (val N), .int .i64 (err N)]) ∧ w = w') := Lib.hid fun dB hd w => by
          have e : dB = ⟨z.toArray⟩ := bytes_ext hd
          have := rread_any ⟨(45 :: z).toArray⟩ w (by rw [size_mk]; unfold maxLen; simp; omega)
          rw [show (⟨(45 :: z).toArray⟩ : ByteArray).data.toList = 45 :: z from rfl, r1, r2] at this
          rw [e, show (⟨#[45]⟩ ++ ⟨z.toArray⟩ : ByteArray) = ⟨(45 :: z).toArray⟩ from cat [45] z]
          exact this
        cases hi : inR N with
        | false =>
          rw [hi] at hok
          obtain ⟨rfl, rfl, rfl⟩ := hpb hok
          exact rparse_np_b_o s _ p _ _ w hs hpl _ HQ0 HQn HQs hx1 HR hE hh0 (by rw [hhs]; omega) hps 0 rfl hdash (⟨f.toArray⟩) (hx3 rfl) (by rw [hfs]; omega) (by rw [hfs]; omega) z (Lib.hid hz0) _ _ HR2 (err_ne hi)
        | true =>
          rw [hi] at hok
          have hr := (inR_iff N).1 hi
          obtain ⟨rfl, rfl, rfl⟩ := hpm hok
          rw [val_in hr, err_in hr] at HR2
          rw [hbl0]
          exact rparse_np_b_m s _ p _ _ w hs hpl _ HQ0 HQn HQs hx1 HR hE hh0 (by rw [hhs]; omega) hps 0 rfl hdash (⟨f.toArray⟩) (hx3 rfl) (by rw [hfs]; omega) (by rw [hfs]; omega) z (Lib.hid hz0) _ _ HR2 rfl _ _ (Lib.hid fun w => rmade_any N 0 hr (by omega) w)
    | true =>
      subst hpp
      obtain ⟨t2, t3⟩ := hcut rfl
      rw [Bool.not_true, Bool.false_or] at hok
      have hps : p < s.size := by omega
      have hx2 : s.extract (p + 1) s.size = ⟨b.toArray⟩ := bytes_ext (by rw [Lib.extract_to_end, hl, t2])
      have hbs : b.length = s.size - p - 1 := by rw [← t2, List.length_drop, hll]; omega
      have hbh : (s.size : Int) - p - 1 = (b.length : Nat) := by omega
      have HD := Lib.hid (fun w => digits_any ⟨b.toArray⟩ w (by rw [size_mk]; unfold maxLen; omega))
      rw [show (⟨b.toArray⟩ : ByteArray).data.toList = b from rfl] at HD
      cases hdg : digitsB b with
      | false =>
        have hbk : okBack b = false := by unfold okBack; rw [hdg]; rfl
        rw [hbk] at hok
        obtain ⟨rfl, rfl, rfl⟩ := hpb hok
        exact rparse_e2 s _ p _ _ w hs hpl _ HQ0 HQn HQs hx1 HR hE _ _ hx2 hps _ hbh HD hdg
      | true =>
        by_cases hb18 : b.length ≤ 18
        · have hbk : okBack b = true := by unfold okBack; rw [hdg, decide_eq_true hb18]; rfl
          rw [hbk, Bool.true_and] at hok
          have hba : b.all isDig = true := by simp only [digitsB, Bool.and_eq_true] at hdg; exact hdg.1
          have hb2 : (⟨b.toArray⟩ : ByteArray).size ≤ 2000 := by rw [size_mk]; omega
          have hzo := stripZ_ok (f ++ b) (by rw [List.all_append, hfa, hba]; rfl) (by simp [hf0])
          have hzn := stripZ_num (f ++ b)
          have hzl := stripZ_len (f ++ b)
          rw [List.length_append] at hzl
          rw [← hzn] at hpN
          obtain ⟨z, hzz⟩ : ∃ z, stripZ (f ++ b) = z := ⟨_, rfl⟩
          rw [hzz] at hzo hzn hzl hpN
          cases bl with
          | false =>
            have hhf : h = f := by rw [a1]; rfl
            simp only [Bool.false_eq_true, if_false] at hpN
            obtain ⟨r1, r2⟩ := rd_pos z hzo
            rw [← hpN] at r1 r2
            have HR2 : Hid (∀ dB : ByteArray, dB.data.toList = z → ∀ w, Calls Tryd.prog 43 #[.string (dB)] w fun e' w' => e' = .returned (.tuple #[.int .i64 (val N), .int .i64 (err N)]) ∧ w = w') := Lib.hid fun dB hd w => by
              have := rread_any dB w (by have : dB.data.toList.length = z.length := by rw [hd]
                                         rw [Array.length_toList] at this; change dB.data.size ≤ _; unfold maxLen; omega)
              rw [hd, r1, r2] at this; exact this
            cases hi : inR N with
            | false =>
              rw [hi] at hok
              obtain ⟨rfl, rfl, rfl⟩ := hpb hok
              exact rparse_pt_a_o s _ p _ _ w hs hpl _ HQ0 HQn HQs hx1 HR hE hh0 (by rw [hhs]; omega) _ _ hx2 hps _ hbh HD hdg hb18 hb2 hdash z (Lib.hid (by rw [cat, hhf]; exact hzz)) _ _ HR2 (err_ne hi)
            | true =>
              rw [hi] at hok
              have hr := (inR_iff N).1 hi
              obtain ⟨rfl, rfl, rfl⟩ := hpm hok
              rw [val_in hr, err_in hr] at HR2
              have hbl0 : b.length = b.length := rfl
              exact rparse_pt_a_m s _ p _ _ w hs hpl _ HQ0 HQn HQs hx1 HR hE hh0 (by rw [hhs]; omega) _ _ hx2 hps _ hbh HD hdg hb18 hb2 hdash z (Lib.hid (by rw [cat, hhf]; exact hzz)) _ _ HR2 rfl _ _ (Lib.hid fun w => rmade_any N b.length hr (by omega) w)
          | true =>
            simp only [if_true] at hpN
            obtain ⟨r1, r2⟩ := rd_neg z hzo
            rw [← hpN] at r1 r2
            have HR2 : Hid (∀ dB : ByteArray, dB.data.toList = z → ∀ w, Calls Tryd.prog 43 #[.string (⟨#[45]⟩ ++ dB)] w fun e' w' => e' = .returned (.tuple #[.int .i64 (val N), .int .i64 (err N)]) ∧ w = w') := Lib.hid fun dB hd w => by
              have e : dB = ⟨z.toArray⟩ := bytes_ext hd
              have := rread_any ⟨(45 :: z).toArray⟩ w (by rw [size_mk]; unfold maxLen; simp; omega)
              rw [show (⟨(45 :: z).toArray⟩ : ByteArray).data.toList = 45 :: z from rfl, r1, r2] at this
              rw [e, show (⟨#[45]⟩ ++ ⟨z.toArray⟩ : ByteArray) = ⟨(45 :: z).toArray⟩ from cat [45] z]
              exact this
            cases hi : inR N with
            | false =>
              rw [hi] at hok
              obtain ⟨rfl, rfl, rfl⟩ := hpb hok
              exact rparse_pt_b_o s _ p _ _ w hs hpl _ HQ0 HQn HQs hx1 HR hE hh0 (by rw [hhs]; omega) _ _ hx2 hps _ hbh HD hdg hb18 hb2 hdash (⟨f.toArray⟩) (hx3 rfl) (by rw [hfs]; omega) (by rw [hfs]; omega) z (Lib.hid (by rw [cat]; exact hzz)) _ _ HR2 (err_ne hi)
            | true =>
              rw [hi] at hok
              have hr := (inR_iff N).1 hi
              obtain ⟨rfl, rfl, rfl⟩ := hpm hok
              rw [val_in hr, err_in hr] at HR2
              have hbl0 : b.length = b.length := rfl
              exact rparse_pt_b_m s _ p _ _ w hs hpl _ HQ0 HQn HQs hx1 HR hE hh0 (by rw [hhs]; omega) _ _ hx2 hps _ hbh HD hdg hb18 hb2 hdash (⟨f.toArray⟩) (hx3 rfl) (by rw [hfs]; omega) (by rw [hfs]; omega) z (Lib.hid (by rw [cat]; exact hzz)) _ _ HR2 rfl _ _ (Lib.hid fun w => rmade_any N b.length hr (by omega) w)
        · have hbk : okBack b = false := by unfold okBack; rw [decide_eq_false hb18, Bool.and_false]
          rw [hbk] at hok
          obtain ⟨rfl, rfl, rfl⟩ := hpb hok
          exact rparse_e3 s _ p _ _ w hs hpl _ HQ0 HQn HQs hx1 HR hE _ _ hx2 hps _ hbh HD hdg (by omega)
set_option maxHeartbeats 400000 in
theorem reads_walk (s : ByteArray) (hs : s.size ≤ maxLen) (w : World) (he : Env w) :
    Calls Tryd.prog 4 #[.string s] w fun e w' => e = .returned (.bool true) ∧ Below w.heap.size w w' := by
  by_cases h : 2000 < s.size
  · unfold maxLen at hs
    go_enter Tryd.func4, Tryd.ntmps4
    go_wp2_with fail
    go_ret
    refine ⟨rfl, ?_⟩
    go_grown
  · have hs2 : s.size ≤ 2000 := by omega
    have H1 := Lib.hid (fun w he => mparse_any s (by omega) w he)
    have H2 := Lib.hid (fun w => rparse_any s hs2 w)
    generalize pM s.data.toList = x at *
    generalize pS s.data.toList = y at *
    generalize pE s.data.toList = z at *
    clear hs h
    go_enter Tryd.func4, Tryd.ntmps4
    go_wp2_with fail
    refine (H1.out _ he).mono ?_; rintro e w1 ⟨rfl, hb1⟩
    obtain ⟨cc, ff⟩ := bcell hb1
    have sz1 : w.heap.size ≤ w1.heap.size := by have := hb1.size; first | exact this | (simp at this; omega)
    have bw1 : Below w.heap.size w w1 := by
      refine Below.trans ?_ (hb1.mono (by first | omega | (simp; done) | (simp; omega)))
      go_grown
    clear cc ff hb1
    go_wp2_with fail
    refine (H2.out _).mono ?_; rintro e w2 ⟨rfl, hb2⟩
    obtain ⟨cc, ff⟩ := bcell hb2
    have sz2 : w1.heap.size + 1 ≤ w2.heap.size := by have := hb2.size; first | exact this | (simp at this; omega)
    have bw2 : Below w.heap.size w w2 := by
      refine Below.trans ?_ (hb2.mono (by first | omega | (simp; done) | (simp; omega)))
      go_grown
    have lt0_2 : w1.heap.size < w2.heap.size := by omega
    have c0_0_2 : w2.cell? ⟨w1.heap.size, 0, none⟩ = some (.int .i64 x) := by rw [cc _ _ (by first | omega | (simp; done) | (simp; omega))]; first | assumption | (simp [go_sem, *]; done)
    have c0_1_2 : w2.cell? ⟨w1.heap.size, 1, none⟩ = some (.int .i64 y) := by rw [cc _ _ (by first | omega | (simp; done) | (simp; omega))]; first | assumption | (simp [go_sem, *]; done)
    clear cc ff hb2
    go_wp2_with fail
    go_ret
    refine ⟨rfl, ?_⟩
    go_grown
end Go.Proofs.YtfhgcpmadajbdaaDoor
