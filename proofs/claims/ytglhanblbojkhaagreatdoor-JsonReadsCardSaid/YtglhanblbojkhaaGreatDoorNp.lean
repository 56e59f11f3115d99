/- The walks through the reference's JSON reader (provostref04): more, the whole. -/
import Derived.Test.YtglhanblbojkhaaGreatDoorNo
set_option linter.unusedSimpArgs false
set_option linter.unusedVariables false
namespace Go.Proofs.YtglhanblbojkhaaGreatDoor
open Go.RowKit
def tailJ (l : List UInt8) : Option (List UInt8) := if (l.takeWhile isDig).isEmpty then none else some (l.dropWhile isDig)
theorem tailJ_out (s : ByteArray) (i : Nat) (h : ¬ i < s.size) : tailJ (s.data.toList.drop i) = none := by
  rw [List.drop_eq_nil_of_le (by rw [Array.length_toList]; show s.size ≤ _; omega)]; rfl
theorem tailJ_non (s : ByteArray) (i : Nat) (h : i < s.size) (hd : isDig s[i] = false) : tailJ (s.data.toList.drop i) = none := by
  unfold tailJ
  have e : (s.data.toList.drop i).takeWhile isDig = [] := by rw [drop_at s i h, List.takeWhile_cons, hd]; rfl
  rw [e]; rfl
theorem tailJ_dig (s : ByteArray) (i : Nat) (h : i < s.size) (hd : isDig s[i] = true) : tailJ (s.data.toList.drop i) = some ((s.data.toList.drop i).dropWhile isDig) := by
  unfold tailJ
  rw [drop_at s i h, List.takeWhile_cons, if_pos hd]; rfl
theorem partJ_nil (m g : UInt8 → Bool) (s : ByteArray) (i : Nat) (h : ¬ i < s.size) : partJ m g (s.data.toList.drop i) = none := by
  rw [List.drop_eq_nil_of_le (by rw [Array.length_toList]; show s.size ≤ _; omega)]; rfl
theorem partJ_no (m g : UInt8 → Bool) (s : ByteArray) (i : Nat) (h : i < s.size) (hm : m s[i] = false) : partJ m g (s.data.toList.drop i) = none := by
  rw [drop_at s i h, partJ, if_neg (by simp [hm])]
theorem partJ_one (m g : UInt8 → Bool) (s : ByteArray) (i : Nat) (h : i < s.size) (hm : m s[i] = true) (hg : ∀ h1 : i + 1 < s.size, g s[i + 1] = false) : partJ m g (s.data.toList.drop i) = tailJ (s.data.toList.drop (i + 1)) := by
  rw [drop_at s i h, partJ, if_pos hm]
  by_cases h1 : i + 1 < s.size
  · have : (((s.data.toList.drop (i + 1)).head?.map g).getD false) = false := by rw [drop_at s _ h1]; exact hg h1
    simp only [this]
    rfl
  · rw [List.drop_eq_nil_of_le (i := i + 1) (by rw [Array.length_toList]; show s.size ≤ _; omega)]
    rfl
theorem partJ_two (m g : UInt8 → Bool) (s : ByteArray) (i : Nat) (h : i < s.size) (hm : m s[i] = true) (h1 : i + 1 < s.size) (hg : g s[i + 1] = true) : partJ m g (s.data.toList.drop i) = tailJ (s.data.toList.drop (i + 2)) := by
  rw [drop_at s i h, partJ, if_pos hm]
  have : (((s.data.toList.drop (i + 1)).head?.map g).getD false) = true := by rw [drop_at s _ h1]; exact hg
  have e : (s.data.toList.drop (i + 1)).tail = s.data.toList.drop (i + 2) := by rw [List.tail_drop]
  simp only [this, if_true, e]
  rfl
theorem isDig_low {c : UInt8} (h : c.toNat < 48) : isDig c = false := by unfold isDig; exact decide_eq_false (by omega)
theorem isDig_high {c : UInt8} (h : 57 < c.toNat) : isDig c = false := by unfold isDig; exact decide_eq_false (by omega)
theorem look_at (s : ByteArray) (i : Nat) (h : i < s.size) : lookJ 0 (s.data.toList.drop i) = s[i] := by
  unfold lookJ; rw [if_neg (by simp), drop_at s i h, List.headD_cons]
theorem look_out (s : ByteArray) (i : Nat) (h : ¬ i < s.size) : lookJ 0 (s.data.toList.drop i) = 0 := by
  unfold lookJ; rw [if_neg (by simp), List.drop_eq_nil_of_le (by rw [Array.length_toList]; show s.size ≤ _; omega)]; rfl
theorem partE_no {r : Nat} {s : ByteArray} {v : Value} {at_ : Nat} {o : Option (List UInt8)} {x : Ending} {w W : World} (ho : o = none) (h : (x = .returned (.bool false) ∧ RdR r s at_ v 0 W) ∧ RK r w W) : PartE r s v at_ o x W ∧ RK r w W := by
  subst ho; exact h
theorem partE_yes {r : Nat} {s : ByteArray} {v : Value} {at_ i : Nat} {o : Option (List UInt8)} {x : Ending} {w W : World} (ho : o = some ((s.data.toList.drop i).dropWhile isDig)) (h : (x = .returned (.bool true) ∧ i + digK 0 (s.data.toList.drop i) ≤ s.size ∧ RdR r s (i + digK 0 (s.data.toList.drop i)) v 0 W) ∧ RK r w W) : PartE r s v at_ o x W ∧ RK r w W := by
  subst ho
  obtain ⟨⟨h1, h2, h3⟩, h4⟩ := h
  exact ⟨⟨h1, _, h2, drop_take_len s i, h3⟩, h4⟩
theorem rpoint_any (r : Nat) (s : ByteArray) (at_ : Nat) (v : Value) (ha : at_ ≤ s.size) (hs : s.size ≤ 1000000) (w : World) (h : RdR r s at_ v 0 w) :
    Calls Tryz.prog 76 #[.pointer (some ⟨r, 0, none⟩), .bool false] w fun x w' => PartE r s v at_ (pointJ (s.data.toList.drop at_)) x w' ∧ RK r w w' := by
  unfold pointJ
  by_cases h0 : at_ < s.size
  · have hla := look_at s at_ h0
    by_cases hm0 : s[at_] = 46
    · have hm : lookJ 0 (s.data.toList.drop at_) = 46 := hla.trans hm0
      have hp := partJ_one (fun c => c == 46) (fun _ => false) s at_ h0 (by rw [hm0]; rfl) (fun _ => rfl)
      by_cases hq : at_ + 1 < s.size
      · by_cases hlo : s[at_ + 1].toNat < 48
        · exact (rpoint_low r s at_ v ha hs w h hm  hq hlo).mono fun x w' hh => partE_no (hp.trans (tailJ_non s _ hq (isDig_low hlo))) hh
        · by_cases hhi : 57 < s[at_ + 1].toNat
          · exact (rpoint_high r s at_ v ha hs w h hm  hq hhi).mono fun x w' hh => partE_no (hp.trans (tailJ_non s _ hq (isDig_high hhi))) hh
          · exact (rpoint_dig r s at_ v ha hs w h hm  hq (by omega) (by omega)).mono fun x w' hh => partE_yes (hp.trans (tailJ_dig s _ hq ((isDig_iff _).2 ⟨by omega, by omega⟩))) hh
      · exact (rpoint_out r s at_ v ha hs w h hm  hq).mono fun x w' hh => partE_no (hp.trans (tailJ_out s _ hq)) hh
    · exact (rpoint_no r s at_ v ha hs w h (by rw [hla]; exact hm0)).mono fun x w' hh => partE_no (partJ_no _ _ s at_ h0 (beq_eq_false_iff_ne.2 hm0)) hh
  · exact (rpoint_no r s at_ v ha hs w h (by rw [look_out s at_ h0]; decide)).mono fun x w' hh => partE_no (partJ_nil _ _ s at_ h0) hh
theorem rpower_any (r : Nat) (s : ByteArray) (at_ : Nat) (v : Value) (ha : at_ ≤ s.size) (hs : s.size ≤ 1000000) (w : World) (h : RdR r s at_ v 0 w) :
    Calls Tryz.prog 76 #[.pointer (some ⟨r, 0, none⟩), .bool true] w fun x w' => PartE r s v at_ (powerJ (s.data.toList.drop at_)) x w' ∧ RK r w w' := by
  unfold powerJ
  by_cases h0 : at_ < s.size
  · have hla := look_at s at_ h0
    by_cases hm101 : s[at_] = 101
    · have hm : lookJ 0 (s.data.toList.drop at_) = 101 := hla.trans hm101
      have hmk : (s[at_] == 101 || s[at_] == 69) = true := by rw [hm101]; rfl
      by_cases h1 : at_ + 1 < s.size
      · by_cases g1 : s[at_ + 1].toNat = 43
        · have hp := partJ_two (fun c => c == 101 || c == 69) (fun c => c == 43 || c == 45) s at_ h0 hmk h1 (by rw [show s[at_ + 1] = 43 from UInt8.toNat_inj.1 g1]; rfl)
          by_cases hq : at_ + 2 < s.size
          · by_cases hlo : s[at_ + 2].toNat < 48
            · exact (rpower101_43_low r s at_ v ha hs w h hm h1 g1 hq hlo).mono fun x w' hh => partE_no (hp.trans (tailJ_non s _ hq (isDig_low hlo))) hh
            · by_cases hhi : 57 < s[at_ + 2].toNat
              · exact (rpower101_43_high r s at_ v ha hs w h hm h1 g1 hq hhi).mono fun x w' hh => partE_no (hp.trans (tailJ_non s _ hq (isDig_high hhi))) hh
              · exact (rpower101_43_dig r s at_ v ha hs w h hm h1 g1 hq (by omega) (by omega)).mono fun x w' hh => partE_yes (hp.trans (tailJ_dig s _ hq ((isDig_iff _).2 ⟨by omega, by omega⟩))) hh
          · exact (rpower101_43_out r s at_ v ha hs w h hm h1 g1 hq).mono fun x w' hh => partE_no (hp.trans (tailJ_out s _ hq)) hh
        · by_cases g2 : s[at_ + 1].toNat = 45
          · have hp := partJ_two (fun c => c == 101 || c == 69) (fun c => c == 43 || c == 45) s at_ h0 hmk h1 (by rw [show s[at_ + 1] = 45 from UInt8.toNat_inj.1 g2]; rfl)
            by_cases hq : at_ + 2 < s.size
            · by_cases hlo : s[at_ + 2].toNat < 48
              · exact (rpower101_45_low r s at_ v ha hs w h hm h1 g2 hq hlo).mono fun x w' hh => partE_no (hp.trans (tailJ_non s _ hq (isDig_low hlo))) hh
              · by_cases hhi : 57 < s[at_ + 2].toNat
                · exact (rpower101_45_high r s at_ v ha hs w h hm h1 g2 hq hhi).mono fun x w' hh => partE_no (hp.trans (tailJ_non s _ hq (isDig_high hhi))) hh
                · exact (rpower101_45_dig r s at_ v ha hs w h hm h1 g2 hq (by omega) (by omega)).mono fun x w' hh => partE_yes (hp.trans (tailJ_dig s _ hq ((isDig_iff _).2 ⟨by omega, by omega⟩))) hh
            · exact (rpower101_45_out r s at_ v ha hs w h hm h1 g2 hq).mono fun x w' hh => partE_no (hp.trans (tailJ_out s _ hq)) hh
          · have hp := partJ_one (fun c => c == 101 || c == 69) (fun c => c == 43 || c == 45) s at_ h0 hmk (fun _ => by
              rw [beq_eq_false_iff_ne.2 (fun e => g1 (by rw [e]; rfl)), beq_eq_false_iff_ne.2 (fun e => g2 (by rw [e]; rfl))]; rfl)
            by_cases hq : at_ + 1 < s.size
            · by_cases hlo : s[at_ + 1].toNat < 48
              · exact (rpower101_other_low r s at_ v ha hs w h hm h1 g1 g2 hq hlo).mono fun x w' hh => partE_no (hp.trans (tailJ_non s _ hq (isDig_low hlo))) hh
              · by_cases hhi : 57 < s[at_ + 1].toNat
                · exact (rpower101_other_high r s at_ v ha hs w h hm h1 g1 g2 hq hhi).mono fun x w' hh => partE_no (hp.trans (tailJ_non s _ hq (isDig_high hhi))) hh
                · exact (rpower101_other_dig r s at_ v ha hs w h hm h1 g1 g2 hq (by omega) (by omega)).mono fun x w' hh => partE_yes (hp.trans (tailJ_dig s _ hq ((isDig_iff _).2 ⟨by omega, by omega⟩))) hh
            · exact absurd h1 hq
      · have hp := partJ_one (fun c => c == 101 || c == 69) (fun c => c == 43 || c == 45) s at_ h0 hmk (fun hh => absurd hh h1)
        exact (rpower101_none_out r s at_ v ha hs w h hm h1 h1).mono fun x w' hh => partE_no (hp.trans (tailJ_out s _ h1)) hh
    · by_cases hm69 : s[at_] = 69
      · have hm : lookJ 0 (s.data.toList.drop at_) = 69 := hla.trans hm69
        have hmk : (s[at_] == 101 || s[at_] == 69) = true := by rw [hm69]; rfl
        by_cases h1 : at_ + 1 < s.size
        · by_cases g1 : s[at_ + 1].toNat = 43
          · have hp := partJ_two (fun c => c == 101 || c == 69) (fun c => c == 43 || c == 45) s at_ h0 hmk h1 (by rw [show s[at_ + 1] = 43 from UInt8.toNat_inj.1 g1]; rfl)
            by_cases hq : at_ + 2 < s.size
            · by_cases hlo : s[at_ + 2].toNat < 48
              · exact (rpower69_43_low r s at_ v ha hs w h hm h1 g1 hq hlo).mono fun x w' hh => partE_no (hp.trans (tailJ_non s _ hq (isDig_low hlo))) hh
              · by_cases hhi : 57 < s[at_ + 2].toNat
                · exact (rpower69_43_high r s at_ v ha hs w h hm h1 g1 hq hhi).mono fun x w' hh => partE_no (hp.trans (tailJ_non s _ hq (isDig_high hhi))) hh
                · exact (rpower69_43_dig r s at_ v ha hs w h hm h1 g1 hq (by omega) (by omega)).mono fun x w' hh => partE_yes (hp.trans (tailJ_dig s _ hq ((isDig_iff _).2 ⟨by omega, by omega⟩))) hh
            · exact (rpower69_43_out r s at_ v ha hs w h hm h1 g1 hq).mono fun x w' hh => partE_no (hp.trans (tailJ_out s _ hq)) hh
          · by_cases g2 : s[at_ + 1].toNat = 45
            · have hp := partJ_two (fun c => c == 101 || c == 69) (fun c => c == 43 || c == 45) s at_ h0 hmk h1 (by rw [show s[at_ + 1] = 45 from UInt8.toNat_inj.1 g2]; rfl)
              by_cases hq : at_ + 2 < s.size
              · by_cases hlo : s[at_ + 2].toNat < 48
                · exact (rpower69_45_low r s at_ v ha hs w h hm h1 g2 hq hlo).mono fun x w' hh => partE_no (hp.trans (tailJ_non s _ hq (isDig_low hlo))) hh
                · by_cases hhi : 57 < s[at_ + 2].toNat
                  · exact (rpower69_45_high r s at_ v ha hs w h hm h1 g2 hq hhi).mono fun x w' hh => partE_no (hp.trans (tailJ_non s _ hq (isDig_high hhi))) hh
                  · exact (rpower69_45_dig r s at_ v ha hs w h hm h1 g2 hq (by omega) (by omega)).mono fun x w' hh => partE_yes (hp.trans (tailJ_dig s _ hq ((isDig_iff _).2 ⟨by omega, by omega⟩))) hh
              · exact (rpower69_45_out r s at_ v ha hs w h hm h1 g2 hq).mono fun x w' hh => partE_no (hp.trans (tailJ_out s _ hq)) hh
            · have hp := partJ_one (fun c => c == 101 || c == 69) (fun c => c == 43 || c == 45) s at_ h0 hmk (fun _ => by
                rw [beq_eq_false_iff_ne.2 (fun e => g1 (by rw [e]; rfl)), beq_eq_false_iff_ne.2 (fun e => g2 (by rw [e]; rfl))]; rfl)
              by_cases hq : at_ + 1 < s.size
              · by_cases hlo : s[at_ + 1].toNat < 48
                · exact (rpower69_other_low r s at_ v ha hs w h hm h1 g1 g2 hq hlo).mono fun x w' hh => partE_no (hp.trans (tailJ_non s _ hq (isDig_low hlo))) hh
                · by_cases hhi : 57 < s[at_ + 1].toNat
                  · exact (rpower69_other_high r s at_ v ha hs w h hm h1 g1 g2 hq hhi).mono fun x w' hh => partE_no (hp.trans (tailJ_non s _ hq (isDig_high hhi))) hh
                  · exact (rpower69_other_dig r s at_ v ha hs w h hm h1 g1 g2 hq (by omega) (by omega)).mono fun x w' hh => partE_yes (hp.trans (tailJ_dig s _ hq ((isDig_iff _).2 ⟨by omega, by omega⟩))) hh
              · exact absurd h1 hq
        · have hp := partJ_one (fun c => c == 101 || c == 69) (fun c => c == 43 || c == 45) s at_ h0 hmk (fun hh => absurd hh h1)
          exact (rpower69_none_out r s at_ v ha hs w h hm h1 h1).mono fun x w' hh => partE_no (hp.trans (tailJ_out s _ h1)) hh
      · exact (rpower_no r s at_ v ha hs w h (by rw [hla]; exact hm101) (by rw [hla]; exact hm69)).mono fun x w' hh => partE_no (partJ_no _ _ s at_ h0 (by
          rw [beq_eq_false_iff_ne.2 hm101, beq_eq_false_iff_ne.2 hm69]; rfl)) hh
  · exact (rpower_no r s at_ v ha hs w h (by rw [look_out s at_ h0]; decide) (by rw [look_out s at_ h0]; decide)).mono fun x w' hh => partE_no (partJ_nil _ _ s at_ h0) hh
end Go.Proofs.YtglhanblbojkhaaGreatDoor
