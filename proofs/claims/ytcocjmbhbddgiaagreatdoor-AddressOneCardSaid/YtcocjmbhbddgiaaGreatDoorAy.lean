/- Parse (address) at every text: its parts, plainly. -/
import Derived.Test.YtcocjmbhbddgiaaGreatDoorAx
set_option linter.unusedSimpArgs false
set_option linter.unusedVariables false
namespace Go.Proofs.YtcocjmbhbddgiaaGreatDoor
open Go.RowKit
def bs (l : List UInt8) : ByteArray := ⟨l.toArray⟩
theorem bs_list (l : List UInt8) : (bs l).data.toList = l := rfl
theorem bs_of (s : ByteArray) (l : List UInt8) (h : s.data.toList = l) : s = bs l := bytes_ext h
theorem bs_size (l : List UInt8) : (bs l).size = l.length := by rw [← len_size]; rfl
def r2L (l : List UInt8) : List UInt8 := (behind 58 l).drop 2
def okL (l : List UInt8) : Bool := l.contains 58 && Lib.hasPrefix (behind 58 l) [47, 47] && decide (l.length ≤ 2048)
def ixL (l : List UInt8) : Int := Lib.indexAny l [47, 63]
def headL (l : List UInt8) : List UInt8 := if 0 ≤ ixL l then l.take (ixL l).toNat else l
def restL (l : List UInt8) : List UInt8 := if 0 ≤ ixL l then l.drop (ixL l).toNat else []
def usL (h : List UInt8) : List UInt8 := if h.contains 64 then ahead 64 h else []
def hd2L (h : List UInt8) : List UInt8 := if h.contains 64 then behind 64 h else h
def scP (l : List UInt8) : List UInt8 := ahead 58 l
def hP (l : List UInt8) : List UInt8 := headL (r2L l)
def usP (l : List UInt8) : List UInt8 := usL (hP l)
def huP (l : List UInt8) : Bool := (hP l).contains 64
def hoP (l : List UInt8) : List UInt8 := ahead 58 (hd2L (hP l))
def poP (l : List UInt8) : List UInt8 := behind 58 (hd2L (hP l))
def rtP (l : List UInt8) : List UInt8 := restL (r2L l)
def paP (l : List UInt8) : List UInt8 := ahead 63 (rtP l)
def quP (l : List UInt8) : List UInt8 := behind 63 (rtP l)
def hqP (l : List UInt8) : Bool := (rtP l).contains 63
def mayP (l : List UInt8) : Bool := mayL (scP l) (usP l) (hoP l) (poP l) (paP l) (quP l) (huP l) (hqP l)
def parseOk (l : List UInt8) : Bool := okL l && mayP l
def zeroA : Value := .agg #[.string ⟨#[]⟩, .string ⟨#[]⟩, .string ⟨#[]⟩, .string ⟨#[]⟩, .string ⟨#[]⟩, .string ⟨#[]⟩, .bool false, .bool false]
def addrV (sc us ho po pa qu : List UInt8) (hu hq : Bool) : Value := .agg #[.string (bs sc), .string (bs us), .string (bs ho), .string (bs po), .string (bs pa), .string (bs qu), .bool hu, .bool hq]
def parseV (l : List UInt8) : Value := if parseOk l then .tuple #[addrV (scP l) (usP l) (hoP l) (poP l) (paP l) (quP l) (huP l) (hqP l), .int .i64 0] else .tuple #[zeroA, .int .i64 150]
theorem ahead_le (c : UInt8) (l : List UInt8) : (ahead c l).length ≤ l.length := by
  unfold ahead
  exact (List.takeWhile_sublist _).length_le
theorem behind_le (c : UInt8) (l : List UInt8) : (behind c l).length ≤ l.length := by
  unfold behind
  rw [List.length_tail]
  have := (List.dropWhile_sublist (· != c) (l := l)).length_le
  omega
theorem headL_le (l : List UInt8) : (headL l).length ≤ l.length := by
  unfold headL; split
  · rw [List.length_take]; omega
  · exact Nat.le_refl _
theorem restL_le (l : List UInt8) : (restL l).length ≤ l.length := by
  unfold restL; split
  · rw [List.length_drop]; omega
  · exact Nat.zero_le _
theorem usL_le (l : List UInt8) : (usL l).length ≤ l.length := by
  unfold usL; split
  · exact ahead_le _ _
  · exact Nat.zero_le _
theorem hd2L_le (l : List UInt8) : (hd2L l).length ≤ l.length := by
  unfold hd2L; split
  · exact behind_le _ _
  · exact Nat.le_refl _
theorem r2L_le (l : List UInt8) : (r2L l).length ≤ l.length := by
  unfold r2L
  have := behind_le 58 l
  rw [List.length_drop]; omega
theorem parts_le (l : List UInt8) : (scP l).length ≤ l.length ∧ (usP l).length ≤ l.length ∧ (hoP l).length ≤ l.length ∧ (poP l).length ≤ l.length ∧ (paP l).length ≤ l.length ∧ (quP l).length ≤ l.length ∧ (r2L l).length ≤ l.length ∧ (hP l).length ≤ l.length ∧ (hd2L (hP l)).length ≤ l.length ∧ (rtP l).length ≤ l.length := by
  have a := ahead_le 58 l
  have b := r2L_le l
  have c := headL_le (r2L l)
  have d := restL_le (r2L l)
  have e := usL_le (hP l)
  have f := hd2L_le (hP l)
  have g := ahead_le 58 (hd2L (hP l))
  have h := behind_le 58 (hd2L (hP l))
  have i := ahead_le 63 (rtP l)
  have j := behind_le 63 (rtP l)
  unfold hP rtP at *
  unfold scP usP hoP poP paP quP hP rtP
  refine ⟨a, ?_, ?_, ?_, ?_, ?_, ?_, ?_, ?_, ?_⟩ <;> omega
theorem cut_does (l : List UInt8) (c : UInt8) (hl : l.length ≤ 1000000) : Does 12 #[.string (bs l), .string ⟨#[c]⟩] (.tuple #[.string (bs (ahead c l)), .string (bs (behind c l)), .bool (l.contains c)]) := fun w =>
  (cut_one (bs l) c (by rw [bs_size]; unfold maxLen; omega) w).mono fun e w' ⟨he, n, hw⟩ => ⟨he, by subst hw; exact ⟨rfl, rfl, rfl, Nat.le_refl _, fun _ _ => rfl⟩⟩
theorem prefix_does (l p : List UInt8) : Does 13 #[.string (bs l), .string (bs p)] (.tuple #[.string (bs (Lib.trimPrefix l p)), .bool (Lib.hasPrefix l p)]) := fun w =>
  (Tryz.strings_CutPrefix (bs l) (bs p) w).mono fun e w' ⟨he, hw⟩ => ⟨he, by subst hw; exact Below.refl _ _⟩
theorem any_does (l : List UInt8) (hl : l.length ≤ 1000000) : Does 14 #[.string (bs l), .string ⟨#[47, 63]⟩] (.int .i64 (ixL l)) := fun w =>
  (any_any (bs l) (by rw [bs_size]; exact hl) w).mono fun e w' ⟨he, hw⟩ => ⟨he, hw⟩
theorem check_does (sc us ho po pa qu : List UInt8) (hu hq : Bool) (h1 : sc.length ≤ 100000) (h2 : us.length ≤ 100000) (h3 : ho.length ≤ 100000) (h4 : po.length ≤ 100000) (h5 : pa.length ≤ 100000) (h6 : qu.length ≤ 100000) :
    Does 15 #[addrV sc us ho po pa qu hu hq] (.int .i64 (if mayL sc us ho po pa qu hu hq then 0 else 150)) := fun w =>
  check_any (bs sc) (bs us) (bs ho) (bs po) (bs pa) (bs qu) hu hq (by rw [bs_size]; exact h1) (by rw [bs_size]; exact h2) (by rw [bs_size]; exact h3) (by rw [bs_size]; exact h4) (by rw [bs_size]; exact h5) (by rw [bs_size]; exact h6) w
theorem ix_lt (l : List UInt8) : ixL l < 0 ∨ ∃ n : Nat, ixL l = n ∧ n ≤ l.length := by
  by_cases h : 0 ≤ ixL l
  · right
    refine ⟨(ixL l).toNat, by omega, ?_⟩
    have : ∀ l : List UInt8, Lib.indexAny l [47, 63] ≤ l.length := by
      intro l
      induction l with
      | nil => decide
      | cons c r ih =>
        unfold Lib.indexAny
        split
        · simp only [List.length_cons]; omega
        · split
          · simp; omega
          · simp only [List.length_cons]; omega
    have := this l
    unfold ixL at *
    omega
  · left; omega
theorem extract_bs (l : List UInt8) (n : Nat) (h : n ≤ l.length) : (bs l).extract 0 n = bs (l.take n) ∧ (bs l).extract n (bs l).size = bs (l.drop n) := by
  constructor
  · apply bs_of
    rw [ByteArray.data_extract, Array.toList_extract, List.extract_eq_take_drop, bs_list]
    simp
  · apply bs_of
    rw [ext_drop, bs_list]
theorem parse_any (s : ByteArray) (hs : s.size ≤ 100000) (w : World) :
    Calls Tryz.prog 5 #[.string s] w fun e w' => e = .returned (parseV s.data.toList) ∧ Below w.heap.size w w' := by
  obtain ⟨l, hl⟩ : ∃ l, s.data.toList = l := ⟨_, rfl⟩
  obtain rfl : s = bs l := bs_of s l hl
  rw [bs_list]
  have hll : l.length ≤ 100000 := by rw [← bs_size]; exact hs
  have hp := parts_le l
  have H1 := cut_does l 58 (by omega)
  have H2 := prefix_does (behind 58 l) [47, 47]
  by_cases hok : okL l = true
  · unfold okL at hok
    simp only [Bool.and_eq_true, decide_eq_true_eq] at hok
    obtain ⟨⟨k1, k2⟩, k3⟩ := hok
    have ht : Lib.trimPrefix (behind 58 l) [47, 47] = r2L l := by unfold Lib.trimPrefix; rw [if_pos k2]; rfl
    rw [k1] at H1
    rw [ht, k2] at H2
    have H3 := any_does (r2L l) (by omega)
    have H4 := cut_does (hP l) 64 (by omega)
    have H5 := cut_does (hd2L (hP l)) 58 (by omega)
    have H6 := cut_does (rtP l) 63 (by omega)
    have H7 := check_does (scP l) (usP l) (hoP l) (poP l) (paP l) (quP l) (huP l) (hqP l) (by omega) (by omega) (by omega) (by omega) (by omega) (by omega)
    refine (parse_go (bs l) (bs (scP l)) (bs (behind 58 l)) (bs (r2L l)) (bs (hP l)) (bs (rtP l)) (bs (ahead 64 (hP l))) (bs (behind 64 (hP l))) (bs (hd2L (hP l))) (bs (usP l)) (bs (hoP l)) (bs (poP l)) (bs (paP l)) (bs (quP l)) (huP l) _ (hqP l) (ixL (r2L l)) _
      (Lib.hid H1) (Lib.hid H2) (Lib.hid H3) (Lib.hid H4) (Lib.hid H5) (Lib.hid H6) (Lib.hid H7) (by rw [bs_size]; exact k3) (by rw [bs_size]; omega) ?_ ?_ ?_ w).mono ?_
    · rcases ix_lt (r2L l) with h | ⟨n, h, hn⟩
      · left
        refine ⟨h, ?_, ?_⟩
        · unfold hP headL; rw [if_neg (by omega)]
        · unfold rtP restL; rw [if_neg (by omega)]; rfl
      · right
        refine ⟨n, h, by rw [bs_size]; exact hn, ?_, ?_⟩
        · rw [(extract_bs _ n hn).1]; unfold hP headL; rw [if_pos (by omega), h]; rfl
        · rw [(extract_bs _ n hn).2]; unfold rtP restL; rw [if_pos (by omega), h]; rfl
    · cases h : (hP l).contains 64 with
      | true => left; exact ⟨h, by unfold usP usL; rw [if_pos h], by unfold hd2L; rw [if_pos h]⟩
      | false => right; exact ⟨h, by unfold usP usL; rw [if_neg (by rw [h]; decide)]; rfl, by unfold hd2L; rw [if_neg (by rw [h]; decide)]⟩
    · split <;> simp
    · rintro e w' ⟨rfl, hw⟩
      refine ⟨?_, hw⟩
      unfold parseV parseOk okL mayP
      rw [k1, k2, decide_eq_true k3]
      cases mayL (scP l) (usP l) (hoP l) (poP l) (paP l) (quP l) (huP l) (hqP l) <;> rfl
  · have hv : parseV l = .tuple #[zeroA, .int .i64 150] := by
      unfold parseV parseOk
      rw [Bool.not_eq_true] at hok
      rw [hok]; rfl
    rw [hv]
    refine parse_no (bs l) _ _ _ _ _ (Lib.hid H1) (Lib.hid H2) ?_ (by rw [bs_size]; omega) w
    unfold okL at hok
    simp only [Bool.and_eq_true, decide_eq_true_eq, not_and, Bool.not_eq_true] at hok
    cases h1 : l.contains 58 with
    | false => left; rfl
    | true =>
      cases h2 : Lib.hasPrefix (behind 58 l) [47, 47] with
      | false => right; left; exact ⟨rfl, rfl⟩
      | true => right; right; exact ⟨rfl, rfl, by rw [bs_size]; have := hok ⟨h1, h2⟩; omega⟩
end Go.Proofs.YtcocjmbhbddgiaaGreatDoor
