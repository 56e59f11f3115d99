/- The reference's Parse (provostref15) at every text: the same parts. -/
import Derived.Test.YtcocjmbhbddgiaaGreatDoorBma
import Derived.Test.YtcocjmbhbddgiaaGreatDoorBmb
set_option linter.unusedSimpArgs false
set_option linter.unusedVariables false
namespace Go.Proofs.YtcocjmbhbddgiaaGreatDoor
open Go.RowKit
set_option maxRecDepth 100000 in
theorem rparse_go (s sc s2 hd rt us hd2 ho po pa qu : ByteArray) (hu hq ok : Bool) (n1 n2 n3 n4 n5 : Nat)
    (H1 : Hid (Finds s ⟨#[58]⟩ n1)) (H2 : Hid (Finds s2 ⟨#[47, 63]⟩ n2)) (H3 : Hid (Finds hd ⟨#[64]⟩ n3)) (H4 : Hid (Finds hd2 ⟨#[58]⟩ n4)) (H5 : Hid (Finds rt ⟨#[63]⟩ n5))
    (H6 : Hid (∀ w, Calls Tryz.prog 17 #[.agg #[.string sc, .string us, .string ho, .string po, .string pa, .string qu, .bool hu, .bool hq]] w fun e w' => e = .returned (.bool ok) ∧ Below w.heap.size w w'))
    (hs : s.size ≤ 2048) (hn1 : n1 + 3 ≤ s.size) (h3 : ((s.extract n1 (n1 + 3)).toList == ([58, 47, 47] : List UInt8)) = true)
    (e1 : s.extract 0 n1 = sc) (e2 : s.extract (n1 + 3) s.size = s2) (l2 : s2.size ≤ 2048) (hn2 : n2 ≤ s2.size) (e3 : s2.extract 0 n2 = hd) (e4 : s2.extract n2 s2.size = rt) (l3 : hd.size ≤ 2048) (l4 : rt.size ≤ 2048)
    (hA : (hu = true ∧ n3 < hd.size ∧ hd.extract 0 n3 = us ∧ hd.extract (n3 + 1) hd.size = hd2) ∨ (hu = false ∧ ¬ n3 < hd.size ∧ us = ⟨#[]⟩ ∧ hd2 = hd)) (l5 : hd2.size ≤ 2048)
    (e5 : hd2.extract 0 n4 = ho) (hn4 : n4 ≤ hd2.size) (hB : (n4 < hd2.size ∧ hd2.extract (n4 + 1) hd2.size = po) ∨ (¬ n4 < hd2.size ∧ po = ⟨#[]⟩))
    (e6 : rt.extract 0 n5 = pa) (hn5 : n5 ≤ rt.size) (hC : (hq = true ∧ n5 < rt.size ∧ rt.extract (n5 + 1) rt.size = qu) ∨ (hq = false ∧ ¬ n5 < rt.size ∧ qu = ⟨#[]⟩)) (w : World) :
    Calls Tryz.prog 6 #[.string s] w fun e w' => e = .returned (if ok then .tuple #[.agg #[.string sc, .string us, .string ho, .string po, .string pa, .string qu, .bool hu, .bool hq], .int .i64 0] else .tuple #[zeroA, .int .i64 150]) ∧ Below w.heap.size w w' := by
  rcases hA with hA | hA
  · exact rparse_t s sc s2 hd rt us hd2 ho po pa qu hu hq ok n1 n2 n3 n4 n5 H1 H2 H3 H4 H5 H6 hs hn1 h3 e1 e2 l2 hn2 e3 e4 l3 l4 hA l5 e5 hn4 hB e6 hn5 hC w
  · exact rparse_f s sc s2 hd rt us hd2 ho po pa qu hu hq ok n1 n2 n3 n4 n5 H1 H2 H3 H4 H5 H6 hs hn1 h3 e1 e2 l2 hn2 e3 e4 l3 l4 hA l5 e5 hn4 hB e6 hn5 hC w
theorem find_one (c : UInt8) (l : List UInt8) : findN [c] l = (ahead c l).length := by
  unfold findN ahead
  congr 2
  funext x
  rw [Bool.eq_iff_iff]
  simp [bne]
theorem find_one_yes (c : UInt8) (l : List UInt8) (h : l.contains c = true) : findN [c] l < l.length ∧ l.take (findN [c] l) = ahead c l ∧ l.drop (findN [c] l + 1) = behind c l := by
  rw [find_one]
  obtain ⟨h1, h2, h3⟩ := ahead_take c l h
  exact ⟨h3, h1, h2⟩
theorem find_one_no (c : UInt8) (l : List UInt8) (h : l.contains c = false) : findN [c] l = l.length ∧ ahead c l = l ∧ behind c l = [] := by
  rw [find_one]
  obtain ⟨h1, h2⟩ := behind_nil_of c l h
  exact ⟨by rw [h1], h1, h2⟩
theorem find_ix (ms : List UInt8) : ∀ l : List UInt8, (Lib.indexAny l ms = -1 ∧ findN ms l = l.length) ∨ (Lib.indexAny l ms = findN ms l ∧ findN ms l < l.length)
  | [] => Or.inl ⟨rfl, rfl⟩
  | b :: l => by
    have hs : findN ms (b :: l) = if ms.contains b then 0 else findN ms l + 1 := by
      unfold findN
      rw [List.takeWhile_cons]
      cases ms.contains b <;> simp
    rw [hs, Lib.indexAny]
    cases hb : ms.contains b with
    | true => right; simp
    | false =>
      simp only [Bool.false_eq_true, if_false]
      rcases find_ix ms l with ⟨h1, h2⟩ | ⟨h1, h2⟩
      · left; rw [h1, h2]; exact ⟨rfl, rfl⟩
      · right
        rw [h1, if_neg (by intro e; have := beq_iff_eq.1 e; omega)]
        exact ⟨by push_cast; rfl, by simp only [List.length_cons]; omega⟩
theorem split_find (l : List UInt8) : headL l = l.take (findN [47, 63] l) ∧ restL l = l.drop (findN [47, 63] l) := by
  unfold headL restL ixL
  rcases find_ix [47, 63] l with ⟨h1, h2⟩ | ⟨h1, h2⟩
  · rw [h1, h2, if_neg (by decide), if_neg (by decide), List.take_length, List.drop_length]; exact ⟨rfl, rfl⟩
  · rw [h1, if_pos (by omega), if_pos (by omega), Int.toNat_natCast]; exact ⟨rfl, rfl⟩
theorem finds_at (l ms : List UInt8) (hl : l.length ≤ 1000000) (hm : ms.length ≤ 1000000) : Finds (bs l) (bs ms) (findN ms l) := fun w =>
  rfind_any (bs l) (bs ms) (by rw [bs_size]; exact hl) (by rw [bs_size]; exact hm) w
theorem ext_mid (l : List UInt8) (a b : Nat) : (bs l).extract a b = bs ((l.take b).drop a) := by
  apply bs_of
  rw [ByteArray.data_extract, Array.toList_extract, List.extract_eq_take_drop, bs_list, List.take_drop]
  by_cases h : a ≤ b
  · rw [show a + (b - a) = b by omega]
  · rw [List.drop_of_length_le (by rw [List.length_take]; omega), List.drop_of_length_le (by rw [List.length_take]; omega)]
theorem colon_ok (l : List UInt8) : (l.contains 58 && Lib.hasPrefix (behind 58 l) [47, 47]) = (decide (findN [58] l + 3 ≤ l.length) && ((l.take (findN [58] l + 3)).drop (findN [58] l) == [58, 47, 47])) := by
  cases hc : l.contains 58 with
  | false =>
    have := (find_one_no 58 l hc).1
    rw [decide_eq_false (by omega)]; rfl
  | true =>
    have e := ahead_behind 58 l hc
    rw [find_one]
    generalize ahead 58 l = a at *
    generalize behind 58 l = b at *
    subst e
    rw [List.take_append, List.take_of_length_le (by omega), show a.length + 3 - a.length = 3 by omega, List.drop_append, List.drop_length, Nat.sub_self, List.drop_zero, List.nil_append, List.length_append]
    match b with
    | [] => simp [Lib.hasPrefix, List.isPrefixOf]
    | [x] => simp [Lib.hasPrefix, List.isPrefixOf]
    | x :: y :: r =>
      rw [decide_eq_true (by simp only [List.length_cons]; omega)]
      simp only [Lib.hasPrefix, List.isPrefixOf, Bool.true_and, List.take_succ_cons, List.take_zero, Bool.and_true]
      rw [Bool.eq_iff_iff]
      constructor
      · intro h
        simp at h ⊢
        exact ⟨h.1.symm, h.2.symm⟩
      · intro h
        simp at h ⊢
        exact ⟨h.1.symm, h.2.symm⟩
theorem rparse_any (s : ByteArray) (hs : s.size ≤ 100000) (w : World) :
    Calls Tryz.prog 6 #[.string s] w fun e w' => e = .returned (parseV s.data.toList) ∧ Below w.heap.size w w' := by
  obtain ⟨l, hl⟩ : ∃ l, s.data.toList = l := ⟨_, rfl⟩
  obtain rfl : s = bs l := bs_of s l hl
  rw [bs_list]
  have hll : l.length ≤ 100000 := by rw [← bs_size]; exact hs
  have hp := parts_le l
  have H1 := finds_at l [58] (by omega) (by decide)
  have hck := colon_ok l
  have hn1 := findN_le [58] l
  have hx : ((bs l).extract (findN [58] l) (findN [58] l + 3)).toList = (l.take (findN [58] l + 3)).drop (findN [58] l) := by rw [ext_mid, ByteArray.toList_eq, bs_list]
  have hx2 : (((bs l).extract (findN [58] l) (findN [58] l + 3)).toList == ([58, 47, 47] : List UInt8)) = ((l.take (findN [58] l + 3)).drop (findN [58] l) == [58, 47, 47]) := by
    rw [hx]
  by_cases hok : okL l = true
  · unfold okL at hok
    simp only [Bool.and_eq_true, decide_eq_true_eq] at hok
    obtain ⟨⟨k1, k2⟩, k3⟩ := hok
    rw [k1, k2] at hck
    have hck2 := hck.symm
    rw [Bool.true_and, Bool.and_eq_true, decide_eq_true_eq] at hck2
    obtain ⟨c1, c2⟩ := hck2
    obtain ⟨f1, f2, f3⟩ := find_one_yes 58 l k1
    have er2 : l.drop (findN [58] l + 3) = r2L l := by
      unfold r2L; rw [← f3, List.drop_drop]
    obtain ⟨sp1, sp2⟩ := split_find (r2L l)
    have H2 := finds_at (r2L l) [47, 63] (by omega) (by decide)
    have H3 := finds_at (hP l) [64] (by omega) (by decide)
    have H4 := finds_at (hd2L (hP l)) [58] (by omega) (by decide)
    have H5 := finds_at (rtP l) [63] (by omega) (by decide)
    have H6 := fun w => rmay_any (bs (scP l)) (bs (usP l)) (bs (hoP l)) (bs (poP l)) (bs (paP l)) (bs (quP l)) (huP l) (hqP l) (by rw [bs_size]; omega) (by rw [bs_size]; omega) (by rw [bs_size]; omega) (by rw [bs_size]; omega) (by rw [bs_size]; omega) (by rw [bs_size]; omega) w
    have hlast : ∀ m : List UInt8, ∀ c : UInt8, m.take (findN [c] m) = ahead c m := by
      intro m c
      cases q : m.contains c with
      | true => exact (find_one_yes c m q).2.1
      | false =>
        obtain ⟨q1, q2, q3⟩ := find_one_no c m q
        rw [q1, q2, List.take_length]
    refine (rparse_go (bs l) (bs (scP l)) (bs (r2L l)) (bs (hP l)) (bs (rtP l)) (bs (usP l)) (bs (hd2L (hP l))) (bs (hoP l)) (bs (poP l)) (bs (paP l)) (bs (quP l)) (huP l) (hqP l) (mayP l) _ _ _ _ _
      (Lib.hid H1) (Lib.hid H2) (Lib.hid H3) (Lib.hid H4) (Lib.hid H5) (Lib.hid H6) (by rw [bs_size]; exact k3) (by rw [bs_size]; exact c1) (by rw [hx2]; exact c2)
      ?_ ?_ (by rw [bs_size]; omega) (by rw [bs_size]; exact findN_le _ _) ?_ ?_ (by rw [bs_size]; omega) (by rw [bs_size]; omega) ?_ (by rw [bs_size]; omega) ?_ (by rw [bs_size]; exact findN_le _ _) ?_ ?_ (by rw [bs_size]; exact findN_le _ _) ?_ w).mono ?_
    · rw [(extract_bs _ _ (by omega)).1, f2]; rfl
    · rw [(extract_bs _ _ c1).2, er2]
    · rw [(extract_bs _ _ (findN_le _ _)).1, ← sp1]; rfl
    · rw [(extract_bs _ _ (findN_le _ _)).2, ← sp2]; rfl
    · rw [bs_size]
      cases q : (hP l).contains 64 with
      | true =>
        left
        obtain ⟨q1, q2, q3⟩ := find_one_yes 64 _ q
        refine ⟨q, q1, ?_, ?_⟩
        · rw [(extract_bs _ _ (by omega)).1, q2]; unfold usP usL; rw [if_pos q]
        · rw [← bs_size, (extract_bs _ _ q1).2, q3]; unfold hd2L; rw [if_pos q]
      | false =>
        right
        obtain ⟨q1, q2, q3⟩ := find_one_no 64 _ q
        refine ⟨q, by omega, ?_, ?_⟩
        · unfold usP usL; rw [if_neg (by rw [q]; decide)]; rfl
        · unfold hd2L; rw [if_neg (by rw [q]; decide)]
    · rw [(extract_bs _ _ (findN_le _ _)).1, hlast]; rfl
    · rw [bs_size]
      cases q : (hd2L (hP l)).contains 58 with
      | true =>
        left
        obtain ⟨q1, q2, q3⟩ := find_one_yes 58 _ q
        refine ⟨q1, ?_⟩
        rw [← bs_size, (extract_bs _ _ q1).2, q3]; rfl
      | false =>
        right
        obtain ⟨q1, q2, q3⟩ := find_one_no 58 _ q
        exact ⟨by omega, by unfold poP; rw [q3]; rfl⟩
    · rw [(extract_bs _ _ (findN_le _ _)).1, hlast]; rfl
    · rw [bs_size]
      cases q : (rtP l).contains 63 with
      | true =>
        left
        obtain ⟨q1, q2, q3⟩ := find_one_yes 63 _ q
        refine ⟨q, q1, ?_⟩
        rw [← bs_size, (extract_bs _ _ q1).2, q3]; rfl
      | false =>
        right
        obtain ⟨q1, q2, q3⟩ := find_one_no 63 _ q
        exact ⟨q, by omega, by unfold quP; rw [q3]; rfl⟩
    · rintro e w' ⟨rfl, hw⟩
      refine ⟨?_, hw⟩
      unfold parseV parseOk okL
      rw [k1, k2, decide_eq_true k3]
      cases mayP l <;> rfl
  · have hv : parseV l = .tuple #[zeroA, .int .i64 150] := by
      unfold parseV parseOk
      rw [Bool.not_eq_true] at hok
      rw [hok]; rfl
    rw [hv]
    refine rparse_no (bs l) _ (Lib.hid H1) (by rw [bs_size]; omega) (by omega) ?_ w
    unfold okL at hok
    rw [hck, Bool.not_eq_true] at hok
    rw [bs_size, hx2]
    by_cases g1 : l.length ≤ 2048
    · rw [decide_eq_true g1, Bool.and_true] at hok
      right
      by_cases g2 : findN [58] l + 3 ≤ l.length
      · rw [decide_eq_true g2, Bool.true_and] at hok
        exact Or.inr ⟨g1, g2, hok⟩
      · exact Or.inl ⟨g1, by omega⟩
    · left; omega
end Go.Proofs.YtcocjmbhbddgiaaGreatDoor
