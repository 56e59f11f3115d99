/- Canon (address) at every text. -/
import Derived.Test.YtcocjmbhbddgiaaGreatDoorBe
set_option linter.unusedSimpArgs false
set_option linter.unusedVariables false
namespace Go.Proofs.YtcocjmbhbddgiaaGreatDoor
open Go.RowKit
theorem hex_ascii (c : UInt8) (h : isHex c = true) : c.toNat < 128 := by
  have g := all_bytes (f := fun c => (!isHex c || decide (c.toNat < 128))) (g := fun _ => true) (by decide +kernel) c
  simp only [h, Bool.not_true, Bool.false_or, decide_eq_true_eq] at g
  exact g
theorem made_ascii (p : UInt8 → Bool) (hp : ∀ c, p c = true → c.toNat < 128) : ∀ l : List UInt8, madeB p l = true → ∀ c ∈ l, c.toNat < 128
  | [], _, c, hc => by cases hc
  | [a], h, c, hc => by
    rw [List.mem_singleton] at hc
    rw [hc]; exact hp a h
  | [a, b], h, c, hc => by
    simp only [madeB, Bool.and_eq_true] at h
    rcases List.mem_cons.1 hc with q | q
    · rw [q]; exact hp a h.1
    · rw [List.mem_singleton] at q; rw [q]; exact hp b h.2
  | a :: b :: d :: r, h, c, hc => by
    rw [madeB] at h
    cases he : (a == 37 && isHex b && isHex d) with
    | true =>
      rw [he] at h
      simp only [if_true] at h
      simp only [Bool.and_eq_true, beq_iff_eq] at he
      rcases List.mem_cons.1 hc with q | q
      · rw [q, he.1.1]; decide
      · rcases List.mem_cons.1 q with q | q
        · rw [q]; exact hex_ascii b he.1.2
        · rcases List.mem_cons.1 q with q | q
          · rw [q]; exact hex_ascii d he.2
          · exact made_ascii p hp r h c q
    | false =>
      rw [he] at h
      simp only [Bool.false_eq_true, if_false, Bool.and_eq_true] at h
      rcases List.mem_cons.1 hc with q | q
      · rw [q]; exact hp a h.1
      · exact made_ascii p hp (b :: d :: r) h.2 c q
theorem mayB_ascii (marks : List UInt8) (hm : ∀ c ∈ marks, c.toNat < 128) (c : UInt8) (h : mayB marks c = true) : c.toNat < 128 := by
  unfold mayB at h
  simp only [Bool.or_eq_true] at h
  rcases h with (h | h) | h
  · exact free_ascii c h
  · have : ∀ c ∈ delims, c.toNat < 128 := by decide
    exact this c (List.contains_iff_mem.1 h)
  · exact hm c (List.contains_iff_mem.1 h)
theorem okS_ascii (c : UInt8) (h : okS c = true) : c.toNat < 128 := by
  have g := all_bytes (f := fun c => (!okS c || decide (c.toNat < 128))) (g := fun _ => true) (by decide +kernel) c
  simp only [h, Bool.not_true, Bool.false_or, decide_eq_true_eq] at g
  exact g
theorem may_parts {sc us ho po pa qu : List UInt8} {hu hq : Bool} (h : mayL sc us ho po pa qu hu hq = true) :
    (∀ c ∈ sc, c.toNat < 128) ∧ (∀ c ∈ us, c.toNat < 128) ∧ (∀ c ∈ ho, c.toNat < 128) ∧ (∀ c ∈ pa, c.toNat < 128) ∧ (∀ c ∈ qu, c.toNat < 128) := by
  unfold mayL oneL at h
  simp only [Bool.and_eq_true] at h
  obtain ⟨⟨⟨⟨⟨⟨⟨h1, h2⟩, h3⟩, h4⟩, h5⟩, h6⟩, _⟩, _⟩ := h
  refine ⟨?_, made_ascii _ (mayB_ascii [58] (by decide)) us h2, made_ascii _ (mayB_ascii [] (by decide)) ho h3, made_ascii _ (mayB_ascii [58, 64, 47] (by decide)) pa h5, made_ascii _ (mayB_ascii [58, 64, 47, 63] (by decide)) qu h6⟩
  rw [scheme_parts] at h1
  simp only [Bool.and_eq_true] at h1
  exact made_ascii _ okS_ascii sc h1.2
theorem outE_le (tf : UInt8 → UInt8) (b c : UInt8) : (outE tf b c).length ≤ 3 := by
  unfold outE; split <;> simp
theorem plain_le (tf : UInt8 → UInt8) : ∀ l : List UInt8, (plainL tf l).length ≤ l.length
  | [] => Nat.le_refl _
  | [a] => Nat.le_refl _
  | [a, b] => Nat.le_refl _
  | a :: b :: c :: r => by
    rw [plainL]
    split
    · have := plain_le tf r
      have := outE_le tf b c
      rw [List.length_append]
      simp only [List.length_cons]
      omega
    · have := plain_le tf (b :: c :: r)
      simp only [List.length_cons] at *
      omega
def canonL (l : List UInt8) : List UInt8 := tellL (plainL lowB (scP l)) (plainL id (usP l)) (plainL lowB (hoP l)) (poP l) (plainL id (paP l)) (plainL id (quP l)) (huP l) (hqP l)
def canonV (l : List UInt8) : Value := if parseOk l then .tuple #[.string (bs (canonL l)), .int .i64 0] else .tuple #[.string ⟨#[]⟩, .int .i64 150]
theorem canon_any (s : ByteArray) (hs : s.size ≤ 100000) (w : World) :
    Calls Tryz.prog 7 #[.string s] w fun e w' => e = .returned (canonV s.data.toList) ∧ Below w.heap.size w w' := by
  obtain ⟨l, hl⟩ : ∃ l, s.data.toList = l := ⟨_, rfl⟩
  obtain rfl : s = bs l := bs_of s l hl
  rw [bs_list]
  have hll : l.length ≤ 100000 := by rw [← bs_size]; exact hs
  have hp := parts_le l
  have H1 : Does 5 #[.string (bs l)] (parseV l) := fun w => parse_any (bs l) hs w
  cases hok : parseOk l with
  | false =>
    have hv : canonV l = .tuple #[.string ⟨#[]⟩, .int .i64 150] := by unfold canonV; rw [hok]; rfl
    have hv2 : parseV l = .tuple #[zeroA, .int .i64 150] := by unfold parseV; rw [hok]; rfl
    rw [hv]
    rw [hv2] at H1
    exact canon_no (bs l) (Lib.hid H1) w
  | true =>
    have hv : canonV l = .tuple #[.string (bs (canonL l)), .int .i64 0] := by unfold canonV; rw [hok]; rfl
    have hv2 : parseV l = .tuple #[addrV (scP l) (usP l) (hoP l) (poP l) (paP l) (quP l) (huP l) (hqP l), .int .i64 0] := by unfold parseV; rw [hok]; rfl
    rw [hv]
    rw [hv2] at H1
    have hm : mayP l = true := by unfold parseOk at hok; simp only [Bool.and_eq_true] at hok; exact hok.2
    obtain ⟨q1, q2, q3, q4, q5⟩ := may_parts hm
    have e1 := plain_le lowB (scP l)
    have e2 := plain_le id (usP l)
    have e3 := plain_le lowB (hoP l)
    have e4 := plain_le id (paP l)
    have e5 := plain_le id (quP l)
    exact canon_go (bs l) (bs (scP l)) (bs (usP l)) (bs (hoP l)) (bs (poP l)) (bs (paP l)) (bs (quP l)) (bs (plainL lowB (scP l))) (bs (plainL id (usP l))) (bs (plainL lowB (hoP l))) (bs (plainL id (paP l))) (bs (plainL id (quP l))) (bs (canonL l)) (huP l) (hqP l) (Lib.hid H1)
      (Lib.hid fun V => plain_small (bs (scP l)) (by rw [bs_size]; omega) (Lib.hid q1) V) (Lib.hid fun V => plain_small (bs (hoP l)) (by rw [bs_size]; omega) (Lib.hid q3) V)
      (Lib.hid fun V => plain_kept (bs (usP l)) (by rw [bs_size]; omega) (Lib.hid q2) V) (Lib.hid fun V => plain_kept (bs (paP l)) (by rw [bs_size]; omega) (Lib.hid q4) V) (Lib.hid fun V => plain_kept (bs (quP l)) (by rw [bs_size]; omega) (Lib.hid q5) V)
      (Lib.hid fun V => tell_any (bs _) (bs _) (bs _) (bs (poP l)) (bs _) (bs _) (huP l) (hqP l) (by rw [bs_size]; omega) (by rw [bs_size]; omega) (by rw [bs_size]; omega) (by rw [bs_size]; omega) (by rw [bs_size]; omega) (by rw [bs_size]; omega) V) w
end Go.Proofs.YtcocjmbhbddgiaaGreatDoor
