/- The walks through the reference's reading of a Decimal (provostref14: Made, Parse). -/
import Derived.Test.YtfhgcpmadajbdaaDoorMj
import Derived.Test.YtfhgcpmadajbdaaDoorRa
import Derived.Test.YtfhgcpmadajbdaaDoorRb
set_option linter.unusedSimpArgs false
set_option linter.unusedVariables false
namespace Go.Proofs.YtfhgcpmadajbdaaDoor
open Go.RowKit
set_option maxRecDepth 100000 in
set_option maxHeartbeats 1000000 in
theorem rmade_any (n : Int) (k : Nat) (hn : R n) (hk : k ≤ 18) (w : World) :
    Calls Tryd.prog 45 #[.int .i64 n, .int .i64 k] w fun e w' => e = .returned (.agg #[.int .i64 (norm k n).1, .int .i64 ((norm k n).2 : Nat)]) ∧ Below w.heap.size w w' := by
  obtain ⟨rM, hM⟩ : ∃ x, (norm k n).1 = x := ⟨_, rfl⟩
  obtain ⟨rS, hS⟩ : ∃ x, (norm k n).2 = x := ⟨_, rfl⟩
  rw [hM, hS]
  have HN : Hid (norm k n = (rM, rS)) := Lib.hid (by rw [← hM, ← hS])
  clear hM hS
  go_enter Tryd.func45, Tryd.ntmps45
  go_wp2_with fail
  go_loop [0, 1] (fun x s => ∃ (y : Int) (j : Nat), x = .int .i64 y ∧ s = .int .i64 j ∧ j ≤ 18 ∧ R y ∧ Hid (norm j y = (rM, rS))) (fun x s => (intOf s).toNat)
  case atStart => exact ⟨n, k, rfl, rfl, hk, hn, HN⟩
  case round =>
    obtain ⟨y, j, rfl, rfl, hj, hy, HY⟩ := hrel
    obtain ⟨y1, y2⟩ := hy
    by_cases hj0 : j = 0
    · subst hj0
      have hend : rM = y ∧ rS = 0 := by have := HY.out; rw [norm] at this; exact ⟨congrArg Prod.fst this.symm, congrArg Prod.snd this.symm⟩
      obtain ⟨rfl, rfl⟩ := hend
      go_wp2_with fail
      refine bodyPost_ret (v := .agg #[.int .i64 rM, .int .i64 ((0 : Nat) : Int)]) (by simp [results, Tryd.results45, go_sem]) rfl ⟨rfl, ?_⟩
      go_grown
    · obtain ⟨i, rfl⟩ : ∃ i, j = i + 1 := ⟨j - 1, by omega⟩
      by_cases hm : y % 10 = 0
      · have ht : (y.tmod 10 == 0) = true := by rw [beq_iff_eq]; exact (tmod_zero y).2 hm
        obtain ⟨z, hq⟩ : ∃ z, y.tdiv 10 = z := ⟨_, rfl⟩
        have hqz : z = y / 10 := by rw [← hq, Int.tdiv_eq_ediv_of_dvd (Int.dvd_of_emod_eq_zero hm)]
        have HY2 : Hid (norm i z = (rM, rS)) := Lib.hid (by have := HY.out; rw [norm, if_pos hm, ← hqz] at this; exact this)
        have zb : -9223372036854775808 ≤ z ∧ z ≤ 9223372036854775807 := by omega
        obtain ⟨z1, z2⟩ := zb
        clear hqz hm hj0
        go_wp2_with fail
        go_round
        case rel => exact ⟨z, i, rfl, by go_num, by omega, ⟨z1, z2⟩, HY2⟩
        case measure => simp [intOf]
      · have ht : (y.tmod 10 == 0) = false := by rw [beq_eq_false_iff_ne]; exact fun h => hm ((tmod_zero y).1 h)
        have hend : rM = y ∧ rS = i + 1 := by have := HY.out; rw [norm, if_neg hm] at this; exact ⟨congrArg Prod.fst this.symm, congrArg Prod.snd this.symm⟩
        obtain ⟨rfl, rfl⟩ := hend
        clear hm hj0
        go_wp2_with fail
        refine bodyPost_ret (v := .agg #[.int .i64 rM, .int .i64 ((i : Int) + 1)]) (by simp [results, Tryd.results45, go_sem]) rfl ⟨rfl, ?_⟩
        go_grown
/-- Noughts ahead struck, but the last one. -/
def stripZ : List UInt8 → List UInt8
  | [] => []
  | [c] => [c]
  | c :: d :: r => if c = 48 then stripZ (d :: r) else c :: d :: r
theorem stripZ_end : ∀ l : List UInt8, l.length ≤ 1 ∨ l.head? ≠ some 48 → stripZ l = l
  | [], _ => rfl
  | [c], _ => rfl
  | c :: d :: r, h => by
    have : ¬ c = 48 := by
      rintro rfl
      rcases h with h | h
      · simp at h
      · simp at h
    rw [stripZ, if_neg this]
theorem stripZ_step (l : List UInt8) (h1 : 1 < l.length) (h : l.head? = some 48) : stripZ l = stripZ (l.drop 1) := by
  match l, h1, h with
  | c :: d :: r, _, h =>
    have : c = 48 := by simpa using h
    rw [stripZ, if_pos this]; rfl
theorem stripZ_len : ∀ l : List UInt8, (stripZ l).length ≤ l.length
  | [] => Nat.le_refl _
  | [c] => Nat.le_refl _
  | c :: d :: r => by
    rw [stripZ]; split
    · have := stripZ_len (d :: r); simp at *; omega
    · exact Nat.le_refl _
theorem stripZ_num : ∀ l : List UInt8, num (stripZ l) = num l
  | [] => rfl
  | [c] => rfl
  | c :: d :: r => by
    rw [stripZ]; split
    · rename_i h; subst h
      rw [stripZ_num (d :: r)]
      exact (num_zeros 1 (d :: r)).symm
    · rfl
theorem stripZ_ok : ∀ l : List UInt8, l.all isDig = true → l ≠ [] → okDigits (stripZ l) = true
  | [], _, h => absurd rfl h
  | [c], h, _ => by
    simp only [stripZ, okDigits, digitsB, Bool.and_eq_true]
    exact ⟨⟨h, rfl⟩, by simp⟩
  | c :: d :: r, h, _ => by
    rw [stripZ]; split
    · simp only [List.all_cons, Bool.and_eq_true] at h
      exact stripZ_ok (d :: r) (by simp only [List.all_cons, Bool.and_eq_true]; exact h.2) (by simp)
    · rename_i hc
      unfold okDigits digitsB
      rw [h]
      have : ((c :: d :: r).head? == some 48) = false := by simpa using hc
      rw [this]; rfl
theorem head_at (b : ByteArray) (h : 0 < b.size) : (b.data.toList.head? = some 48) ↔ ((b[0].toNat : Int) == 48) = true := by
  have := head_zero b h
  rw [← this]; simp
/-- The first point from a place on, as the reference's loop finds it. -/
def pt (l : List UInt8) (k : Nat) : Nat := k + (ahead 46 (l.drop k)).length
theorem pt_end (s : ByteArray) : pt s.data.toList s.size = s.size := by
  unfold pt
  rw [List.drop_of_length_le (by rw [Array.length_toList]; exact Nat.le_refl _)]; rfl
theorem pt_step (s : ByteArray) (k : Nat) (h : k < s.size) : pt s.data.toList k = if ((s[k].toNat : Int) == 46) = true then k else pt s.data.toList (k + 1) := by
  have hd : s.data.toList.drop k = s[k] :: s.data.toList.drop (k + 1) := by
    rw [List.drop_eq_getElem_cons (by rw [Array.length_toList]; exact h)]; rfl
  have hc : ((s[k].toNat : Int) == 46) = (s[k] == 46) := by
    rw [Bool.eq_iff_iff, beq_iff_eq, beq_iff_eq]
    constructor
    · intro q; exact UInt8.toNat_inj.1 (by have : (46 : UInt8).toNat = 46 := rfl; omega)
    · intro q; rw [q]; rfl
  unfold pt
  rw [hd, hc]
  unfold ahead
  cases q : s[k] == 46 with
  | true =>
    rw [List.takeWhile_cons_of_neg (by simp at q; simp [q])]; rfl
  | false =>
    rw [List.takeWhile_cons_of_pos (by simp at q; simpa using q)]
    simp; omega
set_option maxRecDepth 100000 in
set_option maxHeartbeats 2000000 in
theorem rparse_e1 (s hB : ByteArray) (p : Nat) (v e : Int) (w : World) (hs : s.size ≤ 2000) (hp : p ≤ s.size) (Q : Nat → Nat) (HQ0 : Hid (Q 0 = p)) (HQn : Hid (Q s.size = s.size)) (HQs : Hid (∀ (k : Nat) (h : k < s.size), Q k = if ((s[k].toNat : Int) == 46) = true then k else Q (k + 1)))
    (hx1 : s.extract 0 p = hB)
    (HR : Hid (∀ w, Calls Tryd.prog 43 #[.string hB] w fun e' w' => e' = .returned (.tuple #[.int .i64 v, .int .i64 e]) ∧ w = w'))
    (h1 : (e == 21) = true) :
    Calls Tryd.prog 20 #[.string s] w fun e w' => e = .returned (.tuple #[.agg #[.int .i64 0, .int .i64 0], .int .i64 140]) ∧ Below w.heap.size w w' := by
  have hpi : (p : Int) ≤ s.size := by omega
  go_enter Tryd.func20, Tryd.ntmps20
  go_wp2_with fail
  go_loop [4, 5] (fun t i => ∃ k : Nat, k ≤ s.size ∧ i = .int .i64 ((k : Int) - 1) ∧ t = .int .i64 (Q k) ∧ Q k ≤ s.size) (fun t i => (intOf i + 1).toNat)
  case atStart => exact ⟨s.size, Nat.le_refl _, rfl, by rw [HQn.out], by rw [HQn.out]; exact Nat.le_refl _⟩
  case round =>
    obtain ⟨k, hk, rfl, rfl, hq⟩ := hrel
    by_cases hk0 : k = 0
    · subst hk0
      rw [HQ0.out]
      go_wp2_with fail
      refine (HR.out _).mono ?_; rintro e w1 ⟨rfl, rfl⟩
      go_wp2_with fail
      refine bodyPost_ret (v := .tuple #[.agg #[.int .i64 0, .int .i64 0], .int .i64 140]) (by simp [results, Tryd.results20, go_sem, *]) rfl ⟨rfl, ?_⟩
      go_grown
    · obtain ⟨j, rfl⟩ : ∃ j, k = j + 1 := ⟨k - 1, by omega⟩
      have hj : j < s.size := by omega
      have hst := HQs.out j hj
      rw [show ((j + 1 : Nat) : Int) - 1 = (j : Int) by omega]
      clear hk0
      by_cases hc : ((s[j].toNat : Int) == 46) = true
      · rw [if_pos hc] at hst
        have HST := Lib.hid hst
        clear hst
        go_wp2_with fail
        go_round
        case rel => exact ⟨j, by omega, rfl, by rw [HST.out], by rw [HST.out]; omega⟩
        case measure => simp [intOf]
      · rw [if_neg hc] at hst
        have hc2 : ((s[j].toNat : Int) == 46) = false := by simpa using hc
        have HST := Lib.hid hst
        clear hst hc
        go_wp2_with fail
        go_round
        case rel => exact ⟨j, by omega, rfl, by rw [HST.out], by rw [HST.out]; exact hq⟩
        case measure => simp [intOf]
set_option maxRecDepth 100000 in
set_option maxHeartbeats 2000000 in
theorem rparse_e2 (s hB : ByteArray) (p : Nat) (v e : Int) (w : World) (hs : s.size ≤ 2000) (hp : p ≤ s.size) (Q : Nat → Nat) (HQ0 : Hid (Q 0 = p)) (HQn : Hid (Q s.size = s.size)) (HQs : Hid (∀ (k : Nat) (h : k < s.size), Q k = if ((s[k].toNat : Int) == 46) = true then k else Q (k + 1)))
    (hx1 : s.extract 0 p = hB)
    (HR : Hid (∀ w, Calls Tryd.prog 43 #[.string hB] w fun e' w' => e' = .returned (.tuple #[.int .i64 v, .int .i64 e]) ∧ w = w'))
    (h1 : (e == 21) = false) (bB : ByteArray) (dg : Bool) (hx2 : s.extract (p + 1) s.size = bB) (hp2 : p < s.size) (bh : Nat) (hbh : (s.size : Int) - p - 1 = bh) (HD : Hid (∀ w, Calls Tryd.prog 44 #[.string bB] w fun e w' => e = .returned (.bool dg) ∧ w = w')) (h2 : dg = false) :
    Calls Tryd.prog 20 #[.string s] w fun e w' => e = .returned (.tuple #[.agg #[.int .i64 0, .int .i64 0], .int .i64 140]) ∧ Below w.heap.size w w' := by
  have hp3 : (p : Int) + 1 ≤ s.size := by omega
  have hp4 : (p : Int) < s.size := by omega
  subst h2
  have hpi : (p : Int) ≤ s.size := by omega
  go_enter Tryd.func20, Tryd.ntmps20
  go_wp2_with fail
  go_loop [4, 5] (fun t i => ∃ k : Nat, k ≤ s.size ∧ i = .int .i64 ((k : Int) - 1) ∧ t = .int .i64 (Q k) ∧ Q k ≤ s.size) (fun t i => (intOf i + 1).toNat)
  case atStart => exact ⟨s.size, Nat.le_refl _, rfl, by rw [HQn.out], by rw [HQn.out]; exact Nat.le_refl _⟩
  case round =>
    obtain ⟨k, hk, rfl, rfl, hq⟩ := hrel
    by_cases hk0 : k = 0
    · subst hk0
      rw [HQ0.out]
      go_wp2_with fail
      refine (HR.out _).mono ?_; rintro e w1 ⟨rfl, rfl⟩
      go_wp2_with fail
      refine (HD.out _).mono ?_; rintro e w1 ⟨rfl, rfl⟩
      go_wp2_with fail
      refine bodyPost_ret (v := .tuple #[.agg #[.int .i64 0, .int .i64 0], .int .i64 140]) (by simp [results, Tryd.results20, go_sem, *]) rfl ⟨rfl, ?_⟩
      go_grown
    · obtain ⟨j, rfl⟩ : ∃ j, k = j + 1 := ⟨k - 1, by omega⟩
      have hj : j < s.size := by omega
      have hst := HQs.out j hj
      rw [show ((j + 1 : Nat) : Int) - 1 = (j : Int) by omega]
      clear hk0
      by_cases hc : ((s[j].toNat : Int) == 46) = true
      · rw [if_pos hc] at hst
        have HST := Lib.hid hst
        clear hst
        go_wp2_with fail
        go_round
        case rel => exact ⟨j, by omega, rfl, by rw [HST.out], by rw [HST.out]; omega⟩
        case measure => simp [intOf]
      · rw [if_neg hc] at hst
        have hc2 : ((s[j].toNat : Int) == 46) = false := by simpa using hc
        have HST := Lib.hid hst
        clear hst hc
        go_wp2_with fail
        go_round
        case rel => exact ⟨j, by omega, rfl, by rw [HST.out], by rw [HST.out]; exact hq⟩
        case measure => simp [intOf]
set_option maxRecDepth 100000 in
set_option maxHeartbeats 2000000 in
theorem rparse_e3 (s hB : ByteArray) (p : Nat) (v e : Int) (w : World) (hs : s.size ≤ 2000) (hp : p ≤ s.size) (Q : Nat → Nat) (HQ0 : Hid (Q 0 = p)) (HQn : Hid (Q s.size = s.size)) (HQs : Hid (∀ (k : Nat) (h : k < s.size), Q k = if ((s[k].toNat : Int) == 46) = true then k else Q (k + 1)))
    (hx1 : s.extract 0 p = hB)
    (HR : Hid (∀ w, Calls Tryd.prog 43 #[.string hB] w fun e' w' => e' = .returned (.tuple #[.int .i64 v, .int .i64 e]) ∧ w = w'))
    (h1 : (e == 21) = false) (bB : ByteArray) (dg : Bool) (hx2 : s.extract (p + 1) s.size = bB) (hp2 : p < s.size) (bh : Nat) (hbh : (s.size : Int) - p - 1 = bh) (HD : Hid (∀ w, Calls Tryd.prog 44 #[.string bB] w fun e w' => e = .returned (.bool dg) ∧ w = w')) (h2 : dg = true) (h3 : 18 < bh) :
    Calls Tryd.prog 20 #[.string s] w fun e w' => e = .returned (.tuple #[.agg #[.int .i64 0, .int .i64 0], .int .i64 140]) ∧ Below w.heap.size w w' := by
  have hp3 : (p : Int) + 1 ≤ s.size := by omega
  have hp4 : (p : Int) < s.size := by omega
  subst h2
  have hpi : (p : Int) ≤ s.size := by omega
  go_enter Tryd.func20, Tryd.ntmps20
  go_wp2_with fail
  go_loop [4, 5] (fun t i => ∃ k : Nat, k ≤ s.size ∧ i = .int .i64 ((k : Int) - 1) ∧ t = .int .i64 (Q k) ∧ Q k ≤ s.size) (fun t i => (intOf i + 1).toNat)
  case atStart => exact ⟨s.size, Nat.le_refl _, rfl, by rw [HQn.out], by rw [HQn.out]; exact Nat.le_refl _⟩
  case round =>
    obtain ⟨k, hk, rfl, rfl, hq⟩ := hrel
    by_cases hk0 : k = 0
    · subst hk0
      rw [HQ0.out]
      go_wp2_with fail
      refine (HR.out _).mono ?_; rintro e w1 ⟨rfl, rfl⟩
      go_wp2_with fail
      refine (HD.out _).mono ?_; rintro e w1 ⟨rfl, rfl⟩
      go_wp2_with fail
      refine bodyPost_ret (v := .tuple #[.agg #[.int .i64 0, .int .i64 0], .int .i64 140]) (by simp [results, Tryd.results20, go_sem, *]) rfl ⟨rfl, ?_⟩
      go_grown
    · obtain ⟨j, rfl⟩ : ∃ j, k = j + 1 := ⟨k - 1, by omega⟩
      have hj : j < s.size := by omega
      have hst := HQs.out j hj
      rw [show ((j + 1 : Nat) : Int) - 1 = (j : Int) by omega]
      clear hk0
      by_cases hc : ((s[j].toNat : Int) == 46) = true
      · rw [if_pos hc] at hst
        have HST := Lib.hid hst
        clear hst
        go_wp2_with fail
        go_round
        case rel => exact ⟨j, by omega, rfl, by rw [HST.out], by rw [HST.out]; omega⟩
        case measure => simp [intOf]
      · rw [if_neg hc] at hst
        have hc2 : ((s[j].toNat : Int) == 46) = false := by simpa using hc
        have HST := Lib.hid hst
        clear hst hc
        go_wp2_with fail
        go_round
        case rel => exact ⟨j, by omega, rfl, by rw [HST.out], by rw [HST.out]; exact hq⟩
        case measure => simp [intOf]
set_option maxRecDepth 100000 in
set_option maxHeartbeats 2000000 in
theorem rparse_np_a_m (s hB : ByteArray) (p : Nat) (v e : Int) (w : World) (hs : s.size ≤ 2000) (hp : p ≤ s.size) (Q : Nat → Nat) (HQ0 : Hid (Q 0 = p)) (HQn : Hid (Q s.size = s.size)) (HQs : Hid (∀ (k : Nat) (h : k < s.size), Q k = if ((s[k].toNat : Int) == 46) = true then k else Q (k + 1)))
    (hx1 : s.extract 0 p = hB)
    (HR : Hid (∀ w, Calls Tryd.prog 43 #[.string hB] w fun e' w' => e' = .returned (.tuple #[.int .i64 v, .int .i64 e]) ∧ w = w'))
    (h1 : (e == 21) = false) (hh : 0 < hB.size) (hh2 : hB.size ≤ 2000) (hp2 : p = s.size) (bh : Nat) (hb0 : bh = 0) (hd : ((hB[0].toNat : Int) == 45) = false) (z : List UInt8) (HZ : Hid (stripZ (hB).data.toList = z)) (n2 e2 : Int) (HR2 : Hid (∀ dB : ByteArray, dB.data.toList = z → ∀ w, Calls Tryd.prog 43 #[.string (dB)] w fun e' w' => e' = .returned (.tuple #[.int .i64 n2, .int .i64 e2]) ∧ w = w')) (h9 : e2 = 0) (rM rS : Int) (HM : Hid (∀ w, Calls Tryd.prog 45 #[.int .i64 n2, .int .i64 0] w fun e w' => e = .returned (.agg #[.int .i64 rM, .int .i64 rS]) ∧ Below w.heap.size w w')) :
    Calls Tryd.prog 20 #[.string s] w fun e w' => e = .returned (.tuple #[.agg #[.int .i64 rM, .int .i64 rS], .int .i64 0]) ∧ Below w.heap.size w w' := by
  have hp5 : (s.size : Int) ≤ p := by omega
  clear hp2
  subst hb0
  subst h9
  have hpi : (p : Int) ≤ s.size := by omega
  go_enter Tryd.func20, Tryd.ntmps20
  go_wp2_with fail
  go_loop [4, 5] (fun t i => ∃ k : Nat, k ≤ s.size ∧ i = .int .i64 ((k : Int) - 1) ∧ t = .int .i64 (Q k) ∧ Q k ≤ s.size) (fun t i => (intOf i + 1).toNat)
  case atStart => exact ⟨s.size, Nat.le_refl _, rfl, by rw [HQn.out], by rw [HQn.out]; exact Nat.le_refl _⟩
  case round =>
    obtain ⟨k, hk, rfl, rfl, hq⟩ := hrel
    by_cases hk0 : k = 0
    · subst hk0
      rw [HQ0.out]
      go_wp2_with fail
      refine (HR.out _).mono ?_; rintro e w1 ⟨rfl, rfl⟩
      go_wp2_with fail
      go_loop [8] (fun t => ∃ dB : ByteArray, t = .string dB ∧ 0 < dB.size ∧ dB.size ≤ 4000 ∧ Hid (stripZ dB.data.toList = z)) (fun t => match t with | .string b => b.size | _ => 0)
      case atStart => exact ⟨_, rfl, by omega, by omega, HZ⟩
      case round =>
        obtain ⟨dB, rfl, d0, d1, HS⟩ := hrel
        by_cases hc : 1 < dB.size ∧ ((dB[0].toNat : Int) == 48) = true
        · obtain ⟨hc1, hc2⟩ := hc
          have HS2 : Hid (stripZ (dB.extract 1 dB.size).data.toList = z) := Lib.hid (by
            rw [Lib.extract_to_end, ← stripZ_step _ (by rw [Array.length_toList]; exact hc1) ((head_at dB d0).2 hc2)]; exact HS.out)
          have hsz : (dB.extract 1 dB.size).size = dB.size - 1 := by rw [ByteArray.size_extract]; omega
          have HSZ := Lib.hid hsz
          clear hsz
          go_wp2_with fail
          go_round
          case rel => exact ⟨_, rfl, by rw [HSZ.out]; omega, by rw [HSZ.out]; omega, HS2⟩
          case measure => show (dB.extract 1 dB.size).size < dB.size; rw [HSZ.out]; omega
        · have hz : dB.data.toList = z := by
            rw [← HS.out]
            refine (stripZ_end _ ?_).symm
            by_cases h1 : 1 < dB.size
            · exact .inr fun q => hc ⟨h1, (head_at dB d0).1 q⟩
            · exact .inl (by rw [Array.length_toList]; exact Nat.le_of_not_lt h1)
          have HR3 := Lib.hid (fun w => HR2.out dB hz w)
          have hcc : dB.size ≤ 1 ∨ ((dB[0].toNat : Int) == 48) = false := by
            by_cases h1 : 1 < dB.size
            · right; cases q : ((dB[0].toNat : Int) == 48) with
              | false => rfl
              | true => exact absurd ⟨h1, q⟩ hc
            · left; omega
          clear hz hc
          have hcd : dB.size ≤ 1 ∨ (1 < dB.size ∧ ((dB[0].toNat : Int) == 48) = false) := by
            rcases hcc with h | h
            · exact .inl h
            · by_cases h1 : 1 < dB.size
              · exact .inr ⟨h1, h⟩
              · exact .inl (by omega)
          clear hcc
          rcases hcd with hcd | ⟨hcd1, hcd2⟩
          all_goals
            go_wp2_with fail
            refine (HR3.out _).mono ?_; rintro e w2 ⟨rfl, rfl⟩
            go_wp2_with fail
            refine (HM.out _).mono ?_; rintro e w3 ⟨rfl, hb3⟩
            obtain ⟨c0, c1, f0, f1, hz1, hbw⟩ := own2 hb3
            go_wp2_with fail
            refine bodyPost_ret (v := .tuple #[.agg #[.int .i64 rM, .int .i64 rS], .int .i64 0]) (by simp [results, Tryd.results20, go_sem, *]) rfl ⟨rfl, ?_⟩
            go_grown
    · obtain ⟨j, rfl⟩ : ∃ j, k = j + 1 := ⟨k - 1, by omega⟩
      have hj : j < s.size := by omega
      have hst := HQs.out j hj
      rw [show ((j + 1 : Nat) : Int) - 1 = (j : Int) by omega]
      clear hk0
      by_cases hc : ((s[j].toNat : Int) == 46) = true
      · rw [if_pos hc] at hst
        have HST := Lib.hid hst
        clear hst
        go_wp2_with fail
        go_round
        case rel => exact ⟨j, by omega, rfl, by rw [HST.out], by rw [HST.out]; omega⟩
        case measure => simp [intOf]
      · rw [if_neg hc] at hst
        have hc2 : ((s[j].toNat : Int) == 46) = false := by simpa using hc
        have HST := Lib.hid hst
        clear hst hc
        go_wp2_with fail
        go_round
        case rel => exact ⟨j, by omega, rfl, by rw [HST.out], by rw [HST.out]; exact hq⟩
        case measure => simp [intOf]
set_option maxRecDepth 100000 in
set_option maxHeartbeats 2000000 in
theorem rparse_np_a_o (s hB : ByteArray) (p : Nat) (v e : Int) (w : World) (hs : s.size ≤ 2000) (hp : p ≤ s.size) (Q : Nat → Nat) (HQ0 : Hid (Q 0 = p)) (HQn : Hid (Q s.size = s.size)) (HQs : Hid (∀ (k : Nat) (h : k < s.size), Q k = if ((s[k].toNat : Int) == 46) = true then k else Q (k + 1)))
    (hx1 : s.extract 0 p = hB)
    (HR : Hid (∀ w, Calls Tryd.prog 43 #[.string hB] w fun e' w' => e' = .returned (.tuple #[.int .i64 v, .int .i64 e]) ∧ w = w'))
    (h1 : (e == 21) = false) (hh : 0 < hB.size) (hh2 : hB.size ≤ 2000) (hp2 : p = s.size) (bh : Nat) (hb0 : bh = 0) (hd : ((hB[0].toNat : Int) == 45) = false) (z : List UInt8) (HZ : Hid (stripZ (hB).data.toList = z)) (n2 e2 : Int) (HR2 : Hid (∀ dB : ByteArray, dB.data.toList = z → ∀ w, Calls Tryd.prog 43 #[.string (dB)] w fun e' w' => e' = .returned (.tuple #[.int .i64 n2, .int .i64 e2]) ∧ w = w')) (h9 : (e2 != 0) = true) :
    Calls Tryd.prog 20 #[.string s] w fun e w' => e = .returned (.tuple #[.agg #[.int .i64 0, .int .i64 0], .int .i64 140]) ∧ Below w.heap.size w w' := by
  have hp5 : (s.size : Int) ≤ p := by omega
  clear hp2
  subst hb0
  have hpi : (p : Int) ≤ s.size := by omega
  go_enter Tryd.func20, Tryd.ntmps20
  go_wp2_with fail
  go_loop [4, 5] (fun t i => ∃ k : Nat, k ≤ s.size ∧ i = .int .i64 ((k : Int) - 1) ∧ t = .int .i64 (Q k) ∧ Q k ≤ s.size) (fun t i => (intOf i + 1).toNat)
  case atStart => exact ⟨s.size, Nat.le_refl _, rfl, by rw [HQn.out], by rw [HQn.out]; exact Nat.le_refl _⟩
  case round =>
    obtain ⟨k, hk, rfl, rfl, hq⟩ := hrel
    by_cases hk0 : k = 0
    · subst hk0
      rw [HQ0.out]
      go_wp2_with fail
      refine (HR.out _).mono ?_; rintro e w1 ⟨rfl, rfl⟩
      go_wp2_with fail
      go_loop [8] (fun t => ∃ dB : ByteArray, t = .string dB ∧ 0 < dB.size ∧ dB.size ≤ 4000 ∧ Hid (stripZ dB.data.toList = z)) (fun t => match t with | .string b => b.size | _ => 0)
      case atStart => exact ⟨_, rfl, by omega, by omega, HZ⟩
      case round =>
        obtain ⟨dB, rfl, d0, d1, HS⟩ := hrel
        by_cases hc : 1 < dB.size ∧ ((dB[0].toNat : Int) == 48) = true
        · obtain ⟨hc1, hc2⟩ := hc
          have HS2 : Hid (stripZ (dB.extract 1 dB.size).data.toList = z) := Lib.hid (by
            rw [Lib.extract_to_end, ← stripZ_step _ (by rw [Array.length_toList]; exact hc1) ((head_at dB d0).2 hc2)]; exact HS.out)
          have hsz : (dB.extract 1 dB.size).size = dB.size - 1 := by rw [ByteArray.size_extract]; omega
          have HSZ := Lib.hid hsz
          clear hsz
          go_wp2_with fail
          go_round
          case rel => exact ⟨_, rfl, by rw [HSZ.out]; omega, by rw [HSZ.out]; omega, HS2⟩
          case measure => show (dB.extract 1 dB.size).size < dB.size; rw [HSZ.out]; omega
        · have hz : dB.data.toList = z := by
            rw [← HS.out]
            refine (stripZ_end _ ?_).symm
            by_cases h1 : 1 < dB.size
            · exact .inr fun q => hc ⟨h1, (head_at dB d0).1 q⟩
            · exact .inl (by rw [Array.length_toList]; exact Nat.le_of_not_lt h1)
          have HR3 := Lib.hid (fun w => HR2.out dB hz w)
          have hcc : dB.size ≤ 1 ∨ ((dB[0].toNat : Int) == 48) = false := by
            by_cases h1 : 1 < dB.size
            · right; cases q : ((dB[0].toNat : Int) == 48) with
              | false => rfl
              | true => exact absurd ⟨h1, q⟩ hc
            · left; omega
          clear hz hc
          have hcd : dB.size ≤ 1 ∨ (1 < dB.size ∧ ((dB[0].toNat : Int) == 48) = false) := by
            rcases hcc with h | h
            · exact .inl h
            · by_cases h1 : 1 < dB.size
              · exact .inr ⟨h1, h⟩
              · exact .inl (by omega)
          clear hcc
          rcases hcd with hcd | ⟨hcd1, hcd2⟩
          all_goals
            go_wp2_with fail
            refine (HR3.out _).mono ?_; rintro e w2 ⟨rfl, rfl⟩
            go_wp2_with fail
            refine bodyPost_ret (v := .tuple #[.agg #[.int .i64 0, .int .i64 0], .int .i64 140]) (by simp [results, Tryd.results20, go_sem, *]) rfl ⟨rfl, ?_⟩
            go_grown
    · obtain ⟨j, rfl⟩ : ∃ j, k = j + 1 := ⟨k - 1, by omega⟩
      have hj : j < s.size := by omega
      have hst := HQs.out j hj
      rw [show ((j + 1 : Nat) : Int) - 1 = (j : Int) by omega]
      clear hk0
      by_cases hc : ((s[j].toNat : Int) == 46) = true
      · rw [if_pos hc] at hst
        have HST := Lib.hid hst
        clear hst
        go_wp2_with fail
        go_round
        case rel => exact ⟨j, by omega, rfl, by rw [HST.out], by rw [HST.out]; omega⟩
        case measure => simp [intOf]
      · rw [if_neg hc] at hst
        have hc2 : ((s[j].toNat : Int) == 46) = false := by simpa using hc
        have HST := Lib.hid hst
        clear hst hc
        go_wp2_with fail
        go_round
        case rel => exact ⟨j, by omega, rfl, by rw [HST.out], by rw [HST.out]; exact hq⟩
        case measure => simp [intOf]
set_option maxRecDepth 100000 in
set_option maxHeartbeats 2000000 in
theorem rparse_np_b_m (s hB : ByteArray) (p : Nat) (v e : Int) (w : World) (hs : s.size ≤ 2000) (hp : p ≤ s.size) (Q : Nat → Nat) (HQ0 : Hid (Q 0 = p)) (HQn : Hid (Q s.size = s.size)) (HQs : Hid (∀ (k : Nat) (h : k < s.size), Q k = if ((s[k].toNat : Int) == 46) = true then k else Q (k + 1)))
    (hx1 : s.extract 0 p = hB)
    (HR : Hid (∀ w, Calls Tryd.prog 43 #[.string hB] w fun e' w' => e' = .returned (.tuple #[.int .i64 v, .int .i64 e]) ∧ w = w'))
    (h1 : (e == 21) = false) (hh : 0 < hB.size) (hh2 : hB.size ≤ 2000) (hp2 : p = s.size) (bh : Nat) (hb0 : bh = 0) (hd : ((hB[0].toNat : Int) == 45) = true) (fB : ByteArray) (hx3 : hB.extract 1 hB.size = fB) (hf : 0 < fB.size) (hf2 : fB.size ≤ 2000) (z : List UInt8) (HZ : Hid (stripZ (fB).data.toList = z)) (n2 e2 : Int) (HR2 : Hid (∀ dB : ByteArray, dB.data.toList = z → ∀ w, Calls Tryd.prog 43 #[.string (⟨#[45]⟩ ++ dB)] w fun e' w' => e' = .returned (.tuple #[.int .i64 n2, .int .i64 e2]) ∧ w = w')) (h9 : e2 = 0) (rM rS : Int) (HM : Hid (∀ w, Calls Tryd.prog 45 #[.int .i64 n2, .int .i64 0] w fun e w' => e = .returned (.agg #[.int .i64 rM, .int .i64 rS]) ∧ Below w.heap.size w w')) :
    Calls Tryd.prog 20 #[.string s] w fun e w' => e = .returned (.tuple #[.agg #[.int .i64 rM, .int .i64 rS], .int .i64 0]) ∧ Below w.heap.size w w' := by
  have hp5 : (s.size : Int) ≤ p := by omega
  clear hp2
  subst hb0
  subst h9
  have hpi : (p : Int) ≤ s.size := by omega
  go_enter Tryd.func20, Tryd.ntmps20
  go_wp2_with fail
  go_loop [4, 5] (fun t i => ∃ k : Nat, k ≤ s.size ∧ i = .int .i64 ((k : Int) - 1) ∧ t = .int .i64 (Q k) ∧ Q k ≤ s.size) (fun t i => (intOf i + 1).toNat)
  case atStart => exact ⟨s.size, Nat.le_refl _, rfl, by rw [HQn.out], by rw [HQn.out]; exact Nat.le_refl _⟩
  case round =>
    obtain ⟨k, hk, rfl, rfl, hq⟩ := hrel
    by_cases hk0 : k = 0
    · subst hk0
      rw [HQ0.out]
      go_wp2_with fail
      refine (HR.out _).mono ?_; rintro e w1 ⟨rfl, rfl⟩
      go_wp2_with fail
      go_loop [8] (fun t => ∃ dB : ByteArray, t = .string dB ∧ 0 < dB.size ∧ dB.size ≤ 4000 ∧ Hid (stripZ dB.data.toList = z)) (fun t => match t with | .string b => b.size | _ => 0)
      case atStart => exact ⟨_, rfl, by omega, by omega, HZ⟩
      case round =>
        obtain ⟨dB, rfl, d0, d1, HS⟩ := hrel
        by_cases hc : 1 < dB.size ∧ ((dB[0].toNat : Int) == 48) = true
        · obtain ⟨hc1, hc2⟩ := hc
          have HS2 : Hid (stripZ (dB.extract 1 dB.size).data.toList = z) := Lib.hid (by
            rw [Lib.extract_to_end, ← stripZ_step _ (by rw [Array.length_toList]; exact hc1) ((head_at dB d0).2 hc2)]; exact HS.out)
          have hsz : (dB.extract 1 dB.size).size = dB.size - 1 := by rw [ByteArray.size_extract]; omega
          have HSZ := Lib.hid hsz
          clear hsz
          go_wp2_with fail
          go_round
          case rel => exact ⟨_, rfl, by rw [HSZ.out]; omega, by rw [HSZ.out]; omega, HS2⟩
          case measure => show (dB.extract 1 dB.size).size < dB.size; rw [HSZ.out]; omega
        · have hz : dB.data.toList = z := by
            rw [← HS.out]
            refine (stripZ_end _ ?_).symm
            by_cases h1 : 1 < dB.size
            · exact .inr fun q => hc ⟨h1, (head_at dB d0).1 q⟩
            · exact .inl (by rw [Array.length_toList]; exact Nat.le_of_not_lt h1)
          have HR3 := Lib.hid (fun w => HR2.out dB hz w)
          have hcc : dB.size ≤ 1 ∨ ((dB[0].toNat : Int) == 48) = false := by
            by_cases h1 : 1 < dB.size
            · right; cases q : ((dB[0].toNat : Int) == 48) with
              | false => rfl
              | true => exact absurd ⟨h1, q⟩ hc
            · left; omega
          clear hz hc
          have hcd : dB.size ≤ 1 ∨ (1 < dB.size ∧ ((dB[0].toNat : Int) == 48) = false) := by
            rcases hcc with h | h
            · exact .inl h
            · by_cases h1 : 1 < dB.size
              · exact .inr ⟨h1, h⟩
              · exact .inl (by omega)
          clear hcc
          rcases hcd with hcd | ⟨hcd1, hcd2⟩
          all_goals
            go_wp2_with fail
            refine (HR3.out _).mono ?_; rintro e w2 ⟨rfl, rfl⟩
            go_wp2_with fail
            refine (HM.out _).mono ?_; rintro e w3 ⟨rfl, hb3⟩
            obtain ⟨c0, c1, f0, f1, hz1, hbw⟩ := own2 hb3
            go_wp2_with fail
            refine bodyPost_ret (v := .tuple #[.agg #[.int .i64 rM, .int .i64 rS], .int .i64 0]) (by simp [results, Tryd.results20, go_sem, *]) rfl ⟨rfl, ?_⟩
            go_grown
    · obtain ⟨j, rfl⟩ : ∃ j, k = j + 1 := ⟨k - 1, by omega⟩
      have hj : j < s.size := by omega
      have hst := HQs.out j hj
      rw [show ((j + 1 : Nat) : Int) - 1 = (j : Int) by omega]
      clear hk0
      by_cases hc : ((s[j].toNat : Int) == 46) = true
      · rw [if_pos hc] at hst
        have HST := Lib.hid hst
        clear hst
        go_wp2_with fail
        go_round
        case rel => exact ⟨j, by omega, rfl, by rw [HST.out], by rw [HST.out]; omega⟩
        case measure => simp [intOf]
      · rw [if_neg hc] at hst
        have hc2 : ((s[j].toNat : Int) == 46) = false := by simpa using hc
        have HST := Lib.hid hst
        clear hst hc
        go_wp2_with fail
        go_round
        case rel => exact ⟨j, by omega, rfl, by rw [HST.out], by rw [HST.out]; exact hq⟩
        case measure => simp [intOf]
set_option maxRecDepth 100000 in
set_option maxHeartbeats 2000000 in
theorem rparse_np_b_o (s hB : ByteArray) (p : Nat) (v e : Int) (w : World) (hs : s.size ≤ 2000) (hp : p ≤ s.size) (Q : Nat → Nat) (HQ0 : Hid (Q 0 = p)) (HQn : Hid (Q s.size = s.size)) (HQs : Hid (∀ (k : Nat) (h : k < s.size), Q k = if ((s[k].toNat : Int) == 46) = true then k else Q (k + 1)))
    (hx1 : s.extract 0 p = hB)
    (HR : Hid (∀ w, Calls Tryd.prog 43 #[.string hB] w fun e' w' => e' = .returned (.tuple #[.int .i64 v, .int .i64 e]) ∧ w = w'))
    (h1 : (e == 21) = false) (hh : 0 < hB.size) (hh2 : hB.size ≤ 2000) (hp2 : p = s.size) (bh : Nat) (hb0 : bh = 0) (hd : ((hB[0].toNat : Int) == 45) = true) (fB : ByteArray) (hx3 : hB.extract 1 hB.size = fB) (hf : 0 < fB.size) (hf2 : fB.size ≤ 2000) (z : List UInt8) (HZ : Hid (stripZ (fB).data.toList = z)) (n2 e2 : Int) (HR2 : Hid (∀ dB : ByteArray, dB.data.toList = z → ∀ w, Calls Tryd.prog 43 #[.string (⟨#[45]⟩ ++ dB)] w fun e' w' => e' = .returned (.tuple #[.int .i64 n2, .int .i64 e2]) ∧ w = w')) (h9 : (e2 != 0) = true) :
    Calls Tryd.prog 20 #[.string s] w fun e w' => e = .returned (.tuple #[.agg #[.int .i64 0, .int .i64 0], .int .i64 140]) ∧ Below w.heap.size w w' := by
  have hp5 : (s.size : Int) ≤ p := by omega
  clear hp2
  subst hb0
  have hpi : (p : Int) ≤ s.size := by omega
  go_enter Tryd.func20, Tryd.ntmps20
  go_wp2_with fail
  go_loop [4, 5] (fun t i => ∃ k : Nat, k ≤ s.size ∧ i = .int .i64 ((k : Int) - 1) ∧ t = .int .i64 (Q k) ∧ Q k ≤ s.size) (fun t i => (intOf i + 1).toNat)
  case atStart => exact ⟨s.size, Nat.le_refl _, rfl, by rw [HQn.out], by rw [HQn.out]; exact Nat.le_refl _⟩
  case round =>
    obtain ⟨k, hk, rfl, rfl, hq⟩ := hrel
    by_cases hk0 : k = 0
    · subst hk0
      rw [HQ0.out]
      go_wp2_with fail
      refine (HR.out _).mono ?_; rintro e w1 ⟨rfl, rfl⟩
      go_wp2_with fail
      go_loop [8] (fun t => ∃ dB : ByteArray, t = .string dB ∧ 0 < dB.size ∧ dB.size ≤ 4000 ∧ Hid (stripZ dB.data.toList = z)) (fun t => match t with | .string b => b.size | _ => 0)
      case atStart => exact ⟨_, rfl, by omega, by omega, HZ⟩
      case round =>
        obtain ⟨dB, rfl, d0, d1, HS⟩ := hrel
        by_cases hc : 1 < dB.size ∧ ((dB[0].toNat : Int) == 48) = true
        · obtain ⟨hc1, hc2⟩ := hc
          have HS2 : Hid (stripZ (dB.extract 1 dB.size).data.toList = z) := Lib.hid (by
            rw [Lib.extract_to_end, ← stripZ_step _ (by rw [Array.length_toList]; exact hc1) ((head_at dB d0).2 hc2)]; exact HS.out)
          have hsz : (dB.extract 1 dB.size).size = dB.size - 1 := by rw [ByteArray.size_extract]; omega
          have HSZ := Lib.hid hsz
          clear hsz
          go_wp2_with fail
          go_round
          case rel => exact ⟨_, rfl, by rw [HSZ.out]; omega, by rw [HSZ.out]; omega, HS2⟩
          case measure => show (dB.extract 1 dB.size).size < dB.size; rw [HSZ.out]; omega
        · have hz : dB.data.toList = z := by
            rw [← HS.out]
            refine (stripZ_end _ ?_).symm
            by_cases h1 : 1 < dB.size
            · exact .inr fun q => hc ⟨h1, (head_at dB d0).1 q⟩
            · exact .inl (by rw [Array.length_toList]; exact Nat.le_of_not_lt h1)
          have HR3 := Lib.hid (fun w => HR2.out dB hz w)
          have hcc : dB.size ≤ 1 ∨ ((dB[0].toNat : Int) == 48) = false := by
            by_cases h1 : 1 < dB.size
            · right; cases q : ((dB[0].toNat : Int) == 48) with
              | false => rfl
              | true => exact absurd ⟨h1, q⟩ hc
            · left; omega
          clear hz hc
          have hcd : dB.size ≤ 1 ∨ (1 < dB.size ∧ ((dB[0].toNat : Int) == 48) = false) := by
            rcases hcc with h | h
            · exact .inl h
            · by_cases h1 : 1 < dB.size
              · exact .inr ⟨h1, h⟩
              · exact .inl (by omega)
          clear hcc
          rcases hcd with hcd | ⟨hcd1, hcd2⟩
          all_goals
            go_wp2_with fail
            refine (HR3.out _).mono ?_; rintro e w2 ⟨rfl, rfl⟩
            go_wp2_with fail
            refine bodyPost_ret (v := .tuple #[.agg #[.int .i64 0, .int .i64 0], .int .i64 140]) (by simp [results, Tryd.results20, go_sem, *]) rfl ⟨rfl, ?_⟩
            go_grown
    · obtain ⟨j, rfl⟩ : ∃ j, k = j + 1 := ⟨k - 1, by omega⟩
      have hj : j < s.size := by omega
      have hst := HQs.out j hj
      rw [show ((j + 1 : Nat) : Int) - 1 = (j : Int) by omega]
      clear hk0
      by_cases hc : ((s[j].toNat : Int) == 46) = true
      · rw [if_pos hc] at hst
        have HST := Lib.hid hst
        clear hst
        go_wp2_with fail
        go_round
        case rel => exact ⟨j, by omega, rfl, by rw [HST.out], by rw [HST.out]; omega⟩
        case measure => simp [intOf]
      · rw [if_neg hc] at hst
        have hc2 : ((s[j].toNat : Int) == 46) = false := by simpa using hc
        have HST := Lib.hid hst
        clear hst hc
        go_wp2_with fail
        go_round
        case rel => exact ⟨j, by omega, rfl, by rw [HST.out], by rw [HST.out]; exact hq⟩
        case measure => simp [intOf]
set_option maxRecDepth 100000 in
set_option maxHeartbeats 2000000 in
theorem rparse_pt_a_m (s hB : ByteArray) (p : Nat) (v e : Int) (w : World) (hs : s.size ≤ 2000) (hp : p ≤ s.size) (Q : Nat → Nat) (HQ0 : Hid (Q 0 = p)) (HQn : Hid (Q s.size = s.size)) (HQs : Hid (∀ (k : Nat) (h : k < s.size), Q k = if ((s[k].toNat : Int) == 46) = true then k else Q (k + 1)))
    (hx1 : s.extract 0 p = hB)
    (HR : Hid (∀ w, Calls Tryd.prog 43 #[.string hB] w fun e' w' => e' = .returned (.tuple #[.int .i64 v, .int .i64 e]) ∧ w = w'))
    (h1 : (e == 21) = false) (hh : 0 < hB.size) (hh2 : hB.size ≤ 2000) (bB : ByteArray) (dg : Bool) (hx2 : s.extract (p + 1) s.size = bB) (hp2 : p < s.size) (bh : Nat) (hbh : (s.size : Int) - p - 1 = bh) (HD : Hid (∀ w, Calls Tryd.prog 44 #[.string bB] w fun e w' => e = .returned (.bool dg) ∧ w = w')) (h2 : dg = true) (h3 : bh ≤ 18) (hb2 : bB.size ≤ 2000) (hd : ((hB[0].toNat : Int) == 45) = false) (z : List UInt8) (HZ : Hid (stripZ (hB ++ bB).data.toList = z)) (n2 e2 : Int) (HR2 : Hid (∀ dB : ByteArray, dB.data.toList = z → ∀ w, Calls Tryd.prog 43 #[.string (dB)] w fun e' w' => e' = .returned (.tuple #[.int .i64 n2, .int .i64 e2]) ∧ w = w')) (h9 : e2 = 0) (rM rS : Int) (HM : Hid (∀ w, Calls Tryd.prog 45 #[.int .i64 n2, .int .i64 bh] w fun e w' => e = .returned (.agg #[.int .i64 rM, .int .i64 rS]) ∧ Below w.heap.size w w')) :
    Calls Tryd.prog 20 #[.string s] w fun e w' => e = .returned (.tuple #[.agg #[.int .i64 rM, .int .i64 rS], .int .i64 0]) ∧ Below w.heap.size w w' := by
  have hp3 : (p : Int) + 1 ≤ s.size := by omega
  have hp4 : (p : Int) < s.size := by omega
  subst h2
  subst h9
  have hpi : (p : Int) ≤ s.size := by omega
  go_enter Tryd.func20, Tryd.ntmps20
  go_wp2_with fail
  go_loop [4, 5] (fun t i => ∃ k : Nat, k ≤ s.size ∧ i = .int .i64 ((k : Int) - 1) ∧ t = .int .i64 (Q k) ∧ Q k ≤ s.size) (fun t i => (intOf i + 1).toNat)
  case atStart => exact ⟨s.size, Nat.le_refl _, rfl, by rw [HQn.out], by rw [HQn.out]; exact Nat.le_refl _⟩
  case round =>
    obtain ⟨k, hk, rfl, rfl, hq⟩ := hrel
    by_cases hk0 : k = 0
    · subst hk0
      rw [HQ0.out]
      go_wp2_with fail
      refine (HR.out _).mono ?_; rintro e w1 ⟨rfl, rfl⟩
      go_wp2_with fail
      refine (HD.out _).mono ?_; rintro e w1 ⟨rfl, rfl⟩
      go_wp2_with fail
      go_loop [8] (fun t => ∃ dB : ByteArray, t = .string dB ∧ 0 < dB.size ∧ dB.size ≤ 4000 ∧ Hid (stripZ dB.data.toList = z)) (fun t => match t with | .string b => b.size | _ => 0)
      case atStart => exact ⟨_, rfl, by rw [ByteArray.size_append]; omega, by rw [ByteArray.size_append]; omega, HZ⟩
      case round =>
        obtain ⟨dB, rfl, d0, d1, HS⟩ := hrel
        by_cases hc : 1 < dB.size ∧ ((dB[0].toNat : Int) == 48) = true
        · obtain ⟨hc1, hc2⟩ := hc
          have HS2 : Hid (stripZ (dB.extract 1 dB.size).data.toList = z) := Lib.hid (by
            rw [Lib.extract_to_end, ← stripZ_step _ (by rw [Array.length_toList]; exact hc1) ((head_at dB d0).2 hc2)]; exact HS.out)
          have hsz : (dB.extract 1 dB.size).size = dB.size - 1 := by rw [ByteArray.size_extract]; omega
          have HSZ := Lib.hid hsz
          clear hsz
          go_wp2_with fail
          go_round
          case rel => exact ⟨_, rfl, by rw [HSZ.out]; omega, by rw [HSZ.out]; omega, HS2⟩
          case measure => show (dB.extract 1 dB.size).size < dB.size; rw [HSZ.out]; omega
        · have hz : dB.data.toList = z := by
            rw [← HS.out]
            refine (stripZ_end _ ?_).symm
            by_cases h1 : 1 < dB.size
            · exact .inr fun q => hc ⟨h1, (head_at dB d0).1 q⟩
            · exact .inl (by rw [Array.length_toList]; exact Nat.le_of_not_lt h1)
          have HR3 := Lib.hid (fun w => HR2.out dB hz w)
          have hcc : dB.size ≤ 1 ∨ ((dB[0].toNat : Int) == 48) = false := by
            by_cases h1 : 1 < dB.size
            · right; cases q : ((dB[0].toNat : Int) == 48) with
              | false => rfl
              | true => exact absurd ⟨h1, q⟩ hc
            · left; omega
          clear hz hc
          have hcd : dB.size ≤ 1 ∨ (1 < dB.size ∧ ((dB[0].toNat : Int) == 48) = false) := by
            rcases hcc with h | h
            · exact .inl h
            · by_cases h1 : 1 < dB.size
              · exact .inr ⟨h1, h⟩
              · exact .inl (by omega)
          clear hcc
          rcases hcd with hcd | ⟨hcd1, hcd2⟩
          all_goals
            go_wp2_with fail
            refine (HR3.out _).mono ?_; rintro e w2 ⟨rfl, rfl⟩
            go_wp2_with fail
            refine (HM.out _).mono ?_; rintro e w3 ⟨rfl, hb3⟩
            obtain ⟨c0, c1, f0, f1, hz1, hbw⟩ := own2 hb3
            go_wp2_with fail
            refine bodyPost_ret (v := .tuple #[.agg #[.int .i64 rM, .int .i64 rS], .int .i64 0]) (by simp [results, Tryd.results20, go_sem, *]) rfl ⟨rfl, ?_⟩
            go_grown
    · obtain ⟨j, rfl⟩ : ∃ j, k = j + 1 := ⟨k - 1, by omega⟩
      have hj : j < s.size := by omega
      have hst := HQs.out j hj
      rw [show ((j + 1 : Nat) : Int) - 1 = (j : Int) by omega]
      clear hk0
      by_cases hc : ((s[j].toNat : Int) == 46) = true
      · rw [if_pos hc] at hst
        have HST := Lib.hid hst
        clear hst
        go_wp2_with fail
        go_round
        case rel => exact ⟨j, by omega, rfl, by rw [HST.out], by rw [HST.out]; omega⟩
        case measure => simp [intOf]
      · rw [if_neg hc] at hst
        have hc2 : ((s[j].toNat : Int) == 46) = false := by simpa using hc
        have HST := Lib.hid hst
        clear hst hc
        go_wp2_with fail
        go_round
        case rel => exact ⟨j, by omega, rfl, by rw [HST.out], by rw [HST.out]; exact hq⟩
        case measure => simp [intOf]
set_option maxRecDepth 100000 in
set_option maxHeartbeats 2000000 in
theorem rparse_pt_a_o (s hB : ByteArray) (p : Nat) (v e : Int) (w : World) (hs : s.size ≤ 2000) (hp : p ≤ s.size) (Q : Nat → Nat) (HQ0 : Hid (Q 0 = p)) (HQn : Hid (Q s.size = s.size)) (HQs : Hid (∀ (k : Nat) (h : k < s.size), Q k = if ((s[k].toNat : Int) == 46) = true then k else Q (k + 1)))
    (hx1 : s.extract 0 p = hB)
    (HR : Hid (∀ w, Calls Tryd.prog 43 #[.string hB] w fun e' w' => e' = .returned (.tuple #[.int .i64 v, .int .i64 e]) ∧ w = w'))
    (h1 : (e == 21) = false) (hh : 0 < hB.size) (hh2 : hB.size ≤ 2000) (bB : ByteArray) (dg : Bool) (hx2 : s.extract (p + 1) s.size = bB) (hp2 : p < s.size) (bh : Nat) (hbh : (s.size : Int) - p - 1 = bh) (HD : Hid (∀ w, Calls Tryd.prog 44 #[.string bB] w fun e w' => e = .returned (.bool dg) ∧ w = w')) (h2 : dg = true) (h3 : bh ≤ 18) (hb2 : bB.size ≤ 2000) (hd : ((hB[0].toNat : Int) == 45) = false) (z : List UInt8) (HZ : Hid (stripZ (hB ++ bB).data.toList = z)) (n2 e2 : Int) (HR2 : Hid (∀ dB : ByteArray, dB.data.toList = z → ∀ w, Calls Tryd.prog 43 #[.string (dB)] w fun e' w' => e' = .returned (.tuple #[.int .i64 n2, .int .i64 e2]) ∧ w = w')) (h9 : (e2 != 0) = true) :
    Calls Tryd.prog 20 #[.string s] w fun e w' => e = .returned (.tuple #[.agg #[.int .i64 0, .int .i64 0], .int .i64 140]) ∧ Below w.heap.size w w' := by
  have hp3 : (p : Int) + 1 ≤ s.size := by omega
  have hp4 : (p : Int) < s.size := by omega
  subst h2
  have hpi : (p : Int) ≤ s.size := by omega
  go_enter Tryd.func20, Tryd.ntmps20
  go_wp2_with fail
  go_loop [4, 5] (fun t i => ∃ k : Nat, k ≤ s.size ∧ i = .int .i64 ((k : Int) - 1) ∧ t = .int .i64 (Q k) ∧ Q k ≤ s.size) (fun t i => (intOf i + 1).toNat)
  case atStart => exact ⟨s.size, Nat.le_refl _, rfl, by rw [HQn.out], by rw [HQn.out]; exact Nat.le_refl _⟩
  case round =>
    obtain ⟨k, hk, rfl, rfl, hq⟩ := hrel
    by_cases hk0 : k = 0
    · subst hk0
      rw [HQ0.out]
      go_wp2_with fail
      refine (HR.out _).mono ?_; rintro e w1 ⟨rfl, rfl⟩
      go_wp2_with fail
      refine (HD.out _).mono ?_; rintro e w1 ⟨rfl, rfl⟩
      go_wp2_with fail
      go_loop [8] (fun t => ∃ dB : ByteArray, t = .string dB ∧ 0 < dB.size ∧ dB.size ≤ 4000 ∧ Hid (stripZ dB.data.toList = z)) (fun t => match t with | .string b => b.size | _ => 0)
      case atStart => exact ⟨_, rfl, by rw [ByteArray.size_append]; omega, by rw [ByteArray.size_append]; omega, HZ⟩
      case round =>
        obtain ⟨dB, rfl, d0, d1, HS⟩ := hrel
        by_cases hc : 1 < dB.size ∧ ((dB[0].toNat : Int) == 48) = true
        · obtain ⟨hc1, hc2⟩ := hc
          have HS2 : Hid (stripZ (dB.extract 1 dB.size).data.toList = z) := Lib.hid (by
            rw [Lib.extract_to_end, ← stripZ_step _ (by rw [Array.length_toList]; exact hc1) ((head_at dB d0).2 hc2)]; exact HS.out)
          have hsz : (dB.extract 1 dB.size).size = dB.size - 1 := by rw [ByteArray.size_extract]; omega
          have HSZ := Lib.hid hsz
          clear hsz
          go_wp2_with fail
          go_round
          case rel => exact ⟨_, rfl, by rw [HSZ.out]; omega, by rw [HSZ.out]; omega, HS2⟩
          case measure => show (dB.extract 1 dB.size).size < dB.size; rw [HSZ.out]; omega
        · have hz : dB.data.toList = z := by
            rw [← HS.out]
            refine (stripZ_end _ ?_).symm
            by_cases h1 : 1 < dB.size
            · exact .inr fun q => hc ⟨h1, (head_at dB d0).1 q⟩
            · exact .inl (by rw [Array.length_toList]; exact Nat.le_of_not_lt h1)
          have HR3 := Lib.hid (fun w => HR2.out dB hz w)
          have hcc : dB.size ≤ 1 ∨ ((dB[0].toNat : Int) == 48) = false := by
            by_cases h1 : 1 < dB.size
            · right; cases q : ((dB[0].toNat : Int) == 48) with
              | false => rfl
              | true => exact absurd ⟨h1, q⟩ hc
            · left; omega
          clear hz hc
          have hcd : dB.size ≤ 1 ∨ (1 < dB.size ∧ ((dB[0].toNat : Int) == 48) = false) := by
            rcases hcc with h | h
            · exact .inl h
            · by_cases h1 : 1 < dB.size
              · exact .inr ⟨h1, h⟩
              · exact .inl (by omega)
          clear hcc
          rcases hcd with hcd | ⟨hcd1, hcd2⟩
          all_goals
            go_wp2_with fail
            refine (HR3.out _).mono ?_; rintro e w2 ⟨rfl, rfl⟩
            go_wp2_with fail
            refine bodyPost_ret (v := .tuple #[.agg #[.int .i64 0, .int .i64 0], .int .i64 140]) (by simp [results, Tryd.results20, go_sem, *]) rfl ⟨rfl, ?_⟩
            go_grown
    · obtain ⟨j, rfl⟩ : ∃ j, k = j + 1 := ⟨k - 1, by omega⟩
      have hj : j < s.size := by omega
      have hst := HQs.out j hj
      rw [show ((j + 1 : Nat) : Int) - 1 = (j : Int) by omega]
      clear hk0
      by_cases hc : ((s[j].toNat : Int) == 46) = true
      · rw [if_pos hc] at hst
        have HST := Lib.hid hst
        clear hst
        go_wp2_with fail
        go_round
        case rel => exact ⟨j, by omega, rfl, by rw [HST.out], by rw [HST.out]; omega⟩
        case measure => simp [intOf]
      · rw [if_neg hc] at hst
        have hc2 : ((s[j].toNat : Int) == 46) = false := by simpa using hc
        have HST := Lib.hid hst
        clear hst hc
        go_wp2_with fail
        go_round
        case rel => exact ⟨j, by omega, rfl, by rw [HST.out], by rw [HST.out]; exact hq⟩
        case measure => simp [intOf]
set_option maxRecDepth 100000 in
set_option maxHeartbeats 2000000 in
theorem rparse_pt_b_m (s hB : ByteArray) (p : Nat) (v e : Int) (w : World) (hs : s.size ≤ 2000) (hp : p ≤ s.size) (Q : Nat → Nat) (HQ0 : Hid (Q 0 = p)) (HQn : Hid (Q s.size = s.size)) (HQs : Hid (∀ (k : Nat) (h : k < s.size), Q k = if ((s[k].toNat : Int) == 46) = true then k else Q (k + 1)))
    (hx1 : s.extract 0 p = hB)
    (HR : Hid (∀ w, Calls Tryd.prog 43 #[.string hB] w fun e' w' => e' = .returned (.tuple #[.int .i64 v, .int .i64 e]) ∧ w = w'))
    (h1 : (e == 21) = false) (hh : 0 < hB.size) (hh2 : hB.size ≤ 2000) (bB : ByteArray) (dg : Bool) (hx2 : s.extract (p + 1) s.size = bB) (hp2 : p < s.size) (bh : Nat) (hbh : (s.size : Int) - p - 1 = bh) (HD : Hid (∀ w, Calls Tryd.prog 44 #[.string bB] w fun e w' => e = .returned (.bool dg) ∧ w = w')) (h2 : dg = true) (h3 : bh ≤ 18) (hb2 : bB.size ≤ 2000) (hd : ((hB[0].toNat : Int) == 45) = true) (fB : ByteArray) (hx3 : hB.extract 1 hB.size = fB) (hf : 0 < fB.size) (hf2 : fB.size ≤ 2000) (z : List UInt8) (HZ : Hid (stripZ (fB ++ bB).data.toList = z)) (n2 e2 : Int) (HR2 : Hid (∀ dB : ByteArray, dB.data.toList = z → ∀ w, Calls Tryd.prog 43 #[.string (⟨#[45]⟩ ++ dB)] w fun e' w' => e' = .returned (.tuple #[.int .i64 n2, .int .i64 e2]) ∧ w = w')) (h9 : e2 = 0) (rM rS : Int) (HM : Hid (∀ w, Calls Tryd.prog 45 #[.int .i64 n2, .int .i64 bh] w fun e w' => e = .returned (.agg #[.int .i64 rM, .int .i64 rS]) ∧ Below w.heap.size w w')) :
    Calls Tryd.prog 20 #[.string s] w fun e w' => e = .returned (.tuple #[.agg #[.int .i64 rM, .int .i64 rS], .int .i64 0]) ∧ Below w.heap.size w w' := by
  have hp3 : (p : Int) + 1 ≤ s.size := by omega
  have hp4 : (p : Int) < s.size := by omega
  subst h2
  subst h9
  have hpi : (p : Int) ≤ s.size := by omega
  go_enter Tryd.func20, Tryd.ntmps20
  go_wp2_with fail
  go_loop [4, 5] (fun t i => ∃ k : Nat, k ≤ s.size ∧ i = .int .i64 ((k : Int) - 1) ∧ t = .int .i64 (Q k) ∧ Q k ≤ s.size) (fun t i => (intOf i + 1).toNat)
  case atStart => exact ⟨s.size, Nat.le_refl _, rfl, by rw [HQn.out], by rw [HQn.out]; exact Nat.le_refl _⟩
  case round =>
    obtain ⟨k, hk, rfl, rfl, hq⟩ := hrel
    by_cases hk0 : k = 0
    · subst hk0
      rw [HQ0.out]
      go_wp2_with fail
      refine (HR.out _).mono ?_; rintro e w1 ⟨rfl, rfl⟩
      go_wp2_with fail
      refine (HD.out _).mono ?_; rintro e w1 ⟨rfl, rfl⟩
      go_wp2_with fail
      go_loop [8] (fun t => ∃ dB : ByteArray, t = .string dB ∧ 0 < dB.size ∧ dB.size ≤ 4000 ∧ Hid (stripZ dB.data.toList = z)) (fun t => match t with | .string b => b.size | _ => 0)
      case atStart => exact ⟨_, rfl, by rw [ByteArray.size_append]; omega, by rw [ByteArray.size_append]; omega, HZ⟩
      case round =>
        obtain ⟨dB, rfl, d0, d1, HS⟩ := hrel
        by_cases hc : 1 < dB.size ∧ ((dB[0].toNat : Int) == 48) = true
        · obtain ⟨hc1, hc2⟩ := hc
          have HS2 : Hid (stripZ (dB.extract 1 dB.size).data.toList = z) := Lib.hid (by
            rw [Lib.extract_to_end, ← stripZ_step _ (by rw [Array.length_toList]; exact hc1) ((head_at dB d0).2 hc2)]; exact HS.out)
          have hsz : (dB.extract 1 dB.size).size = dB.size - 1 := by rw [ByteArray.size_extract]; omega
          have HSZ := Lib.hid hsz
          clear hsz
          go_wp2_with fail
          go_round
          case rel => exact ⟨_, rfl, by rw [HSZ.out]; omega, by rw [HSZ.out]; omega, HS2⟩
          case measure => show (dB.extract 1 dB.size).size < dB.size; rw [HSZ.out]; omega
        · have hz : dB.data.toList = z := by
            rw [← HS.out]
            refine (stripZ_end _ ?_).symm
            by_cases h1 : 1 < dB.size
            · exact .inr fun q => hc ⟨h1, (head_at dB d0).1 q⟩
            · exact .inl (by rw [Array.length_toList]; exact Nat.le_of_not_lt h1)
          have HR3 := Lib.hid (fun w => HR2.out dB hz w)
          have hcc : dB.size ≤ 1 ∨ ((dB[0].toNat : Int) == 48) = false := by
            by_cases h1 : 1 < dB.size
            · right; cases q : ((dB[0].toNat : Int) == 48) with
              | false => rfl
              | true => exact absurd ⟨h1, q⟩ hc
            · left; omega
          clear hz hc
          have hcd : dB.size ≤ 1 ∨ (1 < dB.size ∧ ((dB[0].toNat : Int) == 48) = false) := by
            rcases hcc with h | h
            · exact .inl h
            · by_cases h1 : 1 < dB.size
              · exact .inr ⟨h1, h⟩
              · exact .inl (by omega)
          clear hcc
          rcases hcd with hcd | ⟨hcd1, hcd2⟩
          all_goals
            go_wp2_with fail
            refine (HR3.out _).mono ?_; rintro e w2 ⟨rfl, rfl⟩
            go_wp2_with fail
            refine (HM.out _).mono ?_; rintro e w3 ⟨rfl, hb3⟩
            obtain ⟨c0, c1, f0, f1, hz1, hbw⟩ := own2 hb3
            go_wp2_with fail
            refine bodyPost_ret (v := .tuple #[.agg #[.int .i64 rM, .int .i64 rS], .int .i64 0]) (by simp [results, Tryd.results20, go_sem, *]) rfl ⟨rfl, ?_⟩
            go_grown
    · obtain ⟨j, rfl⟩ : ∃ j, k = j + 1 := ⟨k - 1, by omega⟩
      have hj : j < s.size := by omega
      have hst := HQs.out j hj
      rw [show ((j + 1 : Nat) : Int) - 1 = (j : Int) by omega]
      clear hk0
      by_cases hc : ((s[j].toNat : Int) == 46) = true
      · rw [if_pos hc] at hst
        have HST := Lib.hid hst
        clear hst
        go_wp2_with fail
        go_round
        case rel => exact ⟨j, by omega, rfl, by rw [HST.out], by rw [HST.out]; omega⟩
        case measure => simp [intOf]
      · rw [if_neg hc] at hst
        have hc2 : ((s[j].toNat : Int) == 46) = false := by simpa using hc
        have HST := Lib.hid hst
        clear hst hc
        go_wp2_with fail
        go_round
        case rel => exact ⟨j, by omega, rfl, by rw [HST.out], by rw [HST.out]; exact hq⟩
        case measure => simp [intOf]
set_option maxRecDepth 100000 in
set_option maxHeartbeats 2000000 in
theorem rparse_pt_b_o (s hB : ByteArray) (p : Nat) (v e : Int) (w : World) (hs : s.size ≤ 2000) (hp : p ≤ s.size) (Q : Nat → Nat) (HQ0 : Hid (Q 0 = p)) (HQn : Hid (Q s.size = s.size)) (HQs : Hid (∀ (k : Nat) (h : k < s.size), Q k = if ((s[k].toNat : Int) == 46) = true then k else Q (k + 1)))
    (hx1 : s.extract 0 p = hB)
    (HR : Hid (∀ w, Calls Tryd.prog 43 #[.string hB] w fun e' w' => e' = .returned (.tuple #[.int .i64 v, .int .i64 e]) ∧ w = w'))
    (h1 : (e == 21) = false) (hh : 0 < hB.size) (hh2 : hB.size ≤ 2000) (bB : ByteArray) (dg : Bool) (hx2 : s.extract (p + 1) s.size = bB) (hp2 : p < s.size) (bh : Nat) (hbh : (s.size : Int) - p - 1 = bh) (HD : Hid (∀ w, Calls Tryd.prog 44 #[.string bB] w fun e w' => e = .returned (.bool dg) ∧ w = w')) (h2 : dg = true) (h3 : bh ≤ 18) (hb2 : bB.size ≤ 2000) (hd : ((hB[0].toNat : Int) == 45) = true) (fB : ByteArray) (hx3 : hB.extract 1 hB.size = fB) (hf : 0 < fB.size) (hf2 : fB.size ≤ 2000) (z : List UInt8) (HZ : Hid (stripZ (fB ++ bB).data.toList = z)) (n2 e2 : Int) (HR2 : Hid (∀ dB : ByteArray, dB.data.toList = z → ∀ w, Calls Tryd.prog 43 #[.string (⟨#[45]⟩ ++ dB)] w fun e' w' => e' = .returned (.tuple #[.int .i64 n2, .int .i64 e2]) ∧ w = w')) (h9 : (e2 != 0) = true) :
    Calls Tryd.prog 20 #[.string s] w fun e w' => e = .returned (.tuple #[.agg #[.int .i64 0, .int .i64 0], .int .i64 140]) ∧ Below w.heap.size w w' := by
  have hp3 : (p : Int) + 1 ≤ s.size := by omega
  have hp4 : (p : Int) < s.size := by omega
  subst h2
  have hpi : (p : Int) ≤ s.size := by omega
  go_enter Tryd.func20, Tryd.ntmps20
  go_wp2_with fail
  go_loop [4, 5] (fun t i => ∃ k : Nat, k ≤ s.size ∧ i = .int .i64 ((k : Int) - 1) ∧ t = .int .i64 (Q k) ∧ Q k ≤ s.size) (fun t i => (intOf i + 1).toNat)
  case atStart => exact ⟨s.size, Nat.le_refl _, rfl, by rw [HQn.out], by rw [HQn.out]; exact Nat.le_refl _⟩
  case round =>
    obtain ⟨k, hk, rfl, rfl, hq⟩ := hrel
    by_cases hk0 : k = 0
    · subst hk0
      rw [HQ0.out]
      go_wp2_with fail
      refine (HR.out _).mono ?_; rintro e w1 ⟨rfl, rfl⟩
      go_wp2_with fail
      refine (HD.out _).mono ?_; rintro e w1 ⟨rfl, rfl⟩
      go_wp2_with fail
      go_loop [8] (fun t => ∃ dB : ByteArray, t = .string dB ∧ 0 < dB.size ∧ dB.size ≤ 4000 ∧ Hid (stripZ dB.data.toList = z)) (fun t => match t with | .string b => b.size | _ => 0)
      case atStart => exact ⟨_, rfl, by rw [ByteArray.size_append]; omega, by rw [ByteArray.size_append]; omega, HZ⟩
      case round =>
        obtain ⟨dB, rfl, d0, d1, HS⟩ := hrel
        by_cases hc : 1 < dB.size ∧ ((dB[0].toNat : Int) == 48) = true
        · obtain ⟨hc1, hc2⟩ := hc
          have HS2 : Hid (stripZ (dB.extract 1 dB.size).data.toList = z) := Lib.hid (by
            rw [Lib.extract_to_end, ← stripZ_step _ (by rw [Array.length_toList]; exact hc1) ((head_at dB d0).2 hc2)]; exact HS.out)
          have hsz : (dB.extract 1 dB.size).size = dB.size - 1 := by rw [ByteArray.size_extract]; omega
          have HSZ := Lib.hid hsz
          clear hsz
          go_wp2_with fail
          go_round
          case rel => exact ⟨_, rfl, by rw [HSZ.out]; omega, by rw [HSZ.out]; omega, HS2⟩
          case measure => show (dB.extract 1 dB.size).size < dB.size; rw [HSZ.out]; omega
        · have hz : dB.data.toList = z := by
            rw [← HS.out]
            refine (stripZ_end _ ?_).symm
            by_cases h1 : 1 < dB.size
            · exact .inr fun q => hc ⟨h1, (head_at dB d0).1 q⟩
            · exact .inl (by rw [Array.length_toList]; exact Nat.le_of_not_lt h1)
          have HR3 := Lib.hid (fun w => HR2.out dB hz w)
          have hcc : dB.size ≤ 1 ∨ ((dB[0].toNat : Int) == 48) = false := by
            by_cases h1 : 1 < dB.size
            · right; cases q : ((dB[0].toNat : Int) == 48) with
              | false => rfl
              | true => exact absurd ⟨h1, q⟩ hc
            · left; omega
          clear hz hc
          have hcd : dB.size ≤ 1 ∨ (1 < dB.size ∧ ((dB[0].toNat : Int) == 48) = false) := by
            rcases hcc with h | h
            · exact .inl h
            · by_cases h1 : 1 < dB.size
              · exact .inr ⟨h1, h⟩
              · exact .inl (by omega)
          clear hcc
          rcases hcd with hcd | ⟨hcd1, hcd2⟩
          all_goals
            go_wp2_with fail
            refine (HR3.out _).mono ?_; rintro e w2 ⟨rfl, rfl⟩
            go_wp2_with fail
            refine bodyPost_ret (v := .tuple #[.agg #[.int .i64 0, .int .i64 0], .int .i64 140]) (by simp [results, Tryd.results20, go_sem, *]) rfl ⟨rfl, ?_⟩
            go_grown
    · obtain ⟨j, rfl⟩ : ∃ j, k = j + 1 := ⟨k - 1, by omega⟩
      have hj : j < s.size := by omega
      have hst := HQs.out j hj
      rw [show ((j + 1 : Nat) : Int) - 1 = (j : Int) by omega]
      clear hk0
      by_cases hc : ((s[j].toNat : Int) == 46) = true
      · rw [if_pos hc] at hst
        have HST := Lib.hid hst
        clear hst
        go_wp2_with fail
        go_round
        case rel => exact ⟨j, by omega, rfl, by rw [HST.out], by rw [HST.out]; omega⟩
        case measure => simp [intOf]
      · rw [if_neg hc] at hst
        have hc2 : ((s[j].toNat : Int) == 46) = false := by simpa using hc
        have HST := Lib.hid hst
        clear hst hc
        go_wp2_with fail
        go_round
        case rel => exact ⟨j, by omega, rfl, by rw [HST.out], by rw [HST.out]; exact hq⟩
        case measure => simp [intOf]
end Go.Proofs.YtfhgcpmadajbdaaDoor
