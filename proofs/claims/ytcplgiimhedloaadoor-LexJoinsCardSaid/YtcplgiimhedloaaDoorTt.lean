/- Tokens in a row; the walk through the reference's Great (provostref17). -/
import Derived.Test.YtcplgiimhedloaaDoorLf
import Derived.Test.YtcplgiimhedloaaDoorTk
set_option linter.unusedSimpArgs false
set_option linter.unusedVariables false
namespace Go.Proofs.YtcplgiimhedloaaDoor
open Go.RowKit
def sumG (L : List Tok) : Nat := (L.map fun t => min t.text.length 10000).sum
def greatB (L : List Tok) : Bool := decide (200 < L.length) || decide (3000 < sumG (L.take 300))
theorem sumG_snoc (L : List Tok) (k : Nat) (h : k < L.length) : sumG (L.take (k + 1)) = sumG (L.take k) + min L[k].text.length 10000 := by
  unfold sumG
  rw [List.take_succ_eq_append_getElem h, List.map_append, List.sum_append]
  simp
theorem sumG_le (L : List Tok) (k : Nat) : sumG (L.take k) ≤ 10000 * k := by
  unfold sumG
  induction k generalizing L with
  | zero => simp
  | succ k ih =>
    cases L with
    | nil => simp
    | cons t L =>
      have := ih L
      simp only [List.take_succ_cons, List.map_cons, List.sum_cons]
      omega
set_option maxRecDepth 100000 in
set_option maxHeartbeats 1000000 in
theorem great_any (L : List Tok) (b off cap : Nat) (hl : L.length ≤ 9223372036854775807) (w : World) (hr : TokRow b off L w) (hsz : ∀ t ∈ L, t.text.length ≤ 9223372036854775807) :
    Calls Tryd.prog 4 #[.slice (some ⟨b, off, none⟩) L.length cap] w fun e w' => e = .returned (.bool (greatB L)) ∧ w = w' := by
  have HT := Lib.hid hr
  have HZ := Lib.hid hsz
  clear hr hsz
  obtain ⟨r, hr⟩ : ∃ r, greatB L = r := ⟨_, rfl⟩
  have HR := Lib.hid hr
  rw [hr]
  clear hr
  go_enter Tryd.func4, Tryd.ntmps4
  go_wp2_with fail
  go_loop [3, 4] (fun n i => ∃ k m : Nat, k ≤ L.length ∧ k ≤ 300 ∧ i = .int .i64 k ∧ n = .int .i64 m ∧ m ≤ 10000 * k ∧ Hid (sumG (L.take k) = m)) (fun n i => L.length - (intOf i).toNat)
  case atStart => exact ⟨0, 0, Nat.zero_le _, Nat.zero_le _, rfl, rfl, by omega, Lib.hid rfl⟩
  case round =>
    obtain ⟨k, m, hk, hk3, rfl, rfl, hm, HM⟩ := hrel
    have stop : (k = L.length ∨ k = 300) → sumG (L.take 300) = m := by
      intro h
      rw [← HM.out]
      rcases h with h | h
      · rw [List.take_of_length_le (by omega), h, List.take_length]
      · rw [h]
    by_cases hlt : k < L.length
    · by_cases h3 : k < 300
      · obtain ⟨_, c1, _⟩ := HT.out k hlt
        have hs := HZ.out L[k] (List.getElem_mem _)
        have HM2 : Hid (sumG (L.take (k + 1)) = m + min L[k].text.length 10000) := Lib.hid (by rw [sumG_snoc L k hlt, HM.out])
        have hbs : (⟨L[k].text.toArray⟩ : ByteArray).size = L[k].text.length := by rw [← len_z]
        have HB := Lib.hid hbs
        clear hbs stop
        obtain ⟨x, hx⟩ : ∃ x : ByteArray, (⟨L[k].text.toArray⟩ : ByteArray) = x := ⟨_, rfl⟩
        rw [hx] at c1 HB
        have hxs : x.size ≤ 9223372036854775807 := by rw [HB.out]; exact hs
        rw [← HB.out] at HM2
        clear hx hs HB
        go_wp2_with fail
        all_goals
          go_round
          case rel => exact ⟨k + 1, m + min x.size 10000, by omega, by omega, by go_num, by first | go_num | (congr 1; omega), by omega, HM2⟩
          case measure => simp [intOf]; omega
      · have hs := stop (Or.inr (by omega))
        have HF : Hid ((decide (200 < L.length) || decide (3000 < m)) = r) := Lib.hid (by rw [← HR.out, ← hs]; rfl)
        clear stop hs
        have h4 : ¬ (k : Int) < 300 := by omega
        go_wp2_with fail
        all_goals
          go_ret
          refine ⟨ret_b (Eq.trans ?_ HF.out), rfl⟩
          rw [Bool.eq_iff_iff]
          simp only [Bool.or_eq_true, decide_eq_true_eq, true_iff]
          omega
    · have hs := stop (Or.inl (by omega))
      have HF : Hid ((decide (200 < L.length) || decide (3000 < m)) = r) := Lib.hid (by rw [← HR.out, ← hs]; rfl)
      clear stop hs
      go_wp2_with fail
      all_goals
        go_ret
        refine ⟨ret_b (Eq.trans ?_ HF.out), rfl⟩
        rw [Bool.eq_iff_iff]
        simp only [Bool.or_eq_true, decide_eq_true_eq, true_iff]
        omega
set_option maxRecDepth 100000 in
theorem great_none (a : Option Addr) (cap : Nat) (w : World) :
    Calls Tryd.prog 4 #[.slice a 0 cap] w fun e w' => e = .returned (.bool (greatB [])) ∧ w = w' := by
  go_enter Tryd.func4, Tryd.ntmps4
  go_wp2_with fail
  refine wp_loop_rounds 1 ?_; rw [rounds_succ]
  go_wp2_with fail
  go_ret
  exact ⟨rfl, rfl⟩
theorem great_sl (L : List Tok) (u : Value) (hl : L.length ≤ maxLen) (w : World) (hr : TokSl u L w) (hsz : ∀ t ∈ L, t.text.length ≤ maxLen) :
    Calls Tryd.prog 4 #[u] w fun e w' => e = .returned (.bool (greatB L)) ∧ w = w' := by
  unfold maxLen at *
  rcases hr with ⟨a1, c1, rfl, rfl, _⟩ | ⟨b1, o1, c1, rfl, h1⟩
  · exact great_none a1 c1 w
  · exact great_any L b1 o1 c1 hl w h1 hsz
theorem sum_mem : ∀ (l : List Nat) (n : Nat), n ∈ l → n ≤ l.sum
  | [], _, h => by cases h
  | a :: r, n, h => by
    rw [List.sum_cons]
    rcases List.mem_cons.1 h with h | h
    · omega
    · have := sum_mem r n h
      omega
theorem small_of_great (L : List Tok) (h : greatB L = false) : L.length ≤ 200 ∧ ∀ t ∈ L, t.text.length ≤ 3000 := by
  unfold greatB at h
  rw [Bool.or_eq_false_iff, decide_eq_false_iff_not, decide_eq_false_iff_not] at h
  obtain ⟨h1, h2⟩ := h
  rw [List.take_of_length_le (by omega)] at h2
  refine ⟨by omega, fun t ht => ?_⟩
  have hle : min t.text.length 10000 ≤ sumG L := by
    unfold sumG
    exact sum_mem _ _ (List.mem_map.2 ⟨t, ht, rfl⟩)
  omega
end Go.Proofs.YtcplgiimhedloaaDoor
