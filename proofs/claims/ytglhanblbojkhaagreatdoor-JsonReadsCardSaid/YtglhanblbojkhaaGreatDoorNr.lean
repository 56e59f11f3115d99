/- The walks through the reference's JSON reader (provostref04): number, joined. -/
import Derived.Test.YtglhanblbojkhaaGreatDoorNq
set_option linter.unusedSimpArgs false
set_option linter.unusedVariables false
namespace Go.Proofs.YtglhanblbojkhaaGreatDoor
open Go.RowKit
theorem rnumber_any (r : Nat) (s : ByteArray) (at_ : Nat) (v : Value) (ha : at_ ≤ s.size) (hs : s.size ≤ 1000000) (w : World) (h : RdR r s at_ v 0 w)
    (HRD : Hid (∀ (x : ByteArray) (W : World), x.size ≤ maxLen → Calls Tryz.prog 77 #[.string x] W fun e w' => e = .returned (.tuple #[.int .i64 (rdV x.data.toList), .int .i64 (rdE x.data.toList)]) ∧ W = w')) :
    Calls Tryz.prog 53 #[.pointer (some ⟨r, 0, none⟩)] w fun x w' => NumE r s v (numJ (s.data.toList.drop at_)) x w' ∧ RK r w w' := by
  have hdk : ∀ a, a ≤ s.size → a + digK 0 (s.data.toList.drop a) ≤ s.size := by
    intro a hal
    unfold digK
    rw [if_pos rfl]
    have h1 := (List.takeWhile_sublist (p := isDig) (l := s.data.toList.drop a)).length_le
    have hll : s.data.toList.length = s.size := by rw [Array.length_toList]; rfl
    have h2 : (s.data.toList.drop a).length = s.size - a := by rw [List.length_drop, hll]
    omega
  by_cases hc : lookJ 0 (s.data.toList.drop at_) = 45
  · have hlt0 : at_ < s.size := by
      rcases Nat.lt_or_ge at_ s.size with h' | h'
      · exact h'
      · rw [look_out s at_ (by omega)] at hc; exact absurd hc (by decide)
    by_cases hz : lookJ 0 (s.data.toList.drop (at_ + 1)) = 48
    · exact rnumber_neg_zero r s at_ v ha hs w h hc hlt0 hz (whole_zero s _ hz).2 HRD
    · by_cases hk : digK 0 (s.data.toList.drop (at_ + 1)) = 0
      · exact rnumber_neg_bad r s at_ v ha hs w h hc hlt0 hz hk HRD
      · exact rnumber_neg_dig r s at_ v ha hs w h hc hlt0 hz hk (hdk _ hlt0) HRD
  · by_cases hz : lookJ 0 (s.data.toList.drop at_) = 48
    · exact rnumber_pos_zero r s at_ v ha hs w h hc hz (whole_zero s _ hz).2 HRD
    · by_cases hk : digK 0 (s.data.toList.drop at_) = 0
      · exact rnumber_pos_bad r s at_ v ha hs w h hc hz hk HRD
      · exact rnumber_pos_dig r s at_ v ha hs w h hc hz hk (hdk _ ha) HRD
end Go.Proofs.YtglhanblbojkhaaGreatDoor
