/- The words of the sets that address.Check and plain make. -/
import Derived.Test.YtcocjmbhbddgiaaGreatDoorAh
namespace Go.Proofs.YtcocjmbhbddgiaaGreatDoor
theorem all_bytes {f g : UInt8 → Bool} (h : ∀ i : Fin 256, f (UInt8.ofNat i.val) = g (UInt8.ofNat i.val)) (c : UInt8) : f c = g c := by
  have := h ⟨c.toNat, UInt8.toNat_lt c⟩
  simpa using this
theorem fold_letters : Fold 0 0 0 0 (flat [⟨#[97, 98, 99, 100, 101, 102, 103, 104, 105, 106, 107, 108, 109, 110, 111, 112, 113, 114, 115, 116, 117, 118, 119, 120, 121, 122]⟩, ⟨#[65, 66, 67, 68, 69, 70, 71, 72, 73, 74, 75, 76, 77, 78, 79, 80, 81, 82, 83, 84, 85, 86, 87, 88, 89, 90]⟩]) 0 576460743847706622 0 0 := by
  unfold Fold
  exact ⟨by decide +kernel, by decide +kernel, by decide +kernel, by decide +kernel⟩
theorem has_letters (c : UInt8) : hasW 0 576460743847706622 0 0 c.toNat = isLet c := by
  refine all_bytes (f := fun c => hasW 0 576460743847706622 0 0 c.toNat) (g := isLet) ?_ c
  decide +kernel
theorem fold_scheme : Fold 0 0 0 0 (flat [⟨#[97, 98, 99, 100, 101, 102, 103, 104, 105, 106, 107, 108, 109, 110, 111, 112, 113, 114, 115, 116, 117, 118, 119, 120, 121, 122]⟩, ⟨#[65, 66, 67, 68, 69, 70, 71, 72, 73, 74, 75, 76, 77, 78, 79, 80, 81, 82, 83, 84, 85, 86, 87, 88, 89, 90]⟩, ⟨#[48, 49, 50, 51, 52, 53, 54, 55, 56, 57]⟩, ⟨#[43, 45, 46]⟩]) 288063250384289792 576460743847706622 0 0 := by
  unfold Fold
  exact ⟨by decide +kernel, by decide +kernel, by decide +kernel, by decide +kernel⟩
theorem has_scheme (c : UInt8) : hasW 288063250384289792 576460743847706622 0 0 c.toNat = okS c := by
  refine all_bytes (f := fun c => hasW 288063250384289792 576460743847706622 0 0 c.toNat) (g := okS) ?_ c
  decide +kernel
theorem fold_user : Fold 0 0 0 0 (flat [⟨#[97, 98, 99, 100, 101, 102, 103, 104, 105, 106, 107, 108, 109, 110, 111, 112, 113, 114, 115, 116, 117, 118, 119, 120, 121, 122, 65, 66, 67, 68, 69, 70, 71, 72, 73, 74, 75, 76, 77, 78, 79, 80, 81, 82, 83, 84, 85, 86, 87, 88, 89, 90, 48, 49, 50, 51, 52, 53, 54, 55, 56, 57, 45, 46, 95, 126]⟩, ⟨#[33, 36, 38, 39, 40, 41, 42, 43, 44, 59, 61]⟩, ⟨#[58]⟩]) 3458623578763689984 5188146764422578174 0 0 := by
  unfold Fold
  exact ⟨by decide +kernel, by decide +kernel, by decide +kernel, by decide +kernel⟩
theorem has_user (c : UInt8) : hasW 3458623578763689984 5188146764422578174 0 0 c.toNat = (mayB [58]) c := by
  refine all_bytes (f := fun c => hasW 3458623578763689984 5188146764422578174 0 0 c.toNat) (g := (mayB [58])) ?_ c
  decide +kernel
theorem fold_host : Fold 0 0 0 0 (flat [⟨#[97, 98, 99, 100, 101, 102, 103, 104, 105, 106, 107, 108, 109, 110, 111, 112, 113, 114, 115, 116, 117, 118, 119, 120, 121, 122, 65, 66, 67, 68, 69, 70, 71, 72, 73, 74, 75, 76, 77, 78, 79, 80, 81, 82, 83, 84, 85, 86, 87, 88, 89, 90, 48, 49, 50, 51, 52, 53, 54, 55, 56, 57, 45, 46, 95, 126]⟩, ⟨#[33, 36, 38, 39, 40, 41, 42, 43, 44, 59, 61]⟩]) 3170393202611978240 5188146764422578174 0 0 := by
  unfold Fold
  exact ⟨by decide +kernel, by decide +kernel, by decide +kernel, by decide +kernel⟩
theorem has_host (c : UInt8) : hasW 3170393202611978240 5188146764422578174 0 0 c.toNat = (mayB []) c := by
  refine all_bytes (f := fun c => hasW 3170393202611978240 5188146764422578174 0 0 c.toNat) (g := (mayB [])) ?_ c
  decide +kernel
theorem fold_path : Fold 0 0 0 0 (flat [⟨#[97, 98, 99, 100, 101, 102, 103, 104, 105, 106, 107, 108, 109, 110, 111, 112, 113, 114, 115, 116, 117, 118, 119, 120, 121, 122, 65, 66, 67, 68, 69, 70, 71, 72, 73, 74, 75, 76, 77, 78, 79, 80, 81, 82, 83, 84, 85, 86, 87, 88, 89, 90, 48, 49, 50, 51, 52, 53, 54, 55, 56, 57, 45, 46, 95, 126]⟩, ⟨#[33, 36, 38, 39, 40, 41, 42, 43, 44, 59, 61]⟩, ⟨#[58, 64, 47]⟩]) 3458764316252045312 5188146764422578175 0 0 := by
  unfold Fold
  exact ⟨by decide +kernel, by decide +kernel, by decide +kernel, by decide +kernel⟩
theorem has_path (c : UInt8) : hasW 3458764316252045312 5188146764422578175 0 0 c.toNat = (mayB [58, 64, 47]) c := by
  refine all_bytes (f := fun c => hasW 3458764316252045312 5188146764422578175 0 0 c.toNat) (g := (mayB [58, 64, 47])) ?_ c
  decide +kernel
theorem fold_query : Fold 0 0 0 0 (flat [⟨#[97, 98, 99, 100, 101, 102, 103, 104, 105, 106, 107, 108, 109, 110, 111, 112, 113, 114, 115, 116, 117, 118, 119, 120, 121, 122, 65, 66, 67, 68, 69, 70, 71, 72, 73, 74, 75, 76, 77, 78, 79, 80, 81, 82, 83, 84, 85, 86, 87, 88, 89, 90, 48, 49, 50, 51, 52, 53, 54, 55, 56, 57, 45, 46, 95, 126]⟩, ⟨#[33, 36, 38, 39, 40, 41, 42, 43, 44, 59, 61]⟩, ⟨#[58, 64, 47, 63]⟩]) 12682136353106821120 5188146764422578175 0 0 := by
  unfold Fold
  exact ⟨by decide +kernel, by decide +kernel, by decide +kernel, by decide +kernel⟩
theorem has_query (c : UInt8) : hasW 12682136353106821120 5188146764422578175 0 0 c.toNat = (mayB [58, 64, 47, 63]) c := by
  refine all_bytes (f := fun c => hasW 12682136353106821120 5188146764422578175 0 0 c.toNat) (g := (mayB [58, 64, 47, 63])) ?_ c
  decide +kernel
theorem fold_free : Fold 0 0 0 0 (flat [⟨#[97, 98, 99, 100, 101, 102, 103, 104, 105, 106, 107, 108, 109, 110, 111, 112, 113, 114, 115, 116, 117, 118, 119, 120, 121, 122, 65, 66, 67, 68, 69, 70, 71, 72, 73, 74, 75, 76, 77, 78, 79, 80, 81, 82, 83, 84, 85, 86, 87, 88, 89, 90, 48, 49, 50, 51, 52, 53, 54, 55, 56, 57, 45, 46, 95, 126]⟩]) 288054454291267584 5188146764422578174 0 0 := by
  unfold Fold
  exact ⟨by decide +kernel, by decide +kernel, by decide +kernel, by decide +kernel⟩
theorem has_free (c : UInt8) : hasW 288054454291267584 5188146764422578174 0 0 c.toNat = isFree c := by
  refine all_bytes (f := fun c => hasW 288054454291267584 5188146764422578174 0 0 c.toNat) (g := isFree) ?_ c
  decide +kernel
end Go.Proofs.YtcocjmbhbddgiaaGreatDoor
