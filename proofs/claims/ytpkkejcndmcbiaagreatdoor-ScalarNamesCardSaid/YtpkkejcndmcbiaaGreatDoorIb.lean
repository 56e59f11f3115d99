/- scalar's told, digits: functions that hold one. -/
import Derived.Test.YtpkkejcndmcbiaaGreatDoorIa
set_option linter.unusedSimpArgs false
set_option linter.unusedVariables false
namespace Go.Proofs.YtpkkejcndmcbiaaGreatDoor
open Go.RowKit
set_option maxRecDepth 100000 in
theorem told_any (fn : Fn) (fa fc : Array Value) (w : World) :
    Calls Tryz.prog 33 #[.func fn fa fc] w fun e w' => (∃ p, e = .returned (.func (.func 52) #[] #[.pointer (some ⟨p, 0, none⟩)]) ∧ w.heap.size ≤ p ∧ w'.cell? ⟨p, 0, none⟩ = some (.func fn fa fc)) ∧ Below w.heap.size w w' := by
  go_enter Tryz.func33, Tryz.ntmps33
  go_wp2_with fail
  go_ret
  exact ⟨⟨w.heap.size, rfl, Nat.le_refl _, by simp⟩, (Below.refl _ _).alloc (Nat.le_refl _) _⟩
set_option maxRecDepth 100000 in
theorem digs_any (fn : Fn) (fa fc : Array Value) (w : World) :
    Calls Tryz.prog 36 #[.func fn fa fc] w fun e w' => (∃ p, e = .returned (.func (.func 53) #[] #[.pointer (some ⟨p, 0, none⟩)]) ∧ w.heap.size ≤ p ∧ w'.cell? ⟨p, 0, none⟩ = some (.func fn fa fc)) ∧ Below w.heap.size w w' := by
  go_enter Tryz.func36, Tryz.ntmps36
  go_wp2_with fail
  go_ret
  exact ⟨⟨w.heap.size, rfl, Nat.le_refl _, by simp⟩, (Below.refl _ _).alloc (Nat.le_refl _) _⟩
end Go.Proofs.YtpkkejcndmcbiaaGreatDoor
