/- slices.IndexFunc, ContainsFunc at arguments, directives, inputs, fields, definitions, names. -/
import Derived.Test.YtbejhdhhkpllfaaGreatDoorDc
set_option linter.unusedSimpArgs false
set_option linter.unusedVariables false
namespace Go.Proofs.YtbejhdhhkpllfaaGreatDoor
open Go.RowKit
/-- The first place of one that a predicate holds of; -1. -/
def idxA {α : Type} (p : α → Bool) : List α → Nat → Int
  | [], _ => -1
  | c :: r, i => if p c then (i : Int) else idxA p r (i + 1)
theorem idxA_sign {α : Type} (p : α → Bool) : ∀ (V : List α) (i : Nat), decide (0 ≤ idxA p V i) = V.any p
  | [], i => rfl
  | c :: r, i => by
    rw [idxA, List.any_cons]
    cases p c with
    | true => simp
    | false => simpa using idxA_sign p r (i + 1)
set_option maxRecDepth 100000 in
set_option maxHeartbeats 1000000 in
theorem inp_index_row (g : Nat) (lb : Array Value) (eg : ∀ args w, (callFunc g args).run Tryz.prog w = .ok (.enter g args) w) (p : Inp → Bool) (V : List (Inp)) (b off cap : Nat) (w : World) (hrow : RowG 6 InpE ⟨b, off, none⟩ V w) (hl : V.length ≤ 100000)
    (H : Hid (∀ (W : World) (k : Nat) (hk : k < V.length) (ev : Value), InpV ev V[k] W → Below w.heap.size w W → Calls Tryz.prog g (#[ev] ++ lb) W fun e w' => e = .returned (.bool (p V[k])) ∧ Below W.heap.size W w')) :
    Calls Tryz.prog 38 #[.slice (some ⟨b, off, none⟩) V.length cap, .func (.func g) #[] lb] w fun e w' => e = .returned (.int .i64 (idxA p V 0)) ∧ Below w.heap.size w w' := by
  have HROW := Lib.hid hrow
  obtain ⟨r, hr⟩ : ∃ r, idxA p V 0 = r := ⟨_, rfl⟩
  have HR : Hid (idxA p (V.drop 0) 0 = r) := Lib.hid hr
  rw [hr]
  clear hr hrow
  go_enter Tryz.func38, Tryz.ntmps38
  go_wp2_with fail
  go_loopw [8] (fun i wr => ∃ k : Nat, k ≤ V.length ∧ i = .int .i64 k ∧ Hid (idxA p (V.drop k) k = r) ∧ Hid (Below w.heap.size w wr)) (fun i wr => V.length - (intOf i).toNat)
  case atStart => exact ⟨0, Nat.zero_le _, rfl, HR, Lib.hid (Below.refl _ _)⟩
  case round =>
    rename World => wr
    obtain ⟨k, hk, rfl, HS, HB⟩ := hrel
    by_cases hlt : k < V.length
    · obtain ⟨y0, y1, y2, y3, y4, y5, y6, y7, y8, yq0, yq1, yq2, yq3, yq4, yq5, yy, yz, yu⟩ := inp_at (RowG.below HROW.out fun _ _ h => InpE.below h HB.out) k hlt
      have HC := Lib.hid (H.out wr k hlt _ ⟨_, _, _, _, _, _, _, _, _, rfl, yy, yz, yu⟩ HB.out)
      have hstep := HS.out
      rw [List.drop_eq_getElem_cons hlt, idxA] at hstep
      have hz := HB.out.size
      clear yy yz yu
      generalize p V[k] = pk at *
      generalize V[k].has = hs at *
      generalize (⟨V[k].name.toArray⟩ : ByteArray) = x0 at *
      generalize (⟨V[k].tnm.toArray⟩ : ByteArray) = x1 at *
      cases pk with
      | true =>
        rw [if_pos rfl] at hstep
        have HF := Lib.hid hstep
        clear hstep HS
        go_wp2_with fail
        refine HC.out.mono ?_; rintro e w1 ⟨rfl, hb⟩
        have HB1 := Lib.hid (HB.out.trans (hb.mono hz))
        clear hb
        go_wp2_with fail
        go_ret
        exact ⟨ret_i HF.out, HB1.out⟩
      | false =>
        rw [if_neg Bool.false_ne_true] at hstep
        have HF := Lib.hid hstep
        clear hstep HS
        go_wp2_with fail
        refine HC.out.mono ?_; rintro e w1 ⟨rfl, hb⟩
        have HB1 := Lib.hid (HB.out.trans (hb.mono hz))
        clear hb
        go_wp2_with fail
        go_roundw
        case rel => exact ⟨k + 1, by omega, by go_num, HF, HB1⟩
        case measure => simp [intOf]; omega
    · have HF : Hid (-1 = r) := Lib.hid (by rw [← HS.out, List.drop_of_length_le (by omega)]; rfl)
      clear HS
      go_wp2_with fail
      go_ret
      exact ⟨ret_i HF.out, HB.out⟩
set_option maxRecDepth 100000 in
theorem inp_index_none (g : Nat) (lb : Array Value) (p : Inp → Bool) (a : Option Addr) (cap : Nat) (w : World) :
    Calls Tryz.prog 38 #[.slice a 0 cap, .func (.func g) #[] lb] w fun e w' => e = .returned (.int .i64 (idxA p [] 0)) ∧ Below w.heap.size w w' := by
  go_enter Tryz.func38, Tryz.ntmps38
  go_wp2_with fail
  refine wp_loop_rounds 1 ?_; rw [rounds_succ]
  go_wp2_with fail
  go_ret
  exact ⟨rfl, Below.refl _ _⟩
set_option maxRecDepth 100000 in
theorem inp_contains (g : Nat) (lb : Array Value) (eg : ∀ args w, (callFunc g args).run Tryz.prog w = .ok (.enter g args) w) (p : Inp → Bool) (V : List (Inp)) (v : Value) (w : World) (hv : InpSl v V w) (hl : V.length ≤ 100000)
    (H : Hid (∀ (W : World) (k : Nat) (hk : k < V.length) (ev : Value), InpV ev V[k] W → Below w.heap.size w W → Calls Tryz.prog g (#[ev] ++ lb) W fun e w' => e = .returned (.bool (p V[k])) ∧ Below W.heap.size W w')) :
    Calls Tryz.prog 13 #[v, .func (.func g) #[] lb] w fun e w' => e = .returned (.bool (V.any p)) ∧ Below w.heap.size w w' := by
  have HI : Hid (Calls Tryz.prog 38 #[v, .func (.func g) #[] lb] w fun e w' => e = .returned (.int .i64 (idxA p V 0)) ∧ Below w.heap.size w w') := Lib.hid (by
    rcases hv with ⟨a, c, rfl, rfl⟩ | ⟨b, off, cap, rfl, hrow, hpos⟩
    · exact inp_index_none g lb p a c w
    · exact inp_index_row g lb eg p V b off cap w hrow hl H)
  have hsg := idxA_sign p V 0
  generalize idxA p V 0 = i at *
  rw [← hsg]
  clear H hv hsg eg
  go_enter Tryz.func13, Tryz.ntmps13
  go_wp2_with fail
  refine HI.out.mono ?_; rintro e w1 ⟨rfl, hb⟩
  go_wp2_with fail
  go_ret
  exact ⟨rfl, hb⟩
end Go.Proofs.YtbejhdhhkpllfaaGreatDoor
