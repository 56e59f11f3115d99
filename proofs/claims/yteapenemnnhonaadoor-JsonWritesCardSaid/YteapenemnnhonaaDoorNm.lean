/- Names in a map that the call itself makes: asked, put in. -/
import Derived.Test.YteapenemnnhonaaDoorCp
import Derived.Test.YteapenemnnhonaaDoorSb
import Derived.Maps.OwnOps
import Derived.Maps.Views
import Derived.Maps.Keyed
import Derived.StringKeys
set_option linter.unusedSimpArgs false
set_option linter.unusedVariables false
namespace Go.Proofs.YteapenemnnhonaaDoor
open Go.RowKit Go.Maps
theorem names_keyed : Keyed Tryd.prog 9 := string_keyed Tryd.underlying9
theorem names_zero (w : World) : (zeroValue 3).run Tryd.prog w = .ok (.int .i64 0) w := by kernel_rfl
theorem names_key (x : ByteArray) (h : x.size ≤ maxLen) : keyOf Tryd.prog 9 (.string x) = some (.string x.data.toList) := Go.WideMaps.keyOf_string_mk Tryd.underlying9 h
/-- A map of the call's own that holds 1 at each of some names, and nothing else. -/
def NamesM (bm : Nat) (L : List (List UInt8)) (W : World) : Prop := ∃ (n : Nat) (D : DataW Unit), n ≤ L.length ∧ W.ownsMap Tryd.prog 9 (plainElem Tryd.prog 3) bm n D ∧ IsMap D ∧
  ∀ x : List UInt8, D.atKey (.string x) (.lit (.int .i64 0)) = .lit (.int .i64 (if amongB L x then 1 else 0))
theorem NamesM.made (W : World) : NamesM W.heap.size [] (W.alloc (.map #[] 0)) :=
  ⟨0, .map [], Nat.le_refl _, World.ownsMap_made _ _ _ _, isMap_empty, fun x => rfl⟩
theorem NamesM.lt {bm : Nat} {L : List (List UInt8)} {W : World} (h : NamesM bm L W) : bm < W.heap.size := by
  obtain ⟨n, D, _, h, _⟩ := h; exact h.lt
theorem NamesM.keep {bm : Nat} {L : List (List UInt8)} {W W' : World} (h : NamesM bm L W) (he : W'.heap[bm]? = W.heap[bm]?) : NamesM bm L W' := by
  obtain ⟨n, D, h0, ⟨es, clock, hb, F, hs, hD⟩, h2⟩ := h
  exact ⟨n, D, h0, ⟨es, clock, he.trans hb, F, hs, hD⟩, h2⟩
theorem NamesM.below {bm : Nat} {L : List (List UInt8)} {W W' : World} (h : NamesM bm L W) (hb : Below W.heap.size W W') : NamesM bm L W' := h.keep (hb.block bm h.lt)
theorem NamesM.grown {bm : Nat} {L : List (List UInt8)} {W W' : World} {row : Option Nat} (h : NamesM bm L W) (hb : W.grownBy W' row) (hne : some bm ≠ row) : NamesM bm L W' := h.keep (hb.block bm h.lt hne)
theorem NamesM.lookup {bm : Nat} {L : List (List UInt8)} {W : World} (h : NamesM bm L W) (x : ByteArray) (hx : x.size ≤ maxLen) :
    (Instr.lookup 70 (.map (some bm)) (.string x) false).run Tryd.prog W = .ok (.int .i64 (if amongB L x.data.toList then 1 else 0)) W := by
  obtain ⟨n, D, h0, h1, h2, h3⟩ := h
  obtain ⟨c, hrun, hat, hwc⟩ := h1.lookup_int names_keyed Tryd.underlying70 Tryd.underlying3 (names_zero W) (names_key x hx)
  rw [hrun]
  have := hat.symm.trans (h3 x.data.toList)
  simp only [DataW.lit.injEq, Lit.int.injEq, true_and] at this
  rw [this]
theorem NamesM.update {bm : Nat} {L : List (List UInt8)} {W : World} (h : NamesM bm L W) (x : ByteArray) (hx : x.size ≤ maxLen) (hL : L.length < 1000000) :
    ∃ W', (Instr.mapUpdate 70 (.map (some bm)) (.string x) (.int .i64 1)).run Tryd.prog W = .ok () W' ∧ NamesM bm (x.data.toList :: L) W' ∧ W.grownBy W' (some bm) := by
  obtain ⟨n, D, h0, h1, h2, h3⟩ := h
  obtain ⟨W', hrun, r1, r2⟩ := h1.update (kl := .string x.data.toList) (d := .lit (.int .i64 1)) (ps := []) names_keyed Tryd.underlying70 (by unfold maxLen; omega) (names_key x hx) (plainElem_int Tryd.underlying3 (by decide))
  refine ⟨W', hrun, ⟨n + 1, _, by simp; omega, r1, h2.put _ _, ?_⟩, r2⟩
  intro y
  by_cases hy : y = x.data.toList
  · subst hy
    rw [atKey_put_same h2 (by trivial)]
    have : amongB (x.data.toList :: L) x.data.toList = true := by unfold amongB; simp
    rw [this]; rfl
  · rw [atKey_put_other (fun e => hy (by injection e)), h3 y]
    have : amongB (x.data.toList :: L) y = amongB L y := by
      unfold amongB
      rw [List.any_cons]
      have : (x.data.toList == y) = false := beq_eq_false_iff_ne.2 fun e => hy e.symm
      rw [this, Bool.false_or]
    rw [this]
end Go.Proofs.YteapenemnnhonaaDoor
