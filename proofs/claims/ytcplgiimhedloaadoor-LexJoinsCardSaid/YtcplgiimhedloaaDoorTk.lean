/- Tokens in a row: what a slice of them holds. -/
import Derived.Test.YtcplgiimhedloaaDoorLp
import Derived.Test.YtcplgiimhedloaaDoorTv
set_option linter.unusedSimpArgs false
set_option linter.unusedVariables false
namespace Go.Proofs.YtcplgiimhedloaaDoor
open Go.RowKit
/-- Tokens that stand in a row from a place of a block on. -/
def TokRow (b off : Nat) (L : List Tok) (W : World) : Prop := ∀ (k : Nat) (h : k < L.length), W.cell? ⟨b, off + k * 3, none⟩ = some (.int .u8 (L[k].kind.toNat : Int)) ∧ W.cell? ⟨b, off + k * 3 + 1, none⟩ = some (.string ⟨L[k].text.toArray⟩) ∧ W.cell? ⟨b, off + k * 3 + 2, none⟩ = some (.int .i64 L[k].pos)
theorem TokRow.below {b off : Nat} {L : List Tok} {w w' : World} (h : TokRow b off L w) (hb : Below w.heap.size w w') (hlt : b < w.heap.size) : TokRow b off L w' := by
  intro k hk
  obtain ⟨h1, h2, h3⟩ := h k hk
  exact ⟨(hb.cell (p := ⟨b, _, none⟩) hlt).trans h1, (hb.cell (p := ⟨b, _, none⟩) hlt).trans h2, (hb.cell (p := ⟨b, _, none⟩) hlt).trans h3⟩
theorem below_dN {B : Nat} {w w1 : World} (n : Nat) (h : Below B w w1) : Below B w (w1.drewN n) := h.trans ⟨rfl, rfl, rfl, Nat.le_refl _, fun _ _ => rfl⟩
theorem lt_of_cell {W : World} {b o : Nat} {v : Value} (h : W.cell? ⟨b, o, none⟩ = some v) : b < W.heap.size := by
  rcases Nat.lt_or_ge b W.heap.size with h' | h'
  · exact h'
  · exfalso
    have : W.heap[b]? = none := Array.getElem?_eq_none h'
    simp [World.cell?, this] at h
theorem TokRow.below' {b off : Nat} {L : List Tok} {w w' : World} (h : TokRow b off L w) (hb : Below w.heap.size w w') : TokRow b off L w' := by
  intro k hk
  exact h.below hb (lt_of_cell (h k hk).1) k hk
/-- A slice that reads as tokens. -/
def TokSl (v : Value) (L : List Tok) (W : World) : Prop := (∃ a cap, v = .slice a 0 cap ∧ L = [] ∧ (a = none → cap = 0)) ∨ ∃ b off cap, v = .slice (some ⟨b, off, none⟩) L.length cap ∧ TokRow b off L W
theorem TokSl.below {v : Value} {L : List Tok} {w w' : World} (h : TokSl v L w) (hb : Below w.heap.size w w') : TokSl v L w' := by
  rcases h with h | ⟨b, off, cap, h1, h2⟩
  · exact Or.inl h
  · exact Or.inr ⟨b, off, cap, h1, h2.below' hb⟩
theorem TokSl.nil (w : World) : TokSl (.slice none 0 0) [] w := Or.inl ⟨_, _, rfl, rfl, fun _ => rfl⟩
/-- Tokens that a statement goes through: not many, not long. -/
def SmallT (L : List Tok) : Prop := L.length ≤ 100000 ∧ ∀ t ∈ L, t.text.length ≤ 100000
def sameP (a : Bool) (t u : Tok) : Bool := t.kind == u.kind && t.text == u.text && (!a || t.pos == u.pos)
/-- Are two lists of tokens the same (a: whether the places count)? -/
def sameT (a : Bool) : List Tok → List Tok → Bool
  | [], [] => true
  | t :: r, u :: s => sameP a t u && sameT a r s
  | _, _ => false
theorem sameT_len (a : Bool) : ∀ (L M : List Tok), L.length ≠ M.length → sameT a L M = false
  | [], [], h => absurd rfl h
  | [], _ :: _, _ => rfl
  | _ :: _, [], _ => rfl
  | t :: r, u :: s, h => by
    rw [sameT, sameT_len a r s (by simpa using h), Bool.and_false]
theorem sameT_self (a : Bool) : ∀ L : List Tok, sameT a L L = true
  | [] => rfl
  | t :: r => by rw [sameT, sameT_self a r]; simp [sameP]
theorem sameT_drop (a : Bool) (L M : List Tok) (k : Nat) (h : k < L.length) (h' : k < M.length) : sameT a (L.drop k) (M.drop k) = (sameP a L[k] M[k] && sameT a (L.drop (k + 1)) (M.drop (k + 1))) := by
  rw [List.drop_eq_getElem_cons h, List.drop_eq_getElem_cons h', sameT]
end Go.Proofs.YtcplgiimhedloaaDoor
