/- Slices of tokens that the call itself makes: append. -/
import Derived.Test.YtcplgiimhedloaaDoorTk
import Derived.Maps.AppendAt
import Derived.Laws.OwnMore
import Derived.Laws.AppendOwnNone
set_option linter.unusedSimpArgs false
set_option linter.unusedVariables false
namespace Go.Proofs.YtcplgiimhedloaaDoor
open Go.RowKit
theorem tok_info : (Tryd.prog.info? 31).map (fun i => (i.zero, i.size, i.bytes)) = some (some (.agg #[.int .u8 0, .string ⟨#[]⟩, .int .i64 0]), 3, 32) := by kernel_rfl
def tokCells : List Tok → List Value
  | [] => []
  | t :: r => .int .u8 (t.kind.toNat : Int) :: .string ⟨t.text.toArray⟩ :: .int .i64 t.pos :: tokCells r
theorem tokCells_len : ∀ L : List Tok, (tokCells L).length = L.length * 3
  | [] => rfl
  | t :: r => by rw [tokCells]; simp [tokCells_len r]; omega
theorem tokCells_app : ∀ L M : List Tok, tokCells (L ++ M) = tokCells L ++ tokCells M
  | [], _ => rfl
  | t :: r, M => by rw [List.cons_append, tokCells, tokCells_app r M, tokCells]; rfl
theorem tokCells_one : ∀ L : List Tok, ∀ u ∈ tokCells L, u.oneCell' = true
  | [], u, h => by cases h
  | t :: r, u, h => by
    rw [tokCells] at h
    rcases List.mem_cons.1 h with h | h
    · rw [h]; rfl
    rcases List.mem_cons.1 h with h | h
    · rw [h]; rfl
    rcases List.mem_cons.1 h with h | h
    · rw [h]; rfl
    · exact tokCells_one r u h
theorem tokCells_get : ∀ (L : List Tok) (k : Nat) (h : k < L.length), (tokCells L)[k * 3]? = some (.int .u8 (L[k].kind.toNat : Int)) ∧ (tokCells L)[k * 3 + 1]? = some (.string ⟨L[k].text.toArray⟩) ∧ (tokCells L)[k * 3 + 2]? = some (.int .i64 L[k].pos)
  | [], k, h => by simp at h
  | t :: r, 0, h => by simp [tokCells]
  | t :: r, k + 1, h => by
    have ih := tokCells_get r k (by simpa using h)
    rw [show (k + 1) * 3 = k * 3 + 1 + 1 + 1 from by omega, show k * 3 + 1 + 1 + 1 + 1 = k * 3 + 1 + 1 + 1 + 1 from rfl]
    simp only [tokCells, List.getElem?_cons_succ, List.getElem_cons_succ]
    exact ih
theorem row_cells : ∀ (L : List Tok) (b off : Nat) (w : World), TokRow b off L w → ∀ j u, (tokCells L)[j]? = some u → w.cell? ⟨b, off + j, none⟩ = some u
  | [], b, off, w, h, j, u, hu => by simp [tokCells] at hu
  | t :: r, b, off, w, h, j, u, hu => by
    obtain ⟨c0, c1, c2⟩ := h 0 (by simp)
    rw [tokCells] at hu
    match j, hu with
    | 0, hu => rw [← hu]; simpa using c0
    | 1, hu => rw [← hu]; simpa using c1
    | 2, hu => rw [← hu]; simpa using c2
    | j + 3, hu =>
      have ht : TokRow b (off + 3) r w := by
        intro k hk
        have := h (k + 1) (by simpa using hk)
        rw [show off + (k + 1) * 3 = off + 3 + k * 3 from by omega] at this
        exact this
      have := row_cells r b (off + 3) w ht j u (by simpa using hu)
      rw [show off + (j + 3) = off + 3 + j from by omega]
      exact this
theorem addr_add (b o j : Nat) : (⟨b, o, none⟩ : Addr).add j = ⟨b, o + j, none⟩ := by
  unfold Addr.add
  split
  · rename_i hz; rw [hz]; rfl
  · rfl
/-- A slice of tokens of the call's own. -/
def OwnT (B : Nat) (v : Value) (L : List Tok) (W : World) : Prop := W.ownsRow B 31 3 v L.length (tokCells L)
theorem OwnT.nil (B : Nat) (W : World) : OwnT B (.slice none 0 0) [] W := World.ownsRow_nil W B 31 3
theorem OwnT.below {B : Nat} {v : Value} {l : List Tok} {w w' : World} (h : OwnT B v l w) (hb : Below w.heap.size w w') : OwnT B v l w' := by
  obtain ⟨h1, h2⟩ := h
  refine ⟨h1, ?_⟩
  rcases h2 with h2 | ⟨g, cap, cur, hv, hB, hg, hrest⟩
  · exact Or.inl h2
  · have hlt : g < w.heap.size := (Array.getElem?_eq_some_iff.1 hg).1
    exact Or.inr ⟨g, cap, cur, hv, hB, (hb.block g hlt).trans hg, hrest⟩
theorem OwnT.alloc {B : Nat} {v : Value} {l : List Tok} {w : World} (h : OwnT B v l w) (o : Obj) : OwnT B v l (w.alloc o) := World.ownsRow.alloc h o
theorem OwnT.lt {B : Nat} {v : Value} {l : List Tok} {w : World} (h : OwnT B v l w) : ∀ k, v.ownBlock = some k → B ≤ k := fun k hk => (World.ownsRow.lt h k hk).1
/-- A slice of no token that was just laid. -/
theorem OwnT.fresh0 (W : World) : OwnT W.heap.size (.slice (some ⟨W.heap.size, 0, none⟩) 0 0) [] (W.alloc (.cells #[] 31)) :=
  ⟨rfl, Or.inr ⟨W.heap.size, 0, #[], rfl, Nat.le_refl _, heap_alloc_new W _, by simp, by unfold maxLen; omega, by simp, by simp [tokCells]⟩⟩
theorem OwnT.sl {B : Nat} {v : Value} {L : List Tok} {w : World} (h : OwnT B v L w) : TokSl v L w := by
  obtain ⟨h1, h2⟩ := h
  rcases h2 with ⟨rfl, h2⟩ | ⟨g, cap, cur, rfl, hB, hg, hn, hc, hcs, ht⟩
  · exact Or.inl ⟨_, _, rfl, List.eq_nil_of_length_eq_zero h2, fun _ => rfl⟩
  · refine Or.inr ⟨g, 0, cap, rfl, ?_⟩
    intro k hk
    obtain ⟨g0, g1, g2⟩ := tokCells_get L k hk
    have F : ∀ j u, (tokCells L)[j]? = some u → w.cell? ⟨g, 0 + j, none⟩ = some u := by
      intro j u hj
      have hjl : j < L.length * 3 := by rw [← tokCells_len]; exact (List.getElem?_eq_some_iff.1 hj).1
      rw [← ht, List.getElem?_take, if_pos hjl] at hj
      rw [Nat.zero_add]
      refine (Lib.cell_of_heap hg j).trans ?_
      simpa using hj
    exact ⟨F _ _ g0, F _ _ g1, F _ _ g2⟩
/-- 'append(v, u..)' of tokens that stand in a row. -/
theorem wpList_appT {ops : Array Oper} {rest : List Oper} {o : Oper} {a : Act} {Q : Exit → Act → World → Prop} {w : World} (hgd : o.guard = none) (s x : Operand)
    (ho : o.op = .call { callee := .builtin .append, args := #[s, x], argTypes := #[22, 22] }) (B : Nat) (v u : Value) (L M : List Tok) (hs : a.eval s = v) (hown : OwnT B v L w)
    (hx : a.eval x = u) (hu : TokSl u M w) (hlen : L.length + M.length ≤ 1000000) (hB : B ≤ w.heap.size)
    (h : ∀ v' w', OwnT B v' (L ++ M) w' → w.grownBy w' v.ownBlock → wpList Tryd.prog ops Q rest (a.put o.dst v') w') : wpList Tryd.prog ops Q (o :: rest) a w := by
  obtain ⟨i0, hi, hz0, hz1, hz2⟩ := info_parts tok_info
  have fin : ∀ (ad : Addr) (c : Nat), u = .slice (some ad) M.length c → (∀ j q, (tokCells M)[j]? = some q → w.cell? (ad.add j) = some q) → wpList Tryd.prog ops Q (o :: rest) a w := by
    intro ad c hu2 hcells
    refine wpList_append_own w hgd s x 22 ho B 31 i0 (.agg #[.int .u8 0, .string ⟨#[]⟩, .int .i64 0]) 3 32 Tryd.underlying22 hi hz0 hz1 hz2 rfl (by decide) v L.length (tokCells L) hs hown ad M.length c (tokCells M) (hx.trans hu2) (tokCells_len M) hcells (tokCells_one M) (by unfold maxLen; omega) (by omega) hB ?_
    intro v' w' h1 h2 _
    refine h v' w' ?_ h2
    unfold OwnT
    rw [List.length_append, tokCells_app]
    exact h1
  rcases hu with ⟨ua, uc, hu2, rfl, hcap⟩ | ⟨b, off, cap, hu2, hr⟩
  · rcases ua with _ | ad
    · refine wpList_append_own_none hgd s x 22 ho B 31 i0 3 Tryd.underlying22 hi v L.length (tokCells L) hs hown (by rw [hx, hu2, hcap rfl]) ?_
      have := h v w (by rw [List.append_nil]; exact hown) (World.grownBy.refl w _)
      exact this
    · exact fin ad uc hu2 (fun j q hq => by simp [tokCells] at hq)
  · exact fin ⟨b, off, none⟩ cap hu2 (fun j q hq => by rw [addr_add]; exact row_cells M b off w hr j q hq)
end Go.Proofs.YtcplgiimhedloaaDoor
