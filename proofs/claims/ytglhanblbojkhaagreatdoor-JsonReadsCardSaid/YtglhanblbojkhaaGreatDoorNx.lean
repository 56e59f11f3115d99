/- The reference's JSON reader (provostref04): the cells that it makes: what stays, append, stores. -/
import Derived.Test.YtglhanblbojkhaaGreatDoorNw
import Derived.Test.YtglhanblbojkhaaGreatDoorJo
set_option linter.unusedSimpArgs false
set_option linter.unusedVariables false
namespace Go.Proofs.YtglhanblbojkhaaGreatDoor
open Go.RowKit Go.Lib
/-- All older blocks stay but one, and but a slice's own. -/
def VK (r : Nat) (v : Value) (W W' : World) : Prop := Below r W W' ∧ ∀ (k : Nat) (o : Obj), W.heap[k]? = some o → k ≠ r → v.ownBlock ≠ some k → W'.heap[k]? = some o
theorem VK.refl (r : Nat) (v : Value) (W : World) : VK r v W W := ⟨Below.refl _ _, fun _ _ h _ _ => h⟩
theorem VK.rk {r : Nat} {v : Value} {W W' W'' : World} (h : VK r v W W') (h' : RK r W' W'') : VK r v W W'' := ⟨h.1.trans h'.1, fun k o hk hne hv => h'.2 k o (h.2 k o hk hne hv) hne⟩
theorem VK.trans {r : Nat} {v v1 : Value} {W W' W'' : World} (h : VK r v W W') (h' : VK r v1 W' W'') (ho : ∀ k, v1.ownBlock = some k → v.ownBlock = some k ∨ W.heap.size ≤ k) : VK r v W W'' :=
  ⟨h.1.trans h'.1, fun k o hk hne hv => h'.2 k o (h.2 k o hk hne hv) hne (fun e => by
    rcases ho k e with h1 | h1
    · exact hv h1
    · have := heap_lt hk; omega)⟩
theorem OwnC.below {B : Nat} {v : Value} {l : List Cel} {w w' : World} (h : OwnC B v l w) (hb : Below w.heap.size w w') : OwnC B v l w' := by
  obtain ⟨h1, h2⟩ := h
  refine ⟨h1, ?_⟩
  rcases h2 with h2 | ⟨g, cap, cur, hv, hB, hg, hrest⟩
  · exact Or.inl h2
  · exact Or.inr ⟨g, cap, cur, hv, hB, (hb.block g (heap_lt hg)).trans hg, hrest⟩
theorem OwnC.rk {B r : Nat} {v : Value} {l : List Cel} {w w' : World} (h : OwnC B v l w) (hk : RK r w w') (hr : r < B) : OwnC B v l w' := by
  obtain ⟨h1, h2⟩ := h
  refine ⟨h1, ?_⟩
  rcases h2 with h2 | ⟨g, cap, cur, hv, hB, hg, hrest⟩
  · exact Or.inl h2
  · exact Or.inr ⟨g, cap, cur, hv, hB, hk.2 g _ hg (by omega), hrest⟩
theorem OwnS.rk {B r : Nat} {v : Value} {l : List ByteArray} {w w' : World} (h : OwnS B v l w) (hk : RK r w w') (hr : r < B) : OwnS B v l w' := by
  obtain ⟨h1, h2⟩ := h
  refine ⟨h1, ?_⟩
  rcases h2 with h2 | ⟨g, cap, cur, hv, hB, hg, hrest⟩
  · exact Or.inl h2
  · exact Or.inr ⟨g, cap, cur, hv, hB, hk.2 g _ hg (by omega), hrest⟩
/-- Names and cells lie in two blocks. -/
theorem apartS {B B' : Nat} {nv v : Value} {l : List ByteArray} {L : List Cel} {W : World} (hn : OwnS B nv l W) (hc : OwnC B' v L W) (k : Nat) (h1 : nv.ownBlock = some k) (h2 : v.ownBlock = some k) : False := by
  rcases hn.2 with ⟨rfl, _⟩ | ⟨g, cap, cur, rfl, hB, hg, _⟩
  · cases h1
  rcases hc.2 with ⟨rfl, _⟩ | ⟨g', cap', cur', rfl, hB', hg', _⟩
  · cases h2
  have e1 : g = k := by simpa [Value.ownBlock] using h1
  have e2 : g' = k := by simpa [Value.ownBlock] using h2
  rw [e1] at hg
  rw [e2, hg] at hg'
  injection hg' with hg'
  injection hg' with h3 h4 h5
  exact absurd h4 (by decide)
theorem own_some {T : TypeId} {n B m : Nat} {v : Value} {xs : List Value} {W : World} (h : W.ownsRow B T n v m xs) : v.ownBlock = none ∨ ∃ g cap cur, v = .slice (some ⟨g, 0, none⟩) m cap ∧ v.ownBlock = some g ∧ B ≤ g ∧ W.heap[g]? = some (.cells cur T (0, 0)) := by
  rcases h.2 with ⟨rfl, _⟩ | ⟨g, cap, cur, rfl, hB, hg, _⟩
  · exact Or.inl rfl
  · exact Or.inr ⟨g, cap, cur, rfl, rfl, hB, hg⟩
theorem OwnS.vk {B B' r : Nat} {nv v : Value} {l : List ByteArray} {L : List Cel} {W W' : World} (hn : OwnS B nv l W) (hc : OwnC B' v L W) (hk : VK r v W W') (hr : r < B) : OwnS B nv l W' := by
  have hap := apartS hn hc
  obtain ⟨h1, h2⟩ := hn
  refine ⟨h1, ?_⟩
  rcases h2 with h2 | ⟨g, cap, cur, rfl, hB, hg, hrest⟩
  · exact Or.inl h2
  · exact Or.inr ⟨g, cap, cur, rfl, hB, hk.2 g _ hg (by omega) (fun e => hap g rfl e), hrest⟩
/-! ### cells are set -/
theorem celFlat_set0 : ∀ (L : List Cel) (k : Nat) (c : UInt8), celFlat (L.modify k fun x => { x with kind := c }) = (celFlat L).set (k * 5) (.int .u8 (c.toNat : Int))
  | [], k, c => by simp [celFlat]
  | t :: r, 0, c => by simp [celFlat, List.modify_zero_cons]
  | t :: r, k + 1, c => by
    rw [List.modify_succ_cons, celFlat, celFlat, celFlat_set0 r k c, show (k + 1) * 5 = k * 5 + 1 + 1 + 1 + 1 + 1 from by omega]
    simp only [List.set_cons_succ]
theorem celFlat_set2 : ∀ (L : List Cel) (k : Nat) (x : List UInt8), celFlat (L.modify k fun c => { c with text := x }) = (celFlat L).set (k * 5 + 2) (.string ⟨x.toArray⟩)
  | [], k, c => by simp [celFlat]
  | t :: r, 0, c => by simp [celFlat, List.modify_zero_cons]
  | t :: r, k + 1, c => by
    rw [List.modify_succ_cons, celFlat, celFlat, celFlat_set2 r k c, show (k + 1) * 5 + 2 = k * 5 + 2 + 1 + 1 + 1 + 1 + 1 from by omega]
    simp only [List.set_cons_succ]
theorem celFlat_set3 : ∀ (L : List Cel) (k : Nat) (x : Int), celFlat (L.modify k fun c => { c with num := x }) = (celFlat L).set (k * 5 + 3) (.int .i64 x)
  | [], k, c => by simp [celFlat]
  | t :: r, 0, c => by simp [celFlat, List.modify_zero_cons]
  | t :: r, k + 1, c => by
    rw [List.modify_succ_cons, celFlat, celFlat, celFlat_set3 r k c, show (k + 1) * 5 + 3 = k * 5 + 3 + 1 + 1 + 1 + 1 + 1 from by omega]
    simp only [List.set_cons_succ]
theorem celFlat_set4 : ∀ (L : List Cel) (k : Nat) (x : Int), celFlat (L.modify k fun c => { c with many := x }) = (celFlat L).set (k * 5 + 4) (.int .i64 x)
  | [], k, c => by simp [celFlat]
  | t :: r, 0, c => by simp [celFlat, List.modify_zero_cons]
  | t :: r, k + 1, c => by
    rw [List.modify_succ_cons, celFlat, celFlat, celFlat_set4 r k c, show (k + 1) * 5 + 4 = k * 5 + 4 + 1 + 1 + 1 + 1 + 1 from by omega]
    simp only [List.set_cons_succ]
/-- The own block, and the cells of one place. -/
theorem OwnC.form {B : Nat} {v : Value} {L : List Cel} {W : World} (h : OwnC B v L W) (k : Nat) (hk : k < L.length) : ∃ g cap, v = .slice (some ⟨g, 0, none⟩) L.length cap ∧ B ≤ g ∧ g < W.heap.size ∧ (∀ i, W.frozen? ⟨g, i, none⟩ = false) ∧
    W.cell? ⟨g, k * 5, none⟩ = some (.int .u8 (L[k].kind.toNat : Int)) ∧ W.cell? ⟨g, k * 5 + 2, none⟩ = some (.string ⟨L[k].text.toArray⟩) ∧ W.cell? ⟨g, k * 5 + 3, none⟩ = some (.int .i64 L[k].num) ∧ W.cell? ⟨g, k * 5 + 4, none⟩ = some (.int .i64 L[k].many) := by
  obtain ⟨h1, h2⟩ := h
  rcases h2 with ⟨rfl, h2⟩ | ⟨g, cap, cur, rfl, hB, hg, hn, hc, hcs, ht⟩
  · omega
  refine ⟨g, cap, rfl, hB, heap_lt hg, fun i => Lib.frozen_of_heap hg i, ?_⟩
  obtain ⟨g0, g1, g2, g3, g4⟩ := celFlat_get L k hk
  have F : ∀ j u, (celFlat L)[j]? = some u → W.cell? ⟨g, j, none⟩ = some u := by
    intro j u hj
    have hjl : j < L.length * 5 := by rw [← celFlat_len]; exact (List.getElem?_eq_some_iff.1 hj).1
    rw [← ht, List.getElem?_take, if_pos hjl] at hj
    refine (Lib.cell_of_heap hg j).trans ?_
    simpa using hj
  exact ⟨F _ _ g0, F _ _ g2, F _ _ g3, F _ _ g4⟩
theorem OwnC.set {B g i m cap : Nat} {v u : Value} {L L' : List Cel} {W : World} (h : OwnC B v L W) (hv : v = .slice (some ⟨g, 0, none⟩) m cap) (hl : L'.length = L.length) (hf : celFlat L' = (celFlat L).set i u) : OwnC B v L' (W.setCell ⟨g, i, none⟩ u) := by
  obtain ⟨h1, h2⟩ := h
  refine ⟨by rw [hl, hf, List.length_set]; exact h1, ?_⟩
  rcases h2 with ⟨rfl, h2⟩ | ⟨g', cap', cur, hv', hB, hg, hn, hc, hcs, ht⟩
  · cases hv
  · have e : g' = g := by rw [hv] at hv'; injection hv' with hv'; injection hv' with hv'; injection hv' with hv'; exact hv'.symm
    subst e
    refine Or.inr ⟨g', cap', cur.setIfInBounds i u, by rw [hl]; exact hv', hB, pset hg u rfl, by rw [hl]; exact hn, hc, by simp [hcs], ?_⟩
    rw [hl, hf, ← ht]
    simp [List.take_set]
theorem VK.set {r g i m cap : Nat} {v u : Value} {W : World} (hv : v = .slice (some ⟨g, 0, none⟩) m cap) (hr : r < g) : VK r v W (W.setCell ⟨g, i, none⟩ u) := by
  refine ⟨(Below.refl r W).setCell (p := ⟨g, i, none⟩) (Nat.le_of_lt hr) u, fun k o hk hne hvk => ?_⟩
  rw [Below.heap_setCell _ _ _ _ (fun e => hvk (by rw [hv]; simp only [Value.ownBlock]; first | exact congrArg some e | exact congrArg some e.symm))]
  exact hk
theorem RdR.out_ {r : Nat} {s : ByteArray} {at_ : Nat} {v : Value} {e : Int} {W : World} (h : RdR r s at_ v e W) (v' : Value) : RdR r s at_ v' e (W.setCell ⟨r, 2, none⟩ v') := pset h _ rfl
theorem StE.out_ {r : Nat} {s : ByteArray} {v : Value} {E : Ex} {W : World} (h : StE r s v E W) (v' : Value) : StE r s v' E (W.setCell ⟨r, 2, none⟩ v') := by
  cases E with
  | error e => obtain ⟨h0, a, h1, h⟩ := h; exact ⟨h0, a, h1, h.out_ v'⟩
  | ok l => obtain ⟨a, h0, h1, h⟩ := h; exact ⟨a, h0, h1, h.out_ v'⟩
/-- The reader's state, behind a world that it began in. -/
structure VS (r : Nat) (s : ByteArray) (w : World) (v0 v : Value) (out : List Cel) (E : Ex) (W : World) : Prop where
  st : StE r s v E W
  own : OwnC (r + 1) v out W
  vk : VK r v0 w W
  ob : ∀ k, v.ownBlock = some k → v0.ownBlock = some k ∨ w.heap.size ≤ k
section
variable {r : Nat} {s : ByteArray} {w : World} {v0 v : Value} {out : List Cel} {E E' : Ex} {W W' : World}
theorem VS.size (h : VS r s w v0 v out E W) : w.heap.size ≤ W.heap.size := h.vk.1.size
theorem VS.rk (h : VS r s w v0 v out E W) (hs : StE r s v E' W') (hk : RK r W W') : VS r s w v0 v out E' W' := ⟨hs, h.own.rk hk (Nat.lt_succ_self r), h.vk.rk hk, h.ob⟩
theorem VS.below (h : VS r s w v0 v out E W) (hb : Below W.heap.size W W') : VS r s w v0 v out E W' := h.rk (h.st.below hb) (RK.of_below hb h.st.lt)
theorem VS.alloc (h : VS r s w v0 v out E W) (o : Obj) : VS r s w v0 v out E (W.alloc o) := h.below ((Below.refl W.heap.size W).alloc (Nat.le_refl _) _)
theorem VS.drewN (h : VS r s w v0 v out E W) (n : Nat) : VS r s w v0 v out E (W.drewN n) := h.below (below_dN n (Below.refl _ _))
/-- The cells have grown, and the reader holds them. -/
theorem VS.grown {v' : Value} {out' : List Cel} {H : Nat} (h : VS r s w v0 v out E W) (ho : OwnC (r + 1) v' out' W') (hg : W.grownBy W' v.ownBlock) (hat : v'.ownBlock = v.ownBlock ∨ v'.ownBlock = some H) (hH : W.heap.size = H) : VS r s w v0 v' out' E (W'.setCell ⟨r, 2, none⟩ v') := by
  have hlt := h.st.lt
  have hne : some r ≠ v.ownBlock := fun e => by
    rcases own_some h.own with h0 | ⟨g, _, _, _, h0, h1, _⟩
    · rw [h0] at e; cases e
    · rw [h0] at e; injection e with e; omega
  have hst : StE r s v E W' := h.st.same (hg.block r hlt hne)
  have hvk : VK r v W W' := by
    refine ⟨(Below.refl r W).grown hg (Nat.le_of_lt hlt) (fun k hk => ?_), fun k o hk hne2 hv => ?_⟩
    · rcases own_some h.own with h0 | ⟨g, _, _, _, h0, h1, _⟩
      · rw [h0] at hk; cases hk
      · rw [h0] at hk; injection hk with hk; omega
    · rw [hg.block k (heap_lt hk) (fun e => hv e.symm)]; exact hk
  refine ⟨hst.out_ v', ho.rk (RK.set r 2 _ _) (Nat.lt_succ_self r), (h.vk.trans hvk h.ob).rk (RK.set r 2 _ _), fun k hk => ?_⟩
  rcases hat with e | e
  · exact h.ob k (e ▸ hk)
  · rw [e] at hk; injection hk with hk
    have := h.size
    rw [hH] at this
    exact Or.inr (by omega)
/-- A field of a cell has been set. -/
theorem VS.set {g i m cap : Nat} {u : Value} {out' : List Cel} (h : VS r s w v0 v out E W) (hv : v = .slice (some ⟨g, 0, none⟩) m cap) (hr : r < g) (hl : out'.length = out.length) (hf : celFlat out' = (celFlat out).set i u) : VS r s w v0 v out' E (W.setCell ⟨g, i, none⟩ u) := by
  refine ⟨h.st.same ?_, h.own.set hv hl hf, h.vk.trans (VK.set hv hr) h.ob, h.ob⟩
  exact Below.heap_setCell _ _ _ _ (by show r ≠ g; omega)
/-- Names have grown. -/
theorem VS.names {nv : Value} {l : List ByteArray} (h : VS r s w v0 v out E W) (hn : OwnS w.heap.size nv l W) (hg : W.grownBy W' nv.ownBlock) (hr : r < w.heap.size) : VS r s w v0 v out E W' := by
  have hge : ∀ k, nv.ownBlock = some k → w.heap.size ≤ k := hn.lt
  refine ⟨h.st.same (hg.block r h.st.lt (fun e => by have := hge r e.symm; omega)), ?_, ?_, h.ob⟩
  · have hap := apartS hn h.own
    obtain ⟨h1, h2⟩ := h.own
    refine ⟨h1, ?_⟩
    rcases h2 with h2 | ⟨g, cap, cur, rfl, hB, hg', hrest⟩
    · exact Or.inl h2
    · exact Or.inr ⟨g, cap, cur, rfl, hB, (hg.block g (heap_lt hg') (fun e => hap g e.symm rfl)).trans hg', hrest⟩
  · have hs := h.size
    refine ⟨h.vk.1.grown hg (by omega) (fun k hk => by have := hge k hk; omega), fun k o hk hne hv => ?_⟩
    have h1 := h.vk.2 k o hk hne hv
    have hkl := heap_lt hk
    rw [hg.block k (heap_lt h1) (fun e => by have := hge k e.symm; omega)]
    exact h1
end
/-- 'append(v, x)' of one cell that was just laid: where the new slice lies. -/
theorem wpList_pushC {ops : Array Oper} {rest : List Oper} {o : Oper} {a : Act} {Q : Exit → Act → World → Prop} {w : World} (hgd : o.guard = none) (s x : Operand)
    (ho : o.op = .call { callee := .builtin .append, args := #[s, x], argTypes := #[22, 22] }) (B : Nat) (v : Value) (L : List Cel) (hs : a.eval s = v) (hown : OwnC B v L w)
    (g c : Nat) (n : List UInt8) (hx : a.eval x = .slice (some ⟨g, 0, none⟩) 1 c) (hnew : w.heap[g]? = some (.cells #[.int .u8 0, .string ⟨n.toArray⟩, .string ⟨#[]⟩, .int .i64 0, .int .i64 0] 41 (0, 0))) (hlen : L.length + 1 ≤ 1000000) (hB : B ≤ w.heap.size)
    (h : ∀ v' w', OwnC B v' (L ++ [⟨0, n, [], 0, 0⟩]) w' → w.grownBy w' v.ownBlock → (v'.ownBlock = v.ownBlock ∨ v'.ownBlock = some w.heap.size) → wpList Tryz.prog ops Q rest (a.put o.dst v') w') : wpList Tryz.prog ops Q (o :: rest) a w := by
  obtain ⟨i0, hi, hz0, hz1, hz2⟩ := info_parts cel_info
  refine wpList_append_own_at w hgd s x 22 ho B 41 i0 (.agg #[.int .u8 0, .string ⟨#[]⟩, .string ⟨#[]⟩, .int .i64 0, .int .i64 0]) 5 56 Tryz.underlying22 hi hz0 hz1 hz2 rfl (by decide) v L.length (celFlat L) hs hown ⟨g, 0, none⟩ 1 c (celFlat [⟨0, n, [], 0, 0⟩]) hx rfl ?_ (celFlat_one _) (by unfold maxLen; omega) (by omega) hB ?_
  · intro j u hj
    rw [addr_add, Nat.zero_add, Lib.cell_of_heap hnew]
    match j, hj with
    | 0, hj => simpa [celFlat] using hj
    | 1, hj => simpa [celFlat] using hj
    | 2, hj => simpa [celFlat] using hj
    | 3, hj => simpa [celFlat] using hj
    | 4, hj => simpa [celFlat] using hj
    | j + 5, hj => simp [celFlat] at hj
  · intro v' w' h1 h2 _ h4
    refine h v' w' ?_ h2 h4
    unfold OwnC
    rw [List.length_append, celFlat_app]
    exact h1
end Go.Proofs.YtglhanblbojkhaaGreatDoor
