/- Slices of bytes that the call itself makes: what they hold as a list of bytes; append, string(b). -/
import Derived.WalkKit
import Derived.WalkSpells
import Derived.Handy
import Derived.Lib.Hide
import Derived.Lib.UnsafeStr
import Derived.Lib.BufferRead
import Derived.Laws.IdiomStrings
import Derived.Laws.AppendOwn
import Derived.OwnWalk
import Derived.Laws.Rows
import Derived.Test.YtpkkejcndmcbiaaGreatDoorRows
set_option linter.unusedSimpArgs false
set_option linter.unusedVariables false
namespace Go.Proofs.YtpkkejcndmcbiaaGreatDoor
open Go.RowKit
theorem u8_info : (Tryz.prog.info? 5).map (fun i => (i.zero, i.size, i.bytes)) = some (some (.int .u8 0), 1, 1) := by kernel_rfl
/-- A slice of bytes of the call's own, from a block on, that reads as a list. -/
def Own (B : Nat) (v : Value) (l : List UInt8) (W : World) : Prop := W.ownsRow B 5 1 v l.length (Lib.byteCells l)
theorem Own.nil (B : Nat) (W : World) : Own B (.slice none 0 0) [] W := World.ownsRow_nil W B 5 1
theorem Own.below {B : Nat} {v : Value} {l : List UInt8} {w w' : World} (h : Own B v l w) (hb : Below w.heap.size w w') : Own B v l w' := by
  obtain ⟨h1, h2⟩ := h
  refine ⟨h1, ?_⟩
  rcases h2 with h2 | ⟨g, cap, cur, hv, hB, hg, hrest⟩
  · exact Or.inl h2
  · have hlt : g < w.heap.size := (Array.getElem?_eq_some_iff.1 hg).1
    exact Or.inr ⟨g, cap, cur, hv, hB, (hb.block g hlt).trans hg, hrest⟩
theorem Own.alloc {B : Nat} {v : Value} {l : List UInt8} {w : World} (h : Own B v l w) (o : Obj) : Own B v l (w.alloc o) := World.ownsRow.alloc h o
theorem Own.drew {B : Nat} {v : Value} {l : List UInt8} {w : World} (h : Own B v l w) : Own B v l w.drew := h
theorem Own.lt {B : Nat} {v : Value} {l : List UInt8} {w : World} (h : Own B v l w) : ∀ k, v.ownBlock = some k → B ≤ k := fun k hk => (World.ownsRow.lt h k hk).1
/-- A slice of bytes that was just laid. -/
theorem Own.fresh {l : List UInt8} {C : Array Value} {k : Nat} (hk : k = l.length) (hC : C.toList = Lib.byteCells l) (hl : l.length ≤ 1000000000) (W : World) : Own W.heap.size (.slice (some ⟨W.heap.size, 0, none⟩) k k) l (W.alloc (.cells C 5)) := by
  have hs : C.size = l.length := by
    have := congrArg List.length hC
    simpa [Lib.byteCells] using this
  refine ⟨by simp [Lib.byteCells], Or.inr ⟨W.heap.size, k, C, by rw [hk], Nat.le_refl _, heap_alloc_new W _, by omega, by unfold maxLen; omega, by omega, ?_⟩⟩
  rw [List.take_of_length_le (by simp; omega)]
  exact hC
/-- 'append(v, x..)' of bytes that stand in a row. -/
theorem wpList_push {ops : Array Oper} {rest : List Oper} {o : Oper} {a : Act} {Q : Exit → Act → World → Prop} {w : World} (hgd : o.guard = none) (s x : Operand)
    (ho : o.op = .call { callee := .builtin .append, args := #[s, x], argTypes := #[143, 143] }) (B : Nat) (v : Value) (l : List UInt8) (hs : a.eval s = v) (hown : Own B v l w)
    (ad : Addr) (c : Nat) (news : List UInt8) (hx : a.eval x = .slice (some ad) news.length c) (hnew : ∀ j (h : j < news.length), w.cell? (ad.add j) = some (.int .u8 (news[j].toNat : Int))) (hlen : l.length + news.length ≤ 1000000000) (hB : B ≤ w.heap.size)
    (h : ∀ v' w', Own B v' (l ++ news) w' → w.grownBy w' v.ownBlock → wpList Tryz.prog ops Q rest (a.put o.dst v') w') : wpList Tryz.prog ops Q (o :: rest) a w := by
  obtain ⟨i0, hi, hz0, hz1, hz2⟩ := info_parts u8_info
  refine wpList_append_own w hgd s x 143 ho B 5 i0 (.int .u8 0) 1 1 Tryz.underlying143 hi hz0 hz1 hz2 rfl (by decide) v l.length (Lib.byteCells l) hs hown ad news.length c (Lib.byteCells news) hx (by simp [Lib.byteCells]) ?_ ?_ (by unfold maxLen; omega) (by omega) hB ?_
  · intro j u hj
    have hl : j < news.length := by
      have := (List.getElem?_eq_some_iff.1 hj).1
      simpa [Lib.byteCells] using this
    rw [hnew j hl]
    unfold Lib.byteCells at hj
    rw [List.getElem?_map, List.getElem?_eq_getElem hl] at hj
    exact hj
  · intro u hu
    unfold Lib.byteCells at hu
    obtain ⟨b, _, rfl⟩ := List.mem_map.1 hu
    rfl
  · intro v' w' h1 h2 _
    refine h v' w' ?_ h2
    unfold Own Lib.byteCells at *
    rw [List.length_append, List.map_append]
    exact h1
/-- 'append(v, x..)' of bytes that stand in a row. -/
theorem wp_push {o : Oper} {a : Act} {K : Act → World → Prop} {Q : Exit → Act → World → Prop} {w : World} (s x : Operand)
    (ho : o.op = .call { callee := .builtin .append, args := #[s, x], argTypes := #[143, 143] }) (B : Nat) (v : Value) (l : List UInt8) (hs : a.eval s = v) (hown : Own B v l w)
    (ad : Addr) (c : Nat) (news : List UInt8) (hx : a.eval x = .slice (some ad) news.length c) (hnew : ∀ j (h : j < news.length), w.cell? (ad.add j) = some (.int .u8 (news[j].toNat : Int))) (hlen : l.length + news.length ≤ 1000000000) (hB : B ≤ w.heap.size)
    (h : ∀ v' w', Own B v' (l ++ news) w' → w.grownBy w' v.ownBlock → K (a.put o.dst v') w') : o.wp Tryz.prog a w K Q := by
  obtain ⟨i0, hi, hz0, hz1, hz2⟩ := info_parts u8_info
  refine wp_append_own w s x 143 ho B 5 i0 (.int .u8 0) 1 1 Tryz.underlying143 hi hz0 hz1 hz2 rfl (by decide) v l.length (Lib.byteCells l) hs hown ad news.length c (Lib.byteCells news) hx (by simp [Lib.byteCells]) ?_ ?_ (by unfold maxLen; omega) (by omega) hB ?_
  · intro j u hj
    have hl : j < news.length := by
      have := (List.getElem?_eq_some_iff.1 hj).1
      simpa [Lib.byteCells] using this
    rw [hnew j hl]
    unfold Lib.byteCells at hj
    rw [List.getElem?_map, List.getElem?_eq_getElem hl] at hj
    exact hj
  · intro u hu
    unfold Lib.byteCells at hu
    obtain ⟨b, _, rfl⟩ := List.mem_map.1 hu
    rfl
  · intro v' w' h1 h2 _
    refine h v' w' ?_ h2
    unfold Own Lib.byteCells at *
    rw [List.length_append, List.map_append]
    exact h1
theorem run_convert_own {B : Nat} {v : Value} {l : List UInt8} {w : World} (h : Own B v l w) : (convert 143 9 v).run Tryz.prog w = .ok (.string ⟨l.toArray⟩) w := by
  obtain ⟨h1, h2⟩ := h
  rcases h2 with ⟨rfl, h2⟩ | ⟨g, cap, cur, rfl, hB, hg, hn, hc, hcs, ht⟩
  · have : l = [] := List.eq_nil_of_length_eq_zero h2
    subst this
    exact Lib.run_convert_nil_bytes w 143 9 5 0 Tryz.underlying143 Tryz.underlying5 Tryz.underlying9
  · exact Go.run_convert_bytes_back w 143 9 5 ⟨g, 0, none⟩ cap l Tryz.underlying143 Tryz.underlying5 Tryz.underlying9 (Lib.bytes_of_row hg (by rw [Nat.mul_one] at ht; exact ht))
/-- The cells of bytes that were just laid. -/
theorem new_bytes (W : World) (T : TypeId) (news : List UInt8) : ∀ j (h : j < news.length), (W.alloc (.cells (news.map (fun b => Value.int .u8 (b.toNat : Int))).toArray T)).cell? ((⟨W.heap.size, 0, none⟩ : Addr).add j) = some (.int .u8 (news[j].toNat : Int)) := by
  intro j h
  have e : (W.alloc (.cells (news.map (fun b => Value.int .u8 (b.toNat : Int))).toArray T)).heap[W.heap.size]? = some (.cells (news.map (fun b => Value.int .u8 (b.toNat : Int))).toArray T (0, 0)) := heap_alloc_new W _
  have ha : (⟨W.heap.size, 0, none⟩ : Addr).add j = ⟨W.heap.size, j, none⟩ := by
    unfold Addr.add
    split
    · rename_i h0; rw [h0]
    · simp
  rw [ha]
  refine (Lib.cell_of_heap e j).trans ?_
  simp [h]
end Go.Proofs.YtpkkejcndmcbiaaGreatDoor
