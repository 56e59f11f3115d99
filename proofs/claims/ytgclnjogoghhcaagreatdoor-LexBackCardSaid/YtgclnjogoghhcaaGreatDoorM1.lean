/- Walks and plain laws of this proof, joined from smaller texts (1). -/
import Derived.WalkKit
import Derived.WalkSpells
import Derived.Handy
import Derived.Lib.Hide
import Derived.Lib.UnsafeStr
import Derived.Lib.BufferRead
import Derived.Laws.IdiomStrings
import Derived.Laws.AppendOwn
import Derived.OwnWalk
import Derived.Laws.Rows
import Derived.Test.YtgclnjogoghhcaaGreatDoorRows
import Derived.Maps.AppendAt
import Derived.Laws.OwnMore
import Derived.Laws.AppendOwnNone
import Derived.Lib.Bytealg
import Derived.Lib.Strings
import Derived.Lib.IndexBytes
import Derived.Test.YtgclnjogoghhcaaGreatDoorShelf
import Derived.ProofKit
import Derived.OpenShut
import Derived.Lib.SmallJoins
import Derived.Deep.Slices
import Derived.Deep.Fields
import Derived.ChangeSame
import Derived.Test.YtgclnjogoghhcaaGreatDoorK5
set_option linter.unusedSimpArgs false
set_option linter.unusedVariables false
namespace Go.Proofs.YtgclnjogoghhcaaGreatDoor
open Go.RowKit
theorem u8_info : (Tryz.prog.info? 5).map (fun i => (i.zero, i.size, i.bytes)) = some (some (.int .u8 0), 1, 1) := by kernel_rfl
/-- A slice of bytes that was just laid. -/
theorem Own.fresh {l : List UInt8} {C : Array Value} {k : Nat} (hk : k = l.length) (hC : C.toList = Lib.byteCells l) (hl : l.length ≤ 1000000000) (W : World) : Own W.heap.size (.slice (some ⟨W.heap.size, 0, none⟩) k k) l (W.alloc (.cells C 5)) := by
  have hs : C.size = l.length := by
    have := congrArg List.length hC
    simpa [Lib.byteCells] using this
  refine ⟨by simp [Lib.byteCells], Or.inr ⟨W.heap.size, k, C, by rw [hk], Nat.le_refl _, heap_alloc_new W _, by omega, by unfold maxLen; omega, by omega, ?_⟩⟩
  rw [List.take_of_length_le (by simp; omega)]
  exact hC
/-- 'append(v, x..)' of bytes that stand in a row. -/
theorem wpList_push {ops : Array Oper} {rest : List Oper} {o : Oper} {a : Act} {Q : Exit → Act → World → Prop} {w : World} (hgd : o.guard = none) (s x : Operand)
    (ho : o.op = .call { callee := .builtin .append, args := #[s, x], argTypes := #[68, 68] }) (B : Nat) (v : Value) (l : List UInt8) (hs : a.eval s = v) (hown : Own B v l w)
    (ad : Addr) (c : Nat) (news : List UInt8) (hx : a.eval x = .slice (some ad) news.length c) (hnew : ∀ j (h : j < news.length), w.cell? (ad.add j) = some (.int .u8 (news[j].toNat : Int))) (hlen : l.length + news.length ≤ 1000000000) (hB : B ≤ w.heap.size)
    (h : ∀ v' w', Own B v' (l ++ news) w' → w.grownBy w' v.ownBlock → wpList Tryz.prog ops Q rest (a.put o.dst v') w') : wpList Tryz.prog ops Q (o :: rest) a w := by
  obtain ⟨i0, hi, hz0, hz1, hz2⟩ := info_parts u8_info
  refine wpList_append_own w hgd s x 68 ho B 5 i0 (.int .u8 0) 1 1 Tryz.underlying68 hi hz0 hz1 hz2 rfl (by decide) v l.length (Lib.byteCells l) hs hown ad news.length c (Lib.byteCells news) hx (by simp [Lib.byteCells]) ?_ ?_ (by unfold maxLen; omega) (by omega) hB ?_
  · intro j u hj
    have hl : j < news.length := by
      have := (List.getElem?_eq_some_iff.1 hj).1
      simpa [Lib.byteCells] using this
    rw [hnew j hl]
    unfold Lib.byteCells at hj
    rw [List.getElem?_map, List.getElem?_eq_getElem hl] at hj
    exact hj
  · intro u hu
    unfold Lib.byteCells at hu
    obtain ⟨b, _, rfl⟩ := List.mem_map.1 hu
    rfl
  · intro v' w' h1 h2 _
    refine h v' w' ?_ h2
    unfold Own Lib.byteCells at *
    rw [List.length_append, List.map_append]
    exact h1
/-- 'append(v, x..)' of bytes that stand in a row. -/
theorem wp_push {o : Oper} {a : Act} {K : Act → World → Prop} {Q : Exit → Act → World → Prop} {w : World} (s x : Operand)
    (ho : o.op = .call { callee := .builtin .append, args := #[s, x], argTypes := #[68, 68] }) (B : Nat) (v : Value) (l : List UInt8) (hs : a.eval s = v) (hown : Own B v l w)
    (ad : Addr) (c : Nat) (news : List UInt8) (hx : a.eval x = .slice (some ad) news.length c) (hnew : ∀ j (h : j < news.length), w.cell? (ad.add j) = some (.int .u8 (news[j].toNat : Int))) (hlen : l.length + news.length ≤ 1000000000) (hB : B ≤ w.heap.size)
    (h : ∀ v' w', Own B v' (l ++ news) w' → w.grownBy w' v.ownBlock → K (a.put o.dst v') w') : o.wp Tryz.prog a w K Q := by
  obtain ⟨i0, hi, hz0, hz1, hz2⟩ := info_parts u8_info
  refine wp_append_own w s x 68 ho B 5 i0 (.int .u8 0) 1 1 Tryz.underlying68 hi hz0 hz1 hz2 rfl (by decide) v l.length (Lib.byteCells l) hs hown ad news.length c (Lib.byteCells news) hx (by simp [Lib.byteCells]) ?_ ?_ (by unfold maxLen; omega) (by omega) hB ?_
  · intro j u hj
    have hl : j < news.length := by
      have := (List.getElem?_eq_some_iff.1 hj).1
      simpa [Lib.byteCells] using this
    rw [hnew j hl]
    unfold Lib.byteCells at hj
    rw [List.getElem?_map, List.getElem?_eq_getElem hl] at hj
    exact hj
  · intro u hu
    unfold Lib.byteCells at hu
    obtain ⟨b, _, rfl⟩ := List.mem_map.1 hu
    rfl
  · intro v' w' h1 h2 _
    refine h v' w' ?_ h2
    unfold Own Lib.byteCells at *
    rw [List.length_append, List.map_append]
    exact h1
/-- The cells of bytes that were just laid. -/
theorem new_bytes (W : World) (T : TypeId) (news : List UInt8) : ∀ j (h : j < news.length), (W.alloc (.cells (news.map (fun b => Value.int .u8 (b.toNat : Int))).toArray T)).cell? ((⟨W.heap.size, 0, none⟩ : Addr).add j) = some (.int .u8 (news[j].toNat : Int)) := by
  intro j h
  have e : (W.alloc (.cells (news.map (fun b => Value.int .u8 (b.toNat : Int))).toArray T)).heap[W.heap.size]? = some (.cells (news.map (fun b => Value.int .u8 (b.toNat : Int))).toArray T (0, 0)) := heap_alloc_new W _
  have ha : (⟨W.heap.size, 0, none⟩ : Addr).add j = ⟨W.heap.size, j, none⟩ := by
    unfold Addr.add
    split
    · rename_i h0; rw [h0]
    · simp
  rw [ha]
  refine (Lib.cell_of_heap e j).trans ?_
  simp [h]
end Go.Proofs.YtgclnjogoghhcaaGreatDoor
namespace Go.Proofs.YtgclnjogoghhcaaGreatDoor
open Go.Lib
/-- What counts for nothing, five ways. -/
def blanksL : List (List UInt8) := [[32], [9, 44], [13, 10], [35, 120, 32, 34, 10], [239, 187, 191]]
def blankP (k : Nat) : List UInt8 := blanksL.getD (k % 5) []
theorem blankP_cases (P : List UInt8 → Prop) (h0 : P [32]) (h1 : P [9, 44]) (h2 : P [13, 10]) (h3 : P [35, 120, 32, 34, 10]) (h4 : P [239, 187, 191]) (k : Nat) : P (blankP k) := by
  unfold blankP
  have hk : k % 5 < 5 := Nat.mod_lt _ (by decide)
  generalize k % 5 = i at hk
  match i, hk with
  | 0, _ => exact h0
  | 1, _ => exact h1
  | 2, _ => exact h2
  | 3, _ => exact h3
  | 4, _ => exact h4
/-- Behind each of them, what stands next stays: a token's first byte, or nothing. -/
theorem hid_put (X : List UInt8) (hX : hid0 X = X) : hid0 (32 :: X) = X ∧ hid0 (9 :: 44 :: X) = X ∧ hid0 (13 :: 10 :: X) = X ∧ hid0 (10 :: X) = X ∧ hid0 (239 :: 187 :: 191 :: X) = X := by
  refine ⟨?_, ?_, ?_, ?_, ?_⟩
  · rw [hid_cons, if_pos (by decide), hX]
  · rw [hid_cons, if_pos (by decide), hid_cons, if_pos (by decide), hX]
  · rw [hid_cons, if_pos (by decide), hid_cons, if_pos (by decide), hX]
  · rw [hid_cons, if_pos (by decide), hX]
  · rw [hid_cons, if_neg (by decide), if_pos (by simp [bomL, List.isPrefixOf])]
    exact hX
theorem skip_line (X : List UInt8) : skip0 (35 :: 120 :: 32 :: 34 :: 10 :: X) = skipG (X.length + 5) (10 :: X) := by
  unfold skip0
  rw [skipG]
  have : hid0 (35 :: 120 :: 32 :: 34 :: 10 :: X) = 35 :: 120 :: 32 :: 34 :: 10 :: X := by
    rw [hid_cons, if_neg (by decide), if_neg (by simp [bomL, List.isPrefixOf])]
  rw [this]
  simp only
  rw [if_pos trivial]
  have ht : (35 :: 120 :: 32 :: 34 :: 10 :: X).takeWhile lineC = [35, 120, 32, 34] := rfl
  have hd : (35 :: 120 :: 32 :: 34 :: 10 :: X).dropWhile lineC = 10 :: X := rfl
  rw [ht, hd, if_neg (by decide)]
  rfl
theorem skip_put (k : Nat) (X : List UInt8) (h : X = [] ∨ ∃ c r, X = c :: r ∧ begC c = true) : skip0 (blankP k ++ X) = (X, true) := by
  have hX : hid0 X = X := by
    rcases h with rfl | ⟨c, r, rfl, hb⟩
    · rfl
    · exact hid_beg c r hb
  obtain ⟨h0, h1, h2, h3, h4⟩ := hid_put X hX
  have one : ∀ (f : Nat) (Y : List UInt8), hid0 Y = X → skipG (f + 1) Y = (X, true) := by
    intro f Y hY
    rw [skipG, hY]
    rcases h with rfl | ⟨c, r, rfl, hb⟩
    · rfl
    · simp only
      unfold begC at hb
      simp only [Bool.and_eq_true, Bool.not_eq_true', bne_iff_ne] at hb
      rw [if_neg hb.1.2]
  refine blankP_cases (fun p => skip0 (p ++ X) = (X, true)) ?_ ?_ ?_ ?_ ?_ k
  · exact one _ _ h0
  · exact one _ _ h1
  · exact one _ _ h2
  · show skip0 (35 :: 120 :: 32 :: 34 :: 10 :: X) = (X, true)
    rw [skip_line]
    exact one _ _ h3
  · exact one _ _ h4
theorem put_end (k : Nat) (X : List UInt8) : BlankR (blankP k ++ X) := by
  refine blankP_cases (fun p => BlankR (p ++ X)) ?_ ?_ ?_ ?_ ?_ k <;>
    (intro c hc; injection hc with hc; subst hc; decide)
theorem put_valid (k : Nat) (X : List UInt8) : validD (blankP k ++ X) = validD X := by
  refine blankP_cases (fun p => validD (p ++ X) = validD X) ?_ ?_ ?_ ?_ ?_ k
  · exact valid_ascii _ X (by decide)
  · exact valid_ascii _ X (by decide)
  · exact valid_ascii _ X (by decide)
  · exact valid_ascii _ X (by decide)
  · have : ([239, 187, 191] : List UInt8) = encN 65279 := by decide +kernel
    rw [this]
    exact valid_enc 65279 (by decide) X
/-- Tokens, and ahead of each what counts for nothing. -/
def putT : Nat → List Tok → List UInt8
  | _, [] => []
  | k, t :: r => blankP k ++ (tellT t ++ putT (k + 1) r)
theorem lex_put (f a k : Nat) (t : Tok) (r : List UInt8) (acc : List Tok) (ht : okT t = true) (hk : t.kind ≠ 0) (hl : (tellT t).length ≤ 16384) (hr : BlankR r) :
    lexG (f + 1) a (blankP k ++ (tellT t ++ r)) acc = lexG f (a + (blankP k).length + (tellT t).length) r (acc ++ [⟨t.kind, t.text, ((a + (blankP k).length : Nat) : Int)⟩]) := by
  obtain ⟨⟨c, x, hx, hb⟩, _⟩ := tell_beg t ht hk
  have hs : skip0 (blankP k ++ (tellT t ++ r)) = (tellT t ++ r, true) := skip_put k _ (Or.inr ⟨c, x ++ r, by rw [hx]; rfl, hb⟩)
  have he : (tellT t ++ r).isEmpty = false := by rw [hx]; rfl
  rw [lexG, hs]
  simp only [Bool.not_true, Bool.false_eq_true, if_false, he]
  rw [tok_of t r ht hk hl hr]
  simp only
  have hlen : a + ((blankP k ++ (tellT t ++ r)).length - (tellT t ++ r).length) = a + (blankP k).length := by simp only [List.length_append]; omega
  rw [hlen, List.drop_left]
theorem tell_end (e : Tok) (he : kt e = (0, [])) : tellT e = [] := by
  unfold kt at he
  injection he with h1 h2
  unfold tellT
  rw [if_neg (by rw [h1]; decide), h2]
theorem put_lexes (e : Tok) (he : kt e = (0, [])) : ∀ (M : List Tok) (f a k : Nat) (acc : List Tok), M.length ≤ f → (∀ t ∈ M, okT t = true ∧ t.kind ≠ 0 ∧ (tellT t).length ≤ 16384) → ∃ R, lexG f a (putT k (M ++ [e])) acc = .ok (acc ++ R) ∧ R.map kt = (M ++ [e]).map kt
  | [], f, a, k, acc, _, _ => by
    refine ⟨[⟨0, [], ((a + (blankP k).length : Nat) : Int)⟩], ?_, ?_⟩
    · show lexG f a (blankP k ++ (tellT e ++ [])) acc = _
      rw [tell_end e he, List.nil_append, lexG, skip_put k [] (Or.inl rfl)]
      simp
    · show [((0 : UInt8), ([] : List UInt8))] = [kt e]
      rw [he]
  | t :: M, f, a, k, acc, hf, h => by
    obtain ⟨h1, h2, h3⟩ := h t (by simp)
    obtain ⟨f, rfl⟩ : ∃ j, f = j + 1 := ⟨f - 1, by simp only [List.length_cons] at hf; omega⟩
    simp only [List.length_cons] at hf
    obtain ⟨R, hR, hkt⟩ := put_lexes e he M f (a + (blankP k).length + (tellT t).length) (k + 1) (acc ++ [⟨t.kind, t.text, ((a + (blankP k).length : Nat) : Int)⟩]) (by omega) (fun x hx => h x (by simp [hx]))
    refine ⟨⟨t.kind, t.text, ((a + (blankP k).length : Nat) : Int)⟩ :: R, ?_, ?_⟩
    · have hb : BlankR (putT (k + 1) (M ++ [e])) := by
        cases M with
        | nil => exact put_end (k + 1) _
        | cons u M => exact put_end (k + 1) _
      show lexG (f + 1) a (blankP k ++ (tellT t ++ putT (k + 1) (M ++ [e]))) acc = _
      rw [lex_put f a k t _ acc h1 h2 h3 hb, hR, List.append_assoc]
      rfl
    · rw [List.map_cons, hkt]
      rfl
theorem put_valids (e : Tok) (he : kt e = (0, [])) : ∀ (M : List Tok) (k : Nat), (∀ t ∈ M, okT t = true ∧ t.kind ≠ 0 ∧ (tellT t).length ≤ 16384) → validD (putT k (M ++ [e])) = true
  | [], k, _ => by
    show validD (blankP k ++ (tellT e ++ [])) = true
    rw [put_valid, tell_end e he]; rfl
  | t :: M, k, h => by
    obtain ⟨h1, h2, h3⟩ := h t (by simp)
    show validD (blankP k ++ (tellT t ++ putT (k + 1) (M ++ [e]))) = true
    rw [put_valid, (tell_beg t h1 h2).2]
    exact put_valids e he M (k + 1) fun x hx => h x (by simp [hx])
/-- THE LAW: what is read may be, in order; with what counts for nothing between its tokens it is read as the same tokens. -/
theorem lex_blanks_law (l : List UInt8) (L : List Tok) (hl : l.length ≤ 1024) (h : lex0 l = .ok L) :
    ∃ M e, L = M ++ [e] ∧ kt e = (0, []) ∧ (∀ t ∈ M, okT t = true ∧ t.kind ≠ 0 ∧ (tellT t).length ≤ 16384) ∧ incB (-1) L = true ∧
      ∀ k : Nat, (putT k L).length ≤ 16384 → ∃ R, lex0 (putT k L) = .ok R ∧ R.map kt = L.map kt := by
  unfold lex0 at h
  rw [if_neg (by omega)] at h
  split at h
  · cases h
  obtain ⟨M, e, m1, m2, m3, m4, m5⟩ := lex_ok 1024 0 l [] L (by omega) h
  rw [List.nil_append] at m1
  subst m1
  refine ⟨M, e, rfl, m2, m4, by simpa using m5, fun k hk => ?_⟩
  obtain ⟨R, r1, r2⟩ := put_lexes e m2 M 1024 0 k [] (by omega) m4
  refine ⟨R, ?_, r2⟩
  unfold lex0
  rw [if_neg (by omega), put_valids e m2 M k m4]
  rw [List.nil_append] at r1
  exact r1
end Go.Proofs.YtgclnjogoghhcaaGreatDoor
namespace Go.Proofs.YtgclnjogoghhcaaGreatDoor
open Go.RowKit
theorem str_info : (Tryz.prog.info? 9).map (fun i => (i.zero, i.size, i.bytes)) = some (some (.string ⟨#[]⟩), 1, 16) := by kernel_rfl
theorem wpList_pushS {ops : Array Oper} {rest : List Oper} {o : Oper} {a : Act} {Q : Exit → Act → World → Prop} {w : World} (hgd : o.guard = none) (s x : Operand)
    (ho : o.op = .call { callee := .builtin .append, args := #[s, x], argTypes := #[38, 38] }) (B : Nat) (v : Value) (l : List ByteArray) (hs : a.eval s = v) (hown : OwnS B v l w)
    (ad : Addr) (c : Nat) (n : ByteArray) (hx : a.eval x = .slice (some ad) 1 c) (hnew : w.cell? ad = some (.string n)) (hlen : l.length + 1 ≤ 1000000) (hB : B ≤ w.heap.size)
    (h : ∀ v' w', OwnS B v' (l ++ [n]) w' → w.grownBy w' v.ownBlock → wpList Tryz.prog ops Q rest (a.put o.dst v') w') : wpList Tryz.prog ops Q (o :: rest) a w := by
  obtain ⟨i0, hi, hz0, hz1, hz2⟩ := info_parts str_info
  refine wpList_append_own w hgd s x 38 ho B 9 i0 (.string ⟨#[]⟩) 1 16 Tryz.underlying38 hi hz0 hz1 hz2 rfl (by decide) v l.length (l.map Value.string) hs hown ad 1 c [.string n] hx rfl ?_ ?_ (by unfold maxLen; omega) (by omega) hB ?_
  · intro j u hj
    match j, hj with
    | 0, hj =>
      have e : u = .string n := (Option.some.inj hj).symm
      rw [e]; exact hnew
    | j + 1, hj => cases hj
  · intro u hu; rw [List.mem_singleton] at hu; rw [hu]; rfl
  · intro v' w' h1 h2 _
    refine h v' w' ?_ h2
    unfold OwnS at *
    rw [List.length_append, List.map_append]
    exact h1
end Go.Proofs.YtgclnjogoghhcaaGreatDoor
namespace Go.Proofs.YtgclnjogoghhcaaGreatDoor
open Go.RowKit
/-- A slice of no token that was just laid. -/
theorem OwnT.fresh0 (W : World) : OwnT W.heap.size (.slice (some ⟨W.heap.size, 0, none⟩) 0 0) [] (W.alloc (.cells #[] 30)) :=
  ⟨rfl, Or.inr ⟨W.heap.size, 0, #[], rfl, Nat.le_refl _, heap_alloc_new W _, by simp, by unfold maxLen; omega, by simp, by simp [tokCells]⟩⟩
end Go.Proofs.YtgclnjogoghhcaaGreatDoor
namespace Go.Proofs.YtgclnjogoghhcaaGreatDoor
open Go.RowKit
theorem ix_indexByteString_run (s : ByteArray) (c : Int) (w : World) :
    (callFunc 48 #[.string s, .int .u8 c]).run Tryz.prog w = .ok (.value (.int .i64 (Lib.indexByte s.data.toList c.toNat.toUInt8))) w := by
  rw [run_callFunc_extern Tryz.func48 (by kernel_rfl) (by kernel_rfl) (by kernel_rfl) (e := Extern.BytealgIndexByte.indexByte) (by kernel_rfl), Lib.run_indexByteString]
  rfl
theorem ix_slIndexByte_any (s : ByteArray) (c : Int) (w : World) :
    Calls Tryz.prog 32 #[.string s, .int .u8 c] w fun e w' => e = .returned (.int .i64 (Lib.indexByte s.data.toList c.toNat.toUInt8)) ∧ w = w' := by
  have h := ix_indexByteString_run s c
  generalize Lib.indexByte s.data.toList c.toNat.toUInt8 = r at *
  go_enter Tryz.func32, Tryz.ntmps32
  go_wp2_with fail
  go_ret
  exact ⟨rfl, rfl⟩
theorem ix_index_one (s : ByteArray) (c : UInt8) (w : World) :
    Calls Tryz.prog 52 #[.string s, .string ⟨#[c]⟩] w fun e w' => e = .returned (.int .i64 (Lib.indexByte s.data.toList c)) ∧ w = w' := by
  by_cases h : s.data.toList = [c]
  · have hs : s = ⟨#[c]⟩ := by
      obtain ⟨d⟩ := s
      have : d = #[c] := by apply Array.ext'; simpa using h
      rw [this]
    subst hs
    have e : Lib.indexByte (⟨#[c]⟩ : ByteArray).data.toList c = 0 := by rw [h]; simp [Lib.indexByte]
    rw [e]
    go_enter Tryz.func52, Tryz.ntmps52
    go_wp2_with fail
    go_ret
    exact ⟨rfl, rfl⟩
  · have hb : ([c] == s.toList) = false := by
      rw [beq_eq_false_iff_ne, ByteArray.toList_eq]; exact fun e => h e.symm
    have H := Lib.hid (fun w => ix_slIndexByte_any s (c.toNat : Int) w)
    rw [show ((c.toNat : Int)).toNat.toUInt8 = c by simp] at H
    clear h
    go_enter Tryz.func52, Tryz.ntmps52
    go_wp2_with fail
    refine (H.out _).mono ?_; rintro e w1 ⟨rfl, rfl⟩
    go_wp2_with fail
    go_ret
    exact ⟨rfl, rfl⟩
theorem ix_sindex (s : ByteArray) (c : UInt8) (w : World) :
    Calls Tryz.prog 38 #[.string s, .string ⟨#[c]⟩] w fun e w' => e = .returned (.int .i64 (Lib.indexByte s.data.toList c)) ∧ w = w' := by
  have H := Lib.hid (fun w => ix_index_one s c w)
  generalize Lib.indexByte s.data.toList c = r at *
  go_enter Tryz.func38, Tryz.ntmps38
  go_wp2_with fail
  refine (H.out _).mono ?_; rintro e w1 ⟨rfl, rfl⟩
  go_wp2_with fail
  go_ret
  exact ⟨rfl, rfl⟩
theorem ix_contains (s : ByteArray) (c : UInt8) (w : World) :
    Calls Tryz.prog 26 #[.string s, .string ⟨#[c]⟩] w fun e w' => e = .returned (.bool (s.data.toList.contains c)) ∧ w = w' := by
  have H := fun w => ix_sindex s c w
  rcases ib_cases c s.data.toList with ⟨g1, n, g2⟩ | ⟨g1, g2⟩
  all_goals
    rw [g1]
    rw [g2] at H
    have HI := Lib.hid H
    clear H g1 g2
    go_enter Tryz.func26, Tryz.ntmps26
    go_wp2_with fail
    refine (HI.out _).mono ?_; rintro e w1 ⟨rfl, rfl⟩
    go_wp2_with fail
    go_ret
    first | exact ⟨rfl, rfl⟩ | exact ⟨ret_b (decide_eq_true (p := (0 : Int) ≤ n) (by omega)), rfl⟩
end Go.Proofs.YtgclnjogoghhcaaGreatDoor
namespace Go.Proofs.YtgclnjogoghhcaaGreatDoor
open Go.RowKit
set_option maxRecDepth 100000 in
theorem lcheck_end_y (x : ByteArray) (p : Int) (h1 : x.toList = []) (h2 : x.toList.isEmpty = true) (w : World) :
    Calls Tryz.prog 17 #[.agg #[.int .u8 0, .string x, .int .i64 p]] w fun e w' => e = .returned (.int .i64 (0)) ∧ Below w.heap.size w w' := by
  go_enter Tryz.func17, Tryz.ntmps17
  go_wp2_with fail
  go_ret
  exact ⟨rfl, (Below.refl _ _).alloc (Nat.le_refl _) _⟩
set_option maxRecDepth 100000 in
theorem lcheck_end_n (x : ByteArray) (p : Int) (h1 : ¬ x.toList = []) (h2 : x.toList.isEmpty = false) (w : World) :
    Calls Tryz.prog 17 #[.agg #[.int .u8 0, .string x, .int .i64 p]] w fun e w' => e = .returned (.int .i64 (8)) ∧ Below w.heap.size w w' := by
  go_enter Tryz.func17, Tryz.ntmps17
  go_wp2_with fail
  go_ret
  exact ⟨rfl, (Below.refl _ _).alloc (Nat.le_refl _) _⟩
set_option maxRecDepth 100000 in
theorem lcheck_name (x : ByteArray) (b : Bool) (p : Int) (H : Hid (∀ w, Calls Tryz.prog 13 #[.string x] w fun e w' => e = .returned (.bool b) ∧ Below w.heap.size w w')) (w : World) :
    Calls Tryz.prog 17 #[.agg #[.int .u8 1, .string x, .int .i64 p]] w fun e w' => e = .returned (.int .i64 (if b then 0 else 8)) ∧ Below w.heap.size w w' := by
  cases b
  all_goals
    go_enter Tryz.func17, Tryz.ntmps17
    go_wp2_with fail
    refine (H.out _).mono ?_; rintro e w1 ⟨rfl, hb⟩
    have HW : Below w.heap.size w w1 := ((Below.refl _ _).alloc (Nat.le_refl _) _).trans (hb.mono (by simp))
    clear hb
    go_wp2_with fail
    go_ret
    exact ⟨rfl, HW⟩
set_option maxRecDepth 100000 in
theorem lcheck_int (x : ByteArray) (b : Bool) (p : Int) (H : Hid (∀ w, Calls Tryz.prog 25 #[.string x] w fun e w' => e = .returned (.bool b) ∧ Below w.heap.size w w')) (w : World) :
    Calls Tryz.prog 17 #[.agg #[.int .u8 2, .string x, .int .i64 p]] w fun e w' => e = .returned (.int .i64 (if b then 0 else 8)) ∧ Below w.heap.size w w' := by
  cases b
  all_goals
    go_enter Tryz.func17, Tryz.ntmps17
    go_wp2_with fail
    refine (H.out _).mono ?_; rintro e w1 ⟨rfl, hb⟩
    have HW : Below w.heap.size w w1 := ((Below.refl _ _).alloc (Nat.le_refl _) _).trans (hb.mono (by simp))
    clear hb
    go_wp2_with fail
    go_ret
    exact ⟨rfl, HW⟩
set_option maxRecDepth 100000 in
theorem lcheck_text (x : ByteArray) (c : Int) (p : Int) (w : World) (H : Hid (∀ V, Below w.heap.size w V → Calls Tryz.prog 18 #[.string x] V fun e w' => e = .returned (.int .i64 c) ∧ Below V.heap.size V w')) (hc : c = 0 ∨ c = 4 ∨ c = 10) :
    Calls Tryz.prog 17 #[.agg #[.int .u8 3, .string x, .int .i64 p]] w fun e w' => e = .returned (.int .i64 (if c = 0 then 0 else 8)) ∧ Below w.heap.size w w' := by
  rcases hc with rfl | rfl | rfl
  all_goals
    go_enter Tryz.func17, Tryz.ntmps17
    go_wp2_with fail
    refine (H.out _ (by exact (Below.refl _ _).alloc (Nat.le_refl _) _)).mono ?_; rintro e w1 ⟨rfl, hb⟩
    have HW : Below w.heap.size w w1 := ((Below.refl _ _).alloc (Nat.le_refl _) _).trans (hb.mono (by simp))
    clear hb
    go_wp2_with fail
    go_ret
    exact ⟨rfl, HW⟩
set_option maxRecDepth 100000 in
theorem lcheck_dots (x : ByteArray) (p : Int) (h : (x.toList == [46, 46, 46]) = true) (w : World) :
    Calls Tryz.prog 17 #[.agg #[.int .u8 4, .string x, .int .i64 p]] w fun e w' => e = .returned (.int .i64 (0)) ∧ Below w.heap.size w w' := by
  go_enter Tryz.func17, Tryz.ntmps17
  go_wp2_with fail
  go_ret
  exact ⟨rfl, (Below.refl _ _).alloc (Nat.le_refl _) _⟩
set_option maxRecDepth 100000 in
theorem lcheck_long (x : ByteArray) (p : Int) (h : (x.toList == [46, 46, 46]) = false) (h2 : ((x.size : Int) == 1) = false) (w : World) :
    Calls Tryz.prog 17 #[.agg #[.int .u8 4, .string x, .int .i64 p]] w fun e w' => e = .returned (.int .i64 (8)) ∧ Below w.heap.size w w' := by
  go_enter Tryz.func17, Tryz.ntmps17
  go_wp2_with fail
  go_ret
  exact ⟨rfl, (Below.refl _ _).alloc (Nat.le_refl _) _⟩
set_option maxRecDepth 100000 in
theorem lcheck_mark (x : ByteArray) (b : Bool) (p : Int) (h : (x.toList == [46, 46, 46]) = false) (h2 : ((x.size : Int) == 1) = true) (H : Hid (∀ w, Calls Tryz.prog 26 #[.string ⟨#[33, 36, 38, 40, 41, 58, 61, 64, 91, 93, 123, 124, 125]⟩, .string x] w fun e w' => e = .returned (.bool b) ∧ Below w.heap.size w w')) (w : World) :
    Calls Tryz.prog 17 #[.agg #[.int .u8 4, .string x, .int .i64 p]] w fun e w' => e = .returned (.int .i64 (if b then 0 else 8)) ∧ Below w.heap.size w w' := by
  cases b
  all_goals
    go_enter Tryz.func17, Tryz.ntmps17
    go_wp2_with fail
    refine (H.out _).mono ?_; rintro e w1 ⟨rfl, hb⟩
    have HW : Below w.heap.size w w1 := ((Below.refl _ _).alloc (Nat.le_refl _) _).trans (hb.mono (by simp))
    clear hb
    go_wp2_with fail
    go_ret
    exact ⟨rfl, HW⟩
set_option maxRecDepth 100000 in
theorem lcheck_other (x : ByteArray) (k : Int) (p : Int) (h0 : (k == 0) = false) (h1 : (k == 1) = false) (h2 : (k == 2) = false) (h3 : (k == 3) = false) (h4 : (k == 4) = false) (w : World) :
    Calls Tryz.prog 17 #[.agg #[.int .u8 k, .string x, .int .i64 p]] w fun e w' => e = .returned (.int .i64 (8)) ∧ Below w.heap.size w w' := by
  go_enter Tryz.func17, Tryz.ntmps17
  go_wp2_with fail
  go_ret
  exact ⟨rfl, (Below.refl _ _).alloc (Nat.le_refl _) _⟩
end Go.Proofs.YtgclnjogoghhcaaGreatDoor
namespace Go.Proofs.YtgclnjogoghhcaaGreatDoor
open Go.RowKit
theorem below_same {f : Nat} {args : Array Value} {v : Value} (H : ∀ w, Calls Tryz.prog f args w fun e w' => e = .returned v ∧ w = w') : ∀ w, Calls Tryz.prog f args w fun e w' => e = .returned v ∧ Below w.heap.size w w' :=
  fun w => (H w).mono fun e w' ⟨h1, h2⟩ => ⟨h1, by rw [← h2]; exact Below.refl _ _⟩
theorem lcheck_any (k : UInt8) (x : ByteArray) (p : Int) (hx : x.size ≤ 1000000) (w : World) (hE : EnvU w) :
    Calls Tryz.prog 17 #[.agg #[.int .u8 (k.toNat : Int), .string x, .int .i64 p]] w fun e w' => e = .returned (.int .i64 (if okT ⟨k, x.data.toList, p⟩ then 0 else 8)) ∧ Below w.heap.size w w' := by
  unfold okT
  dsimp only
  by_cases k0 : k = 0
  · subst k0
    rw [if_pos rfl]
    rcases empty_z x with ⟨a0, a1, a2, a3⟩ | ⟨a0, a1, a2, a3⟩
    · have : x.data.toList.isEmpty = false := by cases h : x.data.toList with
        | nil => exact absurd h a3
        | cons _ _ => rfl
      rw [this]
      exact lcheck_end_n x p a1 a2 w
    · rw [a3]
      exact lcheck_end_y x p a1 a2 w
  rw [if_neg k0]
  by_cases k1 : k = 1
  · subst k1
    rw [if_pos rfl]
    exact lcheck_name x _ p (Lib.hid (below_same fun w => lname_any x hx w)) w
  rw [if_neg k1]
  by_cases k2 : k = 2
  · subst k2
    rw [if_pos rfl]
    exact lcheck_int x _ p (Lib.hid (below_same fun w => lnumber_any x hx w)) w
  rw [if_neg k2]
  by_cases k3 : k = 3
  · subst k3
    rw [if_pos rfl]
    have ht : (if textB x.data.toList then (0 : Int) else 8) = if chkE x.data.toList = 0 then 0 else 8 := by
      unfold textB chkE
      by_cases q : 16384 < x.data.toList.length
      · rw [if_pos q, decide_eq_false (by omega)]; rfl
      · rw [if_neg q, decide_eq_true (by omega), Bool.true_and]
        cases Lib.validD x.data.toList <;> rfl
    have ht2 : (Value.int .i64 (if textB x.data.toList then (0 : Int) else 8)) = .int .i64 (if chkE x.data.toList = 0 then 0 else 8) := by rw [ht]
    rw [show (Ending.returned (Value.int .i64 (if textB x.data.toList = true then 0 else 8))) = Ending.returned (Value.int .i64 (if chkE x.data.toList = 0 then 0 else 8)) from by rw [ht]]
    refine lcheck_text x _ p w (Lib.hid fun V hb => tcheck_any x hx V (hE.below hb)) ?_
    unfold chkE
    by_cases q : 16384 < x.data.toList.length
    · rw [if_pos q]; right; left; rfl
    · rw [if_neg q]
      cases Lib.validD x.data.toList
      · right; right; rfl
      · left; rfl
  rw [if_neg k3]
  by_cases k4 : k = 4
  · subst k4
    rw [if_pos rfl]
    have hd : (x.toList == [46, 46, 46]) = (x.data.toList == [46, 46, 46]) := by rw [ByteArray.toList_eq]
    have hl := len_z x
    unfold markB
    cases hq : (x.data.toList == [46, 46, 46]) with
    | true => exact lcheck_dots x p (hd.trans hq) w
    | false =>
      match hm : x.data.toList with
      | [] =>
        rw [hm] at hl
        exact lcheck_long x p (hd.trans hq) (by rw [beq_eq_false_iff_ne]; simp at hl; omega) w
      | [c] =>
        rw [hm] at hl
        have hc := bytes_ext' hm
        refine lcheck_mark x _ p (hd.trans hq) (by rw [beq_iff_eq]; simp at hl; omega) (Lib.hid (below_same fun w => ?_)) w
        have := ix_contains ⟨#[33, 36, 38, 40, 41, 58, 61, 64, 91, 93, 123, 124, 125]⟩ c w
        rw [hc]
        exact this
      | _ :: _ :: _ =>
        rw [hm] at hl
        exact lcheck_long x p (hd.trans hq) (by rw [beq_eq_false_iff_ne]; simp at hl; omega) w
  rw [if_neg k4]
  have ne : ∀ n : Nat, n < 256 → k ≠ UInt8.ofNat n → ((k.toNat : Int) == (n : Int)) = false := by
    intro n hn h
    rw [beq_eq_false_iff_ne]
    intro e
    exact h (UInt8.toNat_inj.1 (by rw [UInt8.toNat_ofNat']; omega))
  exact lcheck_other x _ p (ne 0 (by omega) k0) (ne 1 (by omega) k1) (ne 2 (by omega) k2) (ne 3 (by omega) k3) (ne 4 (by omega) k4) w
end Go.Proofs.YtgclnjogoghhcaaGreatDoor
namespace Go.Proofs.YtgclnjogoghhcaaGreatDoor
open Go.RowKit Go.Lib
theorem all256 {f : UInt8 → Bool} (h : ∀ i : Fin 256, f (UInt8.ofNat i.val) = true) (c : UInt8) : f c = true := by
  have := h ⟨c.toNat, UInt8.toNat_lt c⟩
  simpa using this
theorem byte_cls (c : UInt8) : c = 34 ∨ c = 92 ∨ c = 8 ∨ c = 12 ∨ c = 10 ∨ c = 13 ∨ c = 9 ∨ c = 47 ∨ (c.toNat < 32 ∧ quoteC c = [92, 117, 48, 48, hexD (c.toNat / 16), hexD (c.toNat % 16)] ∧ c.toNat ≠ 8 ∧ c.toNat ≠ 9 ∧ c.toNat ≠ 10 ∧ c.toNat ≠ 12 ∧ c.toNat ≠ 13) ∨ (32 ≤ c.toNat ∧ quoteC c = [c] ∧ c.toNat ≠ 34 ∧ c.toNat ≠ 47 ∧ c.toNat ≠ 92) := by
  by_cases h34 : c = 34
  · simp [h34]
  by_cases h92 : c = 92
  · simp [h92]
  by_cases h8 : c = 8
  · simp [h8]
  by_cases h12 : c = 12
  · simp [h12]
  by_cases h10 : c = 10
  · simp [h10]
  by_cases h13 : c = 13
  · simp [h13]
  by_cases h9 : c = 9
  · simp [h9]
  by_cases h47 : c = 47
  · simp [h47]
  have g34 : c.toNat ≠ 34 := fun e => h34 (UInt8.toNat_inj.1 e)
  have g92 : c.toNat ≠ 92 := fun e => h92 (UInt8.toNat_inj.1 e)
  have g8 : c.toNat ≠ 8 := fun e => h8 (UInt8.toNat_inj.1 e)
  have g12 : c.toNat ≠ 12 := fun e => h12 (UInt8.toNat_inj.1 e)
  have g10 : c.toNat ≠ 10 := fun e => h10 (UInt8.toNat_inj.1 e)
  have g13 : c.toNat ≠ 13 := fun e => h13 (UInt8.toNat_inj.1 e)
  have g9 : c.toNat ≠ 9 := fun e => h9 (UInt8.toNat_inj.1 e)
  have g47 : c.toNat ≠ 47 := fun e => h47 (UInt8.toNat_inj.1 e)
  by_cases h : c.toNat < 32
  · right; right; right; right; right; right; right; right; left
    refine ⟨h, ?_, g8, g9, g10, g12, g13⟩
    unfold quoteC
    rw [if_neg (by simp [h34, h92]), if_neg h8, if_neg h9, if_neg h10, if_neg h12, if_neg h13, if_pos h]
  · right; right; right; right; right; right; right; right; right
    refine ⟨by omega, ?_, g34, g47, g92⟩
    unfold quoteC
    rw [if_neg (by simp [h34, h92]), if_neg h8, if_neg h9, if_neg h10, if_neg h12, if_neg h13, if_neg h]
theorem told_no (c : UInt8) (g8 : c.toNat ≠ 8) (g9 : c.toNat ≠ 9) (g10 : c.toNat ≠ 10) (g12 : c.toNat ≠ 12) (g13 : c.toNat ≠ 13) (g34 : c.toNat ≠ 34) (g47 : c.toNat ≠ 47) (g92 : c.toNat ≠ 92) : Lib.indexByte (⟨#[34, 92, 47, 8, 12, 10, 13, 9]⟩ : ByteArray).data.toList c = -1 := by
  have g := all256 (f := fun c => c.toNat == 8 || c.toNat == 9 || c.toNat == 10 || c.toNat == 12 || c.toNat == 13 || c.toNat == 34 || c.toNat == 47 || c.toNat == 92 || (Lib.indexByte (⟨#[34, 92, 47, 8, 12, 10, 13, 9]⟩ : ByteArray).data.toList c == -1)) (by decide +kernel) c
  simpa [g8, g9, g10, g12, g13, g34, g47, g92] using g
theorem and15 (n : Nat) (h : n < 256) : bits BinOp.and IntKind.u8 (n : Int) 15 = (n : Int) % 16 := by
  have g : ∀ i : Fin 256, bits BinOp.and IntKind.u8 (i.val : Int) 15 = (i.val : Int) % 16 := by decide +kernel
  exact g ⟨n, h⟩
theorem hexd_at (n : Nat) (h : n < (⟨#[48, 49, 50, 51, 52, 53, 54, 55, 56, 57, 97, 98, 99, 100, 101, 102]⟩ : ByteArray).size) : (⟨#[48, 49, 50, 51, 52, 53, 54, 55, 56, 57, 97, 98, 99, 100, 101, 102]⟩ : ByteArray)[n]'h = hexD n := by
  have g : ∀ i : Fin 16, (⟨#[48, 49, 50, 51, 52, 53, 54, 55, 56, 57, 97, 98, 99, 100, 101, 102]⟩ : ByteArray)[i.val]'i.isLt = hexD i.val := by decide +kernel
  exact g ⟨n, h⟩
set_option maxRecDepth 100000 in
set_option maxHeartbeats 8000000 in
theorem quote_any (s : ByteArray) (hs : s.size ≤ 100000) (w : World) :
    Calls Tryz.prog 33 #[.string s] w fun e w' => e = .returned (.string ⟨(quoteL s.data.toList).toArray⟩) ∧ Below w.heap.size w w' := by
  obtain ⟨r, hr⟩ : ∃ r, quoteL s.data.toList = r := ⟨_, rfl⟩
  have HR : Hid ([34] ++ ((s.data.toList.drop 0).flatMap quoteC ++ [34]) = r) := Lib.hid (by rw [List.drop_zero, ← hr]; unfold quoteL; simp)
  rw [hr]
  clear hr
  go_enter Tryz.func33, Tryz.ntmps33
  go_wp2_with fail
  go_loopg [3, 10] s.size (fun k u v wr => ∃ (j : Nat) (out : List UInt8) (ov : Value), ov = u ∧ v = .int .i64 j ∧ k + j = s.size ∧ out.length ≤ 6 * j + 1 ∧ Hid (Own w.heap.size ov out wr) ∧ Hid (out ++ ((s.data.toList.drop j).flatMap quoteC ++ [34]) = r) ∧ Below w.heap.size w wr)
  case atStart => exact ⟨0, [34], _, rfl, rfl, by omega, by simp, Lib.hid (Own.fresh rfl rfl (by decide) w), HR, (Below.refl _ _).alloc (Nat.le_refl _) _⟩
  case round =>
    rename World => wo
    obtain ⟨j, out, ov, rfl, rfl, hk, hout, HO, HJ, hbw⟩ := hrel
    have hsz := hbw.size
    by_cases hlt : j < s.size
    · have hd := drop_at s j hlt
      have HJ1 : (out ++ quoteC s[j]) ++ ((s.data.toList.drop (j + 1)).flatMap quoteC ++ [34]) = r := by
        have := HJ.out
        rw [hd, List.flatMap_cons] at this
        simpa [List.append_assoc] using this
      obtain ⟨g, rfl⟩ : ∃ g, gk = g + 1 := ⟨gk - 1, by omega⟩
      have hc8 : s[j].toNat < 256 := UInt8.toNat_lt _
      have hcls := byte_cls s[j]
      clear hd HJ
      rcases hcls with hx | hx | hx | hx | hx | hx | hx | hx | ⟨hx, hq, g8, g9, g10, g12, g13⟩ | ⟨hx, hq, g34, g47, g92⟩
      · have HJ2 : Hid ((out ++ [92, 34]) ++ ((s.data.toList.drop (j + 1)).flatMap quoteC ++ [34]) = r) := Lib.hid (by rw [hx] at HJ1; exact HJ1)
        have hn : s[j].toNat = 34 := by rw [hx]; rfl
        clear HJ1 hx hc8
        have HI : Hid (∀ w, Calls Tryz.prog 21 #[.string ⟨#[34, 92, 47, 8, 12, 10, 13, 9]⟩, .int .u8 34] w fun e w' => e = .returned (.int .i64 0) ∧ w = w') := Lib.hid (fun w => (Tryz.strings_IndexByte ⟨#[34, 92, 47, 8, 12, 10, 13, 9]⟩ 34 w).mono fun e w' ⟨h1, h2⟩ => ⟨h1, h2.symm⟩)
        go_wp2_with fail
        refine (HI.out _).mono ?_; rintro e w1 ⟨rfl, rfl⟩
        go_wp2_with (at_builtin; refine wpList_push rfl _ _ rfl w.heap.size ov out rfl (HO.out.alloc _) ⟨wo.heap.size, 0, none⟩ 2 [92, 34] rfl (new_bytes wo _ [92, 34]) ?c1 ?c2 ?_)
        case c1 => first | omega | (simp; omega)
        case c2 => first | omega | (simp; omega)
        intro v' w3 hown' hgrow
        have hbw3 : Below w.heap.size w w3 := (hbw.alloc hsz _).grown hgrow (by simp; omega) HO.out.lt
        have HO3 := Lib.hid hown'
        clear hown' hgrow HO
        go_wp2_with fail
        go_roundg g
        case measure => omega
        case rel => exact ⟨j + 1, out ++ [92, 34], _, rfl, by go_num, by omega, by simp; omega, HO3, HJ2, hbw3⟩
      · have HJ2 : Hid ((out ++ [92, 92]) ++ ((s.data.toList.drop (j + 1)).flatMap quoteC ++ [34]) = r) := Lib.hid (by rw [hx] at HJ1; exact HJ1)
        have hn : s[j].toNat = 92 := by rw [hx]; rfl
        clear HJ1 hx hc8
        have HI : Hid (∀ w, Calls Tryz.prog 21 #[.string ⟨#[34, 92, 47, 8, 12, 10, 13, 9]⟩, .int .u8 92] w fun e w' => e = .returned (.int .i64 1) ∧ w = w') := Lib.hid (fun w => (Tryz.strings_IndexByte ⟨#[34, 92, 47, 8, 12, 10, 13, 9]⟩ 92 w).mono fun e w' ⟨h1, h2⟩ => ⟨h1, h2.symm⟩)
        go_wp2_with fail
        refine (HI.out _).mono ?_; rintro e w1 ⟨rfl, rfl⟩
        go_wp2_with (at_builtin; refine wpList_push rfl _ _ rfl w.heap.size ov out rfl (HO.out.alloc _) ⟨wo.heap.size, 0, none⟩ 2 [92, 92] rfl (new_bytes wo _ [92, 92]) ?c1 ?c2 ?_)
        case c1 => first | omega | (simp; omega)
        case c2 => first | omega | (simp; omega)
        intro v' w3 hown' hgrow
        have hbw3 : Below w.heap.size w w3 := (hbw.alloc hsz _).grown hgrow (by simp; omega) HO.out.lt
        have HO3 := Lib.hid hown'
        clear hown' hgrow HO
        go_wp2_with fail
        go_roundg g
        case measure => omega
        case rel => exact ⟨j + 1, out ++ [92, 92], _, rfl, by go_num, by omega, by simp; omega, HO3, HJ2, hbw3⟩
      · have HJ2 : Hid ((out ++ [92, 98]) ++ ((s.data.toList.drop (j + 1)).flatMap quoteC ++ [34]) = r) := Lib.hid (by rw [hx] at HJ1; exact HJ1)
        have hn : s[j].toNat = 8 := by rw [hx]; rfl
        clear HJ1 hx hc8
        have HI : Hid (∀ w, Calls Tryz.prog 21 #[.string ⟨#[34, 92, 47, 8, 12, 10, 13, 9]⟩, .int .u8 8] w fun e w' => e = .returned (.int .i64 3) ∧ w = w') := Lib.hid (fun w => (Tryz.strings_IndexByte ⟨#[34, 92, 47, 8, 12, 10, 13, 9]⟩ 8 w).mono fun e w' ⟨h1, h2⟩ => ⟨h1, h2.symm⟩)
        go_wp2_with fail
        refine (HI.out _).mono ?_; rintro e w1 ⟨rfl, rfl⟩
        go_wp2_with (at_builtin; refine wpList_push rfl _ _ rfl w.heap.size ov out rfl (HO.out.alloc _) ⟨wo.heap.size, 0, none⟩ 2 [92, 98] rfl (new_bytes wo _ [92, 98]) ?c1 ?c2 ?_)
        case c1 => first | omega | (simp; omega)
        case c2 => first | omega | (simp; omega)
        intro v' w3 hown' hgrow
        have hbw3 : Below w.heap.size w w3 := (hbw.alloc hsz _).grown hgrow (by simp; omega) HO.out.lt
        have HO3 := Lib.hid hown'
        clear hown' hgrow HO
        go_wp2_with fail
        go_roundg g
        case measure => omega
        case rel => exact ⟨j + 1, out ++ [92, 98], _, rfl, by go_num, by omega, by simp; omega, HO3, HJ2, hbw3⟩
      · have HJ2 : Hid ((out ++ [92, 102]) ++ ((s.data.toList.drop (j + 1)).flatMap quoteC ++ [34]) = r) := Lib.hid (by rw [hx] at HJ1; exact HJ1)
        have hn : s[j].toNat = 12 := by rw [hx]; rfl
        clear HJ1 hx hc8
        have HI : Hid (∀ w, Calls Tryz.prog 21 #[.string ⟨#[34, 92, 47, 8, 12, 10, 13, 9]⟩, .int .u8 12] w fun e w' => e = .returned (.int .i64 4) ∧ w = w') := Lib.hid (fun w => (Tryz.strings_IndexByte ⟨#[34, 92, 47, 8, 12, 10, 13, 9]⟩ 12 w).mono fun e w' ⟨h1, h2⟩ => ⟨h1, h2.symm⟩)
        go_wp2_with fail
        refine (HI.out _).mono ?_; rintro e w1 ⟨rfl, rfl⟩
        go_wp2_with (at_builtin; refine wpList_push rfl _ _ rfl w.heap.size ov out rfl (HO.out.alloc _) ⟨wo.heap.size, 0, none⟩ 2 [92, 102] rfl (new_bytes wo _ [92, 102]) ?c1 ?c2 ?_)
        case c1 => first | omega | (simp; omega)
        case c2 => first | omega | (simp; omega)
        intro v' w3 hown' hgrow
        have hbw3 : Below w.heap.size w w3 := (hbw.alloc hsz _).grown hgrow (by simp; omega) HO.out.lt
        have HO3 := Lib.hid hown'
        clear hown' hgrow HO
        go_wp2_with fail
        go_roundg g
        case measure => omega
        case rel => exact ⟨j + 1, out ++ [92, 102], _, rfl, by go_num, by omega, by simp; omega, HO3, HJ2, hbw3⟩
      · have HJ2 : Hid ((out ++ [92, 110]) ++ ((s.data.toList.drop (j + 1)).flatMap quoteC ++ [34]) = r) := Lib.hid (by rw [hx] at HJ1; exact HJ1)
        have hn : s[j].toNat = 10 := by rw [hx]; rfl
        clear HJ1 hx hc8
        have HI : Hid (∀ w, Calls Tryz.prog 21 #[.string ⟨#[34, 92, 47, 8, 12, 10, 13, 9]⟩, .int .u8 10] w fun e w' => e = .returned (.int .i64 5) ∧ w = w') := Lib.hid (fun w => (Tryz.strings_IndexByte ⟨#[34, 92, 47, 8, 12, 10, 13, 9]⟩ 10 w).mono fun e w' ⟨h1, h2⟩ => ⟨h1, h2.symm⟩)
        go_wp2_with fail
        refine (HI.out _).mono ?_; rintro e w1 ⟨rfl, rfl⟩
        go_wp2_with (at_builtin; refine wpList_push rfl _ _ rfl w.heap.size ov out rfl (HO.out.alloc _) ⟨wo.heap.size, 0, none⟩ 2 [92, 110] rfl (new_bytes wo _ [92, 110]) ?c1 ?c2 ?_)
        case c1 => first | omega | (simp; omega)
        case c2 => first | omega | (simp; omega)
        intro v' w3 hown' hgrow
        have hbw3 : Below w.heap.size w w3 := (hbw.alloc hsz _).grown hgrow (by simp; omega) HO.out.lt
        have HO3 := Lib.hid hown'
        clear hown' hgrow HO
        go_wp2_with fail
        go_roundg g
        case measure => omega
        case rel => exact ⟨j + 1, out ++ [92, 110], _, rfl, by go_num, by omega, by simp; omega, HO3, HJ2, hbw3⟩
      · have HJ2 : Hid ((out ++ [92, 114]) ++ ((s.data.toList.drop (j + 1)).flatMap quoteC ++ [34]) = r) := Lib.hid (by rw [hx] at HJ1; exact HJ1)
        have hn : s[j].toNat = 13 := by rw [hx]; rfl
        clear HJ1 hx hc8
        have HI : Hid (∀ w, Calls Tryz.prog 21 #[.string ⟨#[34, 92, 47, 8, 12, 10, 13, 9]⟩, .int .u8 13] w fun e w' => e = .returned (.int .i64 6) ∧ w = w') := Lib.hid (fun w => (Tryz.strings_IndexByte ⟨#[34, 92, 47, 8, 12, 10, 13, 9]⟩ 13 w).mono fun e w' ⟨h1, h2⟩ => ⟨h1, h2.symm⟩)
        go_wp2_with fail
        refine (HI.out _).mono ?_; rintro e w1 ⟨rfl, rfl⟩
        go_wp2_with (at_builtin; refine wpList_push rfl _ _ rfl w.heap.size ov out rfl (HO.out.alloc _) ⟨wo.heap.size, 0, none⟩ 2 [92, 114] rfl (new_bytes wo _ [92, 114]) ?c1 ?c2 ?_)
        case c1 => first | omega | (simp; omega)
        case c2 => first | omega | (simp; omega)
        intro v' w3 hown' hgrow
        have hbw3 : Below w.heap.size w w3 := (hbw.alloc hsz _).grown hgrow (by simp; omega) HO.out.lt
        have HO3 := Lib.hid hown'
        clear hown' hgrow HO
        go_wp2_with fail
        go_roundg g
        case measure => omega
        case rel => exact ⟨j + 1, out ++ [92, 114], _, rfl, by go_num, by omega, by simp; omega, HO3, HJ2, hbw3⟩
      · have HJ2 : Hid ((out ++ [92, 116]) ++ ((s.data.toList.drop (j + 1)).flatMap quoteC ++ [34]) = r) := Lib.hid (by rw [hx] at HJ1; exact HJ1)
        have hn : s[j].toNat = 9 := by rw [hx]; rfl
        clear HJ1 hx hc8
        have HI : Hid (∀ w, Calls Tryz.prog 21 #[.string ⟨#[34, 92, 47, 8, 12, 10, 13, 9]⟩, .int .u8 9] w fun e w' => e = .returned (.int .i64 7) ∧ w = w') := Lib.hid (fun w => (Tryz.strings_IndexByte ⟨#[34, 92, 47, 8, 12, 10, 13, 9]⟩ 9 w).mono fun e w' ⟨h1, h2⟩ => ⟨h1, h2.symm⟩)
        go_wp2_with fail
        refine (HI.out _).mono ?_; rintro e w1 ⟨rfl, rfl⟩
        go_wp2_with (at_builtin; refine wpList_push rfl _ _ rfl w.heap.size ov out rfl (HO.out.alloc _) ⟨wo.heap.size, 0, none⟩ 2 [92, 116] rfl (new_bytes wo _ [92, 116]) ?c1 ?c2 ?_)
        case c1 => first | omega | (simp; omega)
        case c2 => first | omega | (simp; omega)
        intro v' w3 hown' hgrow
        have hbw3 : Below w.heap.size w w3 := (hbw.alloc hsz _).grown hgrow (by simp; omega) HO.out.lt
        have HO3 := Lib.hid hown'
        clear hown' hgrow HO
        go_wp2_with fail
        go_roundg g
        case measure => omega
        case rel => exact ⟨j + 1, out ++ [92, 116], _, rfl, by go_num, by omega, by simp; omega, HO3, HJ2, hbw3⟩
      · have HJ2 : Hid ((out ++ [47]) ++ ((s.data.toList.drop (j + 1)).flatMap quoteC ++ [34]) = r) := Lib.hid (by rw [hx] at HJ1; exact HJ1)
        have hn : s[j].toNat = 47 := by rw [hx]; rfl
        clear HJ1 hx hc8
        have HI : Hid (∀ w, Calls Tryz.prog 21 #[.string ⟨#[34, 92, 47, 8, 12, 10, 13, 9]⟩, .int .u8 47] w fun e w' => e = .returned (.int .i64 2) ∧ w = w') := Lib.hid (fun w => (Tryz.strings_IndexByte ⟨#[34, 92, 47, 8, 12, 10, 13, 9]⟩ 47 w).mono fun e w' ⟨h1, h2⟩ => ⟨h1, h2.symm⟩)
        go_wp2_with fail
        refine (HI.out _).mono ?_; rintro e w1 ⟨rfl, rfl⟩
        go_wp2_with (at_builtin; refine wpList_push rfl _ _ rfl w.heap.size ov out rfl (HO.out.alloc _) ⟨wo.heap.size, 0, none⟩ 1 [47] rfl (new_bytes wo _ [47]) ?c1 ?c2 ?_)
        case c1 => first | omega | (simp; omega)
        case c2 => first | omega | (simp; omega)
        intro v' w3 hown' hgrow
        have hbw3 : Below w.heap.size w w3 := (hbw.alloc hsz _).grown hgrow (by simp; omega) HO.out.lt
        have HO3 := Lib.hid hown'
        clear hown' hgrow HO
        go_wp2_with fail
        go_roundg g
        case measure => omega
        case rel => exact ⟨j + 1, out ++ [47], _, rfl, by go_num, by omega, by simp; omega, HO3, HJ2, hbw3⟩
      · have HJ2 : Hid ((out ++ [92, 117, 48, 48, hexD (s[j].toNat / 16), hexD (s[j].toNat % 16)]) ++ ((s.data.toList.drop (j + 1)).flatMap quoteC ++ [34]) = r) := Lib.hid (by rw [hq] at HJ1; exact HJ1)
        have HI : Hid (∀ w, Calls Tryz.prog 21 #[.string ⟨#[34, 92, 47, 8, 12, 10, 13, 9]⟩, .int .u8 (s[j].toNat : Int)] w fun e w' => e = .returned (.int .i64 (-1)) ∧ w = w') := Lib.hid (fun w => by
          have := Tryz.strings_IndexByte ⟨#[34, 92, 47, 8, 12, 10, 13, 9]⟩ (s[j].toNat : Int) w
          rw [show ((s[j].toNat : Int)).toNat.toUInt8 = s[j] by simp, told_no s[j] g8 g9 g10 g12 g13 (by omega) (by omega) (by omega)] at this
          exact this.mono fun e w' ⟨h1, h2⟩ => ⟨h1, h2.symm⟩)
        have n47 : ((s[j].toNat : Int) == 47) = false := by rw [beq_eq_false_iff_ne]; omega
        have m47 : ¬ (s[j].toNat : Int) = 47 := by omega
        have hx2 : (s[j].toNat : Int) < 32 := by omega
        have hx3 : ¬ (32 : Int) ≤ (s[j].toNat : Int) := by omega
        obtain ⟨a, ea⟩ : ∃ a, s[j].toNat / 16 = a := ⟨_, rfl⟩
        obtain ⟨b, eb⟩ : ∃ b, s[j].toNat % 16 = b := ⟨_, rfl⟩
        have la : a < 16 := by omega
        have lb : b < 16 := by omega
        have fa : (s[j].toNat : Int) / 16 = a := by omega
        have fb : (s[j].toNat : Int) % 16 = b := by omega
        have fc : (s[j].toNat : Int).tmod 16 = b := by rw [Int.tmod_eq_emod_of_nonneg (by omega)]; exact fb
        have fd : (s[j].toNat : Int).tdiv 16 = a := by rw [Int.tdiv_eq_ediv_of_nonneg (by omega)]; exact fa
        have fe : bits BinOp.and IntKind.u8 (s[j].toNat : Int) 15 = b := by rw [and15 _ (by omega)]; exact fb
        have la2 : (a : Int) < 16 := by omega
        have lb2 : (b : Int) < 16 := by omega
        have la3 : (0 : Int) ≤ a := by omega
        have lb3 : (0 : Int) ≤ b := by omega
        have va : IntKind.u8.wrap (a : Int) = a := IntWalk.u8_in _ (by omega)
        have vb : IntKind.u8.wrap (b : Int) = b := IntWalk.u8_in _ (by omega)
        rw [ea, eb] at HJ2
        obtain ⟨y1, hy1⟩ : ∃ y, hexD a = y := ⟨_, rfl⟩
        obtain ⟨y2, hy2⟩ : ∃ y, hexD b = y := ⟨_, rfl⟩
        have U1 : ∀ h, ((⟨#[48, 49, 50, 51, 52, 53, 54, 55, 56, 57, 97, 98, 99, 100, 101, 102]⟩ : ByteArray)[a]'h) = y1 := fun h => by rw [← hy1]; exact hexd_at a h
        have U2 : ∀ h, ((⟨#[48, 49, 50, 51, 52, 53, 54, 55, 56, 57, 97, 98, 99, 100, 101, 102]⟩ : ByteArray)[b]'h) = y2 := fun h => by rw [← hy2]; exact hexd_at b h
        rw [hy1, hy2] at HJ2
        clear HJ1 hq g8 g9 g10 g12 g13 ea eb hy1 hy2
        go_wp2_with fail
        refine (HI.out _).mono ?_; rintro e w1 ⟨rfl, rfl⟩
        go_wp2_with fail
        refine wp_region_held_drew (S := fun _ => True) (by kernel_rfl) (trivial) (fun hHeld => ?_)
        refine tky 0 (some 40) (v := ?_) rfl (by kernel_rfl) (by kernel_rfl) (by kernel_rfl) (fun _ _ _ h => h) ?_ hHeld ?_
        rotate_left
        focus (intro w hSw; (try dsimp only at hSw); go_simp; (try with_reducible rfl); done)
        simp only [Act.put, List.setIfInBounds_toArray, List.set_cons_zero, List.set_cons_succ]
        refine tky 1 (some 41) (v := ?_) rfl (by kernel_rfl) (by kernel_rfl) (by kernel_rfl) (fun _ _ _ h => h) ?_ hHeld ?_
        rotate_left
        focus (intro w hSw; (try dsimp only at hSw); go_simp; (try with_reducible rfl); done)
        simp only [Act.put, List.setIfInBounds_toArray, List.set_cons_zero, List.set_cons_succ]
        refine tky 2 (some 42) (v := ?_) rfl (by kernel_rfl) (by kernel_rfl) (by kernel_rfl) (fun _ _ _ h => h) ?_ hHeld ?_
        rotate_left
        focus (intro w hSw; (try dsimp only at hSw); go_simp; (try with_reducible rfl); done)
        simp only [Act.put, List.setIfInBounds_toArray, List.set_cons_zero, List.set_cons_succ]
        refine tky 3 (some 43) (v := ?_) rfl (by kernel_rfl) (by kernel_rfl) (by kernel_rfl) (fun _ _ _ h => h) ?_ hHeld ?_
        rotate_left
        focus (intro w hSw; (try dsimp only at hSw); go_simp; (try with_reducible rfl); done)
        simp only [Act.put, List.setIfInBounds_toArray, List.set_cons_zero, List.set_cons_succ]
        refine tky 4 (some 44) (v := ?_) rfl (by kernel_rfl) (by kernel_rfl) (by kernel_rfl) (fun _ _ _ h => h) ?_ hHeld ?_
        rotate_left
        focus (intro w hSw; (try dsimp only at hSw); go_simp; (try with_reducible rfl); done)
        simp only [Act.put, List.setIfInBounds_toArray, List.set_cons_zero, List.set_cons_succ]
        refine tky 5 (some 45) (v := ?_) rfl (by kernel_rfl) (by kernel_rfl) (by kernel_rfl) (fun _ _ _ h => h) ?_ hHeld ?_
        rotate_left
        focus (intro w hSw; (try dsimp only at hSw); go_simp; (try with_reducible rfl); done)
        simp only [Act.put, List.setIfInBounds_toArray, List.set_cons_zero, List.set_cons_succ]
        refine tky 6 (some 46) (v := ?_) rfl (by kernel_rfl) (by kernel_rfl) (by kernel_rfl) (fun _ _ _ h => h) ?_ hHeld ?_
        rotate_left
        focus (intro w hSw; (try dsimp only at hSw); go_simp; (try with_reducible rfl); done)
        simp only [Act.put, List.setIfInBounds_toArray, List.set_cons_zero, List.set_cons_succ]
        refine rcons 7 rfl (by kernel_rfl) (fun K hK => ?_)
        go_simp
        refine hK.out _ _ (trivial) (fun hHeld2 => ?_)
        clear hK K hHeld
        have hHeld := hHeld2
        clear hHeld2
        (try simp only [Act.put, List.setIfInBounds_toArray, List.set_cons_zero, List.set_cons_succ])
        refine rcons 8 rfl (by kernel_rfl) (fun K hK => ?_)
        rw [if_pos]
        rotate_left
        focus kernel_rfl
        (refine wp_push _ _ rfl w.heap.size ov out rfl (by exact (HO.out.drew.alloc _)) ⟨wo.heap.size, 0, none⟩ 6 [92, 117, 48, 48, y1, y2] rfl (by exact (new_bytes wo.drew _ [92, 117, 48, 48, y1, y2])) (by show out.length + 6 ≤ _; omega) (by show _ ≤ Array.size _; simp <;> omega) ?_; intro v' w3 hown' hgrow)
        (try dsimp only)
        refine hK.out _ _ (trivial) (fun hHeld2 => ?_)
        clear hK K hHeld
        have hHeld := hHeld2
        clear hHeld2
        (try simp only [Act.put, List.setIfInBounds_toArray, List.set_cons_zero, List.set_cons_succ])
        refine tky 9 (some 3) (v := ?_) rfl (by kernel_rfl) (by kernel_rfl) (by kernel_rfl) (fun _ _ _ h => h) ?_ hHeld ?_
        rotate_left
        focus (intro w hSw; (try dsimp only at hSw); go_simp; (try with_reducible rfl); done)
        simp only [Act.put, List.setIfInBounds_toArray, List.set_cons_zero, List.set_cons_succ]
        refine wpAnyH_done (by kernel_rfl) ?_ _
        have hbw3 : Below w.heap.size w w3 := Below.grown ((hbw.alloc hsz _).drew) hgrow (by show _ ≤ Array.size _; simp <;> omega) HO.out.lt
        have HO3 := Lib.hid hown'
        clear hown' hgrow HO hHeld
        go_wp2_with fail
        go_roundg g
        case measure => omega
        case rel => exact ⟨j + 1, out ++ [92, 117, 48, 48, y1, y2], _, rfl, by go_num, by omega, by simp; omega, HO3, HJ2, hbw3⟩
      · have HJ2 : Hid ((out ++ [s[j]]) ++ ((s.data.toList.drop (j + 1)).flatMap quoteC ++ [34]) = r) := Lib.hid (by rw [hq] at HJ1; exact HJ1)
        have HI : Hid (∀ w, Calls Tryz.prog 21 #[.string ⟨#[34, 92, 47, 8, 12, 10, 13, 9]⟩, .int .u8 (s[j].toNat : Int)] w fun e w' => e = .returned (.int .i64 (-1)) ∧ w = w') := Lib.hid (fun w => by
          have := Tryz.strings_IndexByte ⟨#[34, 92, 47, 8, 12, 10, 13, 9]⟩ (s[j].toNat : Int) w
          rw [show ((s[j].toNat : Int)).toNat.toUInt8 = s[j] by simp, told_no s[j] (by omega) (by omega) (by omega) (by omega) (by omega) g34 g47 g92] at this
          exact this.mono fun e w' ⟨h1, h2⟩ => ⟨h1, h2.symm⟩)
        have n47 : ((s[j].toNat : Int) == 47) = false := by rw [beq_eq_false_iff_ne]; omega
        have m47 : ¬ (s[j].toNat : Int) = 47 := by omega
        have hx2 : (32 : Int) ≤ (s[j].toNat : Int) := by omega
        clear HJ1 hq g34 g47 g92
        go_wp2_with fail
        refine (HI.out _).mono ?_; rintro e w1 ⟨rfl, rfl⟩
        go_wp2_with (at_builtin; refine wpList_push rfl _ _ rfl w.heap.size ov out rfl (HO.out.alloc _) ⟨wo.heap.size, 0, none⟩ 1 [s[j]] rfl (new_bytes wo _ [s[j]]) ?c1 ?c2 ?_)
        case c1 => first | omega | (simp; omega)
        case c2 => first | omega | (simp; omega)
        intro v' w3 hown' hgrow
        have hbw3 : Below w.heap.size w w3 := (hbw.alloc hsz _).grown hgrow (by simp; omega) HO.out.lt
        have HO3 := Lib.hid hown'
        clear hown' hgrow HO
        go_wp2_with fail
        go_roundg g
        case measure => omega
        case rel => exact ⟨j + 1, out ++ [s[j]], _, rfl, by go_num, by omega, by simp; omega, HO3, HJ2, hbw3⟩
    · have HJ2 : Hid (out ++ [34] = r) := Lib.hid (by
        have := HJ.out
        rw [List.drop_of_length_le (by rw [Array.length_toList]; exact Nat.le_of_not_lt hlt)] at this
        exact this)
      clear HJ
      go_wp2_with (at_builtin; refine wpList_push rfl _ _ rfl w.heap.size ov out rfl (HO.out.alloc _) ⟨wo.heap.size, 0, none⟩ 1 [34] rfl (new_bytes wo _ [34]) ?c1 ?c2 ?_)
      case c1 => first | omega | (simp; omega)
      case c2 => first | omega | (simp; omega)
      intro v' w3 hown' hgrow
      have hbw3 : Below w.heap.size w w3 := (hbw.alloc hsz _).grown hgrow (by simp; omega) HO.out.lt
      have HC := run_convert_own hown'
      clear hown' hgrow HO
      go_wp2_with fail
      go_ret
      exact ⟨congrArg (fun z : List UInt8 => Ending.returned (Value.string ⟨z.toArray⟩)) HJ2.out, hbw3⟩
end Go.Proofs.YtgclnjogoghhcaaGreatDoor
namespace Go.Proofs.YtgclnjogoghhcaaGreatDoor
open Go.RowKit
set_option maxRecDepth 100000 in
theorem jquote_any (x : ByteArray) (hx : x.size ≤ 100000) (w : World) (hE : EnvU w) :
    Calls Tryz.prog 23 #[.string x] w fun e w' => e = .returned (if chkE x.data.toList = 0 then .tuple #[.string ⟨(quoteL x.data.toList).toArray⟩, .int .i64 0] else .tuple #[.string ⟨#[]⟩, .int .i64 (chkE x.data.toList)]) ∧ Below w.heap.size w w' := by
  have H1 := Lib.hid (fun V (hb : Below w.heap.size w V) => tcheck_any x (by omega) V (hE.below hb))
  have H2 := Lib.hid (fun w => quote_any x hx w)
  have hc : chkE x.data.toList = 0 ∨ chkE x.data.toList = 4 ∨ chkE x.data.toList = 10 := by
    unfold chkE
    by_cases q : 16384 < x.data.toList.length
    · rw [if_pos q]; right; left; rfl
    · rw [if_neg q]
      cases Lib.validD x.data.toList
      · right; right; rfl
      · left; rfl
  clear hE
  generalize chkE x.data.toList = c at *
  generalize (⟨(quoteL x.data.toList).toArray⟩ : ByteArray) = q at *
  rcases hc with rfl | rfl | rfl
  · go_enter Tryz.func23, Tryz.ntmps23
    go_wp2_with fail
    refine (H1.out _ (Below.refl _ _)).mono ?_; rintro e w1 ⟨rfl, hb⟩
    have HW := Lib.hid hb
    have hsz := hb.size
    clear hb
    go_wp2_with fail
    refine (H2.out _).mono ?_; rintro e w2 ⟨rfl, hb⟩
    have HW2 := Lib.hid (HW.out.trans (hb.mono hsz))
    clear hb
    go_wp2_with fail
    go_ret2
    exact ⟨rfl, HW2.out⟩
  all_goals
    go_enter Tryz.func23, Tryz.ntmps23
    go_wp2_with fail
    refine (H1.out _ (Below.refl _ _)).mono ?_; rintro e w1 ⟨rfl, hb⟩
    have HW := Lib.hid hb
    clear hb
    go_wp2_with fail
    go_ret2
    exact ⟨rfl, HW.out⟩
end Go.Proofs.YtgclnjogoghhcaaGreatDoor
namespace Go.Proofs.YtgclnjogoghhcaaGreatDoor
open Go.RowKit
theorem quoteC_len (c : UInt8) : (quoteC c).length ≤ 6 := by
  unfold quoteC
  repeat' split
  all_goals simp
theorem quoteL_len (l : List UInt8) : (quoteL l).length ≤ 6 * l.length + 2 := by
  unfold quoteL
  have : (l.flatMap quoteC).length ≤ 6 * l.length := by
    induction l with
    | nil => simp
    | cons c r ih =>
      rw [List.flatMap_cons, List.length_append, List.length_cons]
      have := quoteC_len c
      omega
  simp only [List.length_append, List.length_cons, List.length_nil]
  omega
theorem tellT_len (t : Tok) : (tellT t).length ≤ 6 * t.text.length + 2 := by
  unfold tellT
  split
  · exact quoteL_len _
  · omega
end Go.Proofs.YtgclnjogoghhcaaGreatDoor
namespace Go.Proofs.YtgclnjogoghhcaaGreatDoor
open Go.RowKit
theorem joinW_inter : ∀ l : List (List UInt8), joinW l = Lib.join l [32]
  | [] => rfl
  | [x] => by simp [joinW, Lib.join, List.intercalate]
  | x :: y :: r => by
    rw [joinW, joinW_inter (y :: r)]
    have e : List.intersperse [32] (x :: y :: r) = x :: [32] :: List.intersperse [32] (y :: r) := by simp [List.intersperse]
    unfold Lib.join List.intercalate
    rw [e]
    simp
theorem sjoin_any (B : Nat) (v : Value) (l : List ByteArray) (w : World) (h : OwnS B v l w) (hl : l.length ≤ 1000000) (hs : (joinW (l.map (·.data.toList))).length ≤ 1000000000) :
    Calls Tryz.prog 24 #[v, .string ⟨#[32]⟩] w fun e w' => e = .returned (.string ⟨(joinW (l.map (·.data.toList))).toArray⟩) ∧ Below w.heap.size w w' := by
  rw [joinW_inter] at hs ⊢
  rcases h.cells with ⟨rfl, rfl⟩ | ⟨g, cap, rfl, hg, hc, hcl⟩
  · exact (Tryz.strings_Join_none none 0 ⟨#[32]⟩ w).mono fun e w' ⟨h1, h2⟩ => ⟨h1, by rw [h2]; exact Below.refl _ _⟩
  · exact Tryz.strings_Join g 0 cap l ⟨#[32]⟩ w hcl hg (by omega) hc (by simpa using Nat.le_trans hs (by decide))
end Go.Proofs.YtgclnjogoghhcaaGreatDoor
namespace Go.Proofs.YtgclnjogoghhcaaGreatDoor
open Go.RowKit
theorem okTs_last (L : List Tok) (k : Nat) (h : k < L.length) (hl : ¬ k + 1 < L.length) : okTs (L.drop k) = okT L[k] := by
  rw [List.drop_eq_getElem_cons h, List.drop_of_length_le (by omega)]; rfl
theorem okTs_step (L : List Tok) (k : Nat) (h : k < L.length) (hl : k + 1 < L.length) : okTs (L.drop k) = (okT L[k] && !(L[k].kind == 0) && okTs (L.drop (k + 1))) := by
  rw [List.drop_eq_getElem_cons h]
  rw [List.drop_eq_getElem_cons hl]
  rfl
/-- What Join answers. -/
def joinE (L : List Tok) : Value := if okTs L then .tuple #[.string ⟨(joinT L).toArray⟩, .int .i64 0] else .tuple #[.string ⟨#[]⟩, .int .i64 8]
theorem joinE_no {L : List Tok} (h : okTs L = false) : Ending.returned (.tuple #[.string ⟨#[]⟩, .int .i64 8]) = Ending.returned (joinE L) := by unfold joinE; rw [h]; rfl
theorem joinE_yes {L : List Tok} (h : okTs L = true) : Ending.returned (.tuple #[.string ⟨(joinT L).toArray⟩, .int .i64 0]) = Ending.returned (joinE L) := by unfold joinE; rw [h]; rfl
end Go.Proofs.YtgclnjogoghhcaaGreatDoor
namespace Go.Proofs.YtgclnjogoghhcaaGreatDoor
open Go.RowKit
def wordsB (L : List Tok) : List ByteArray := (wordsT L).map fun l => (⟨l.toArray⟩ : ByteArray)
theorem wordsB_end (t : Tok) (r : List Tok) (h : t.kind = 0) : wordsB (t :: r) = wordsB r := by unfold wordsB; rw [wordsT, if_pos h]
theorem wordsB_word (t : Tok) (r : List Tok) (h : t.kind ≠ 0) : wordsB (t :: r) = ⟨(tellT t).toArray⟩ :: wordsB r := by unfold wordsB; rw [wordsT, if_neg h]; rfl
theorem wordsB_list (L : List Tok) : (wordsB L).map (·.data.toList) = wordsT L := by
  unfold wordsB
  rw [List.map_map]
  exact (List.map_congr_left fun l _ => by simp).trans (List.map_id _)
theorem joinT_len (L : List Tok) (hz : ∀ t ∈ L, t.text.length ≤ 20000) : (joinT L).length ≤ 120003 * L.length := by
  have hr : ∀ L : List Tok, (∀ t ∈ L, t.text.length ≤ 20000) → (restT L).length ≤ 120003 * L.length := by
    intro L
    induction L with
    | nil => intro _; simp [restT]
    | cons t r ih =>
      intro h
      have h1 := h t (List.mem_cons_self ..)
      have h2 := ih fun u hu => h u (List.mem_cons_of_mem _ hu)
      have h3 := tellT_len t
      have h4 : (if t.kind = 0 then ([] : List UInt8) else [32]).length ≤ 1 := by split <;> simp
      rw [restT, List.length_append, List.length_append, List.length_cons]
      omega
  cases L with
  | nil => simp [joinT]
  | cons t r =>
    have h1 := hz t (List.mem_cons_self ..)
    have h2 := hr r fun u hu => hz u (List.mem_cons_of_mem _ hu)
    have h3 := tellT_len t
    rw [joinT, List.length_append, List.length_cons]
    omega
def QuoteDoes (w : World) : Prop := ∀ (x : ByteArray), x.size ≤ 100000 → Lib.validD x.data.toList = true → x.data.toList.length ≤ 16384 → ∀ W : World, Below w.heap.size w W →
    Calls Tryz.prog 23 #[.string x] W fun e w' => e = .returned (.tuple #[.string ⟨(quoteL x.data.toList).toArray⟩, .int .i64 0]) ∧ Below W.heap.size W w'
def CheckDoes (w : World) : Prop := ∀ (k : UInt8) (x : ByteArray) (p : Int), x.size ≤ 100000 → ∀ W : World, Below w.heap.size w W →
    Calls Tryz.prog 17 #[.agg #[.int .u8 (k.toNat : Int), .string x, .int .i64 p]] W fun e w' => e = .returned (.int .i64 (if okT ⟨k, x.data.toList, p⟩ then 0 else 8)) ∧ Below W.heap.size W w'
set_option maxRecDepth 100000 in
set_option maxHeartbeats 1000000 in
theorem ljoin_row (L : List Tok) (b off cap : Nat) (hl : L.length ≤ 3000) (hz : ∀ t ∈ L, t.text.length ≤ 20000) (w : World) (HC : CheckDoes w) (HQQ : QuoteDoes w) (h1 : TokRow b off L w) :
    Calls Tryz.prog 16 #[.slice (some ⟨b, off, none⟩) L.length cap] w fun e w' => e = .returned (joinE L) ∧ Below w.heap.size w w' := by
  have H1 := Lib.hid h1
  have HZ := Lib.hid hz
  have HCC := Lib.hid HC
  have HQT := Lib.hid HQQ
  obtain ⟨r, hr⟩ : ∃ r, okTs L = r := ⟨_, rfl⟩
  have HR0 := Lib.hid hr
  have HR : Hid (okTs (L.drop 0) = r) := Lib.hid hr
  obtain ⟨E, hE⟩ : ∃ E, joinE L = E := ⟨_, rfl⟩
  have HE := Lib.hid hE
  have HW : Hid ([] ++ wordsB (L.drop 0) = wordsB L) := Lib.hid rfl
  rw [hE]
  clear hr hE h1 hz HC HQQ
  go_enter Tryz.func16, Tryz.ntmps16
  go_wp2_with fail
  go_loopw [4, 11] (fun v i wr => ∃ (k : Nat) (out : List ByteArray) (ov : Value), ov = v ∧ k ≤ L.length ∧ i = .int .i64 k ∧ out.length ≤ k ∧ Hid (OwnS w.heap.size ov out wr) ∧ Hid (out ++ wordsB (L.drop k) = wordsB L) ∧ Hid (okTs (L.drop k) = r) ∧ Hid (Below w.heap.size w wr)) (fun v i wr => L.length - (intOf i).toNat)
  case atStart => exact ⟨0, [], _, rfl, Nat.zero_le _, rfl, Nat.le_refl _, Lib.hid (OwnS.nil _ _), HW, HR, Lib.hid (Below.refl _ _)⟩
  case round =>
    rename World => wr
    obtain ⟨k, out, ov, rfl, hk, rfl, hout, HO, HQ, HS, HB⟩ := hrel
    by_cases hlt : k < L.length
    · obtain ⟨a0, a1, a2⟩ := (H1.out.below' HB.out) k hlt
      have hxs := HZ.out L[k] (List.getElem_mem _)
      have hxz : (⟨L[k].text.toArray⟩ : ByteArray).size = L[k].text.length := by show L[k].text.toArray.size = _; simp
      have H2 := Lib.hid (fun W hW => HCC.out L[k].kind ⟨L[k].text.toArray⟩ L[k].pos (by omega) W hW)
      have htt : (⟨L[k].kind, (⟨L[k].text.toArray⟩ : ByteArray).data.toList, L[k].pos⟩ : Tok) = L[k] := by simp
      rw [htt] at H2
      have hsz := HB.out.size
      have hstep := HS.out
      have hlast := okTs_last L k hlt
      have hnext := okTs_step L k hlt
      have hkind : ((L[k].kind.toNat : Int) = 0) ↔ L[k].kind = 0 := by
        constructor
        · intro h; exact UInt8.toNat_inj.1 (by show L[k].kind.toNat = 0; omega)
        · intro h; rw [h]; rfl
      clear hxs hxz htt HS
      cases hm : okT L[k] with
      | false =>
        rw [hm, if_neg Bool.false_ne_true] at H2
        have HF : Hid (Ending.returned (.tuple #[.string ⟨#[]⟩, .int .i64 8]) = Ending.returned E) := Lib.hid (by
          have h0 : okTs (L.drop k) = false := by
            by_cases hk1 : k + 1 < L.length
            · rw [hnext hk1, hm]; rfl
            · rw [hlast hk1, hm]
          rw [← HE.out]
          exact joinE_no (HR0.out.trans (hstep.symm.trans h0)))
        clear hm hnext hlast hstep hkind
        generalize (L[k].kind.toNat : Int) = ka at *
        generalize L[k].pos = pa at *
        generalize (⟨L[k].text.toArray⟩ : ByteArray) = x at *
        go_wp2_with fail
        refine (H2.out _ (HB.out.alloc hsz _)).mono ?_; rintro e w1 ⟨rfl, hb⟩
        have hh : w1.heap[wr.heap.size]? = some (.cells #[.int .u8 ka, .string x, .int .i64 pa] 30 (0, 0)) := (hb.block _ (by simp)).trans (heap_alloc_new wr _)
        have c0 : w1.cell? ⟨wr.heap.size, 0, none⟩ = some (.int .u8 ka) := by rw [Lib.cell_of_heap hh]; rfl
        have c1 : w1.cell? ⟨wr.heap.size, 1, none⟩ = some (.string x) := by rw [Lib.cell_of_heap hh]; rfl
        have c2 : w1.cell? ⟨wr.heap.size, 2, none⟩ = some (.int .i64 pa) := by rw [Lib.cell_of_heap hh]; rfl
        have hbw1 := (HB.out.alloc hsz _).trans (hb.mono (by simp; omega))
        have hsz1 := hbw1.size
        have HB1 := Lib.hid hbw1
        have HO1 := Lib.hid ((HO.out.alloc (.cells #[.int .u8 ka, .string x, .int .i64 pa] 30)).below hb)
        have HH := Lib.hid hh
        clear hb hh hbw1
        go_wp2_with fail
        go_ret2
        exact ⟨HF.out, HB1.out⟩
      | true =>
        rw [hm, if_pos rfl] at H2
        have hdw := List.drop_eq_getElem_cons hlt
        by_cases kk : L[k].kind = 0
        · have q0 : ((L[k].kind.toNat : Int) == 0) = true := beq_iff_eq.2 (hkind.2 kk)
          by_cases hk1 : k + 1 < L.length
          · have HF : Hid (Ending.returned (.tuple #[.string ⟨#[]⟩, .int .i64 8]) = Ending.returned E) := Lib.hid (by
              have h0 : okTs (L.drop k) = false := by rw [hnext hk1, kk]; simp
              rw [← HE.out]
              exact joinE_no (HR0.out.trans (hstep.symm.trans h0)))
            have hki : (k : Int) < (L.length : Int) - 1 := by omega
            clear hm hnext hlast hstep hkind kk hdw
            generalize (L[k].kind.toNat : Int) = ka at *
            generalize L[k].pos = pa at *
            generalize (⟨L[k].text.toArray⟩ : ByteArray) = x at *
            go_wp2_with fail
            refine (H2.out _ (HB.out.alloc hsz _)).mono ?_; rintro e w1 ⟨rfl, hb⟩
            have hh : w1.heap[wr.heap.size]? = some (.cells #[.int .u8 ka, .string x, .int .i64 pa] 30 (0, 0)) := (hb.block _ (by simp)).trans (heap_alloc_new wr _)
            have c0 : w1.cell? ⟨wr.heap.size, 0, none⟩ = some (.int .u8 ka) := by rw [Lib.cell_of_heap hh]; rfl
            have c1 : w1.cell? ⟨wr.heap.size, 1, none⟩ = some (.string x) := by rw [Lib.cell_of_heap hh]; rfl
            have c2 : w1.cell? ⟨wr.heap.size, 2, none⟩ = some (.int .i64 pa) := by rw [Lib.cell_of_heap hh]; rfl
            have hbw1 := (HB.out.alloc hsz _).trans (hb.mono (by simp; omega))
            have hsz1 := hbw1.size
            have HB1 := Lib.hid hbw1
            have HO1 := Lib.hid ((HO.out.alloc (.cells #[.int .u8 ka, .string x, .int .i64 pa] 30)).below hb)
            have HH := Lib.hid hh
            clear hb hh hbw1
            go_wp2_with fail
            go_ret2
            exact ⟨HF.out, HB1.out⟩
          · have HS2 : Hid (okTs (L.drop (k + 1)) = r) := Lib.hid (by
              rw [← hstep, hlast hk1, hm, List.drop_of_length_le (by omega)]; rfl)
            have HQ2 : Hid (out ++ wordsB (L.drop (k + 1)) = wordsB L) := Lib.hid (by
              have := HQ.out
              rw [hdw, wordsB_end _ _ kk] at this
              exact this)
            have hki : ¬ (k : Int) < (L.length : Int) - 1 := by omega
            clear hm hnext hlast hstep hkind kk hdw HQ
            generalize (L[k].kind.toNat : Int) = ka at *
            generalize L[k].pos = pa at *
            generalize (⟨L[k].text.toArray⟩ : ByteArray) = x at *
            go_wp2_with fail
            refine (H2.out _ (HB.out.alloc hsz _)).mono ?_; rintro e w1 ⟨rfl, hb⟩
            have hh : w1.heap[wr.heap.size]? = some (.cells #[.int .u8 ka, .string x, .int .i64 pa] 30 (0, 0)) := (hb.block _ (by simp)).trans (heap_alloc_new wr _)
            have c0 : w1.cell? ⟨wr.heap.size, 0, none⟩ = some (.int .u8 ka) := by rw [Lib.cell_of_heap hh]; rfl
            have c1 : w1.cell? ⟨wr.heap.size, 1, none⟩ = some (.string x) := by rw [Lib.cell_of_heap hh]; rfl
            have c2 : w1.cell? ⟨wr.heap.size, 2, none⟩ = some (.int .i64 pa) := by rw [Lib.cell_of_heap hh]; rfl
            have hbw1 := (HB.out.alloc hsz _).trans (hb.mono (by simp; omega))
            have hsz1 := hbw1.size
            have HB1 := Lib.hid hbw1
            have HO1 := Lib.hid ((HO.out.alloc (.cells #[.int .u8 ka, .string x, .int .i64 pa] 30)).below hb)
            have HH := Lib.hid hh
            clear hb hh hbw1
            go_wp2_with fail
            go_roundw
            case rel => exact ⟨k + 1, out, _, rfl, by omega, by go_num, by omega, HO1, HQ2, HS2, HB1⟩
            case measure => simp [intOf]; omega
        · have q0 : ((L[k].kind.toNat : Int) == 0) = false := beq_eq_false_iff_ne.2 fun h => kk (hkind.1 h)
          have HS2 : Hid (okTs (L.drop (k + 1)) = r) := Lib.hid (by
            by_cases hk1 : k + 1 < L.length
            · rw [← hstep, hnext hk1, hm, beq_eq_false_iff_ne.2 kk]; simp
            · rw [← hstep, hlast hk1, hm, List.drop_of_length_le (by omega)]; rfl)
          have HQ2 : Hid ((out ++ [⟨(tellT L[k]).toArray⟩]) ++ wordsB (L.drop (k + 1)) = wordsB L) := Lib.hid (by
            have := HQ.out
            rw [hdw, wordsB_word _ _ kk] at this
            rw [← this]; simp)
          by_cases k3 : L[k].kind = 3
          · have q3 : ((L[k].kind.toNat : Int) == 3) = true := by rw [k3]; rfl
            have htx : textB L[k].text = true := by
              unfold okT at hm
              rw [k3] at hm
              simpa using hm
            have H5 : Hid (∀ W : World, Below w.heap.size w W → Calls Tryz.prog 23 #[.string ⟨L[k].text.toArray⟩] W fun e w' => e = .returned (.tuple #[.string ⟨(tellT L[k]).toArray⟩, .int .i64 0]) ∧ Below W.heap.size W w') := Lib.hid (by
              unfold textB at htx
              simp only [Bool.and_eq_true, decide_eq_true_eq] at htx
              have ht : tellT L[k] = quoteL L[k].text := by unfold tellT; rw [if_pos k3]
              rw [ht]
              have hq := HQT.out ⟨L[k].text.toArray⟩ (by show L[k].text.toArray.size ≤ _; simp; omega) (by simpa using htx.2) (by simpa using htx.1)
              simpa using hq)
            clear hm hnext hlast hstep hkind kk hdw HQ htx k3
            generalize (⟨(tellT L[k]).toArray⟩ : ByteArray) = tx at *
            generalize (L[k].kind.toNat : Int) = ka at *
            generalize L[k].pos = pa at *
            generalize (⟨L[k].text.toArray⟩ : ByteArray) = x at *
            go_wp2_with fail
            refine (H2.out _ (HB.out.alloc hsz _)).mono ?_; rintro e w1 ⟨rfl, hb⟩
            have hh : w1.heap[wr.heap.size]? = some (.cells #[.int .u8 ka, .string x, .int .i64 pa] 30 (0, 0)) := (hb.block _ (by simp)).trans (heap_alloc_new wr _)
            have c0 : w1.cell? ⟨wr.heap.size, 0, none⟩ = some (.int .u8 ka) := by rw [Lib.cell_of_heap hh]; rfl
            have c1 : w1.cell? ⟨wr.heap.size, 1, none⟩ = some (.string x) := by rw [Lib.cell_of_heap hh]; rfl
            have c2 : w1.cell? ⟨wr.heap.size, 2, none⟩ = some (.int .i64 pa) := by rw [Lib.cell_of_heap hh]; rfl
            have hbw1 := (HB.out.alloc hsz _).trans (hb.mono (by simp; omega))
            have hsz1 := hbw1.size
            have HB1 := Lib.hid hbw1
            have HO1 := Lib.hid ((HO.out.alloc (.cells #[.int .u8 ka, .string x, .int .i64 pa] 30)).below hb)
            have HH := Lib.hid hh
            clear hb hh hbw1
            go_wp2_with fail
            refine (H5.out _ HB1.out).mono ?_; rintro e w2 ⟨rfl, hb⟩
            have HO2 := Lib.hid (HO1.out.below hb)
            have hbw2 := HB1.out.trans (hb.mono hsz1)
            have hsz2 := hbw2.size
            clear hb HO1
            go_wp2_with (at_builtin; refine wpList_pushS rfl _ _ rfl w.heap.size ov out rfl (HO2.out.alloc _) ⟨w2.heap.size, 0, none⟩ 1 tx rfl (new_cell0 w2 _ _) ?c1 ?c2 ?_)
            case c1 => omega
            case c2 => simp; omega
            intro v' w3 hown' hgrow
            have HB3 : Hid (Below w.heap.size w w3) := Lib.hid ((hbw2.alloc hsz2 _).grown hgrow (by simp; omega) HO2.out.lt)
            have HO3 := Lib.hid hown'
            clear hown' hgrow HO2 hbw2
            go_wp2_with fail
            go_roundw
            case rel => exact ⟨k + 1, out ++ [tx], _, rfl, by omega, by go_num, by simp; omega, HO3, HQ2, HS2, HB3⟩
            case measure => simp [intOf]; omega
          · have q3 : ((L[k].kind.toNat : Int) == 3) = false := by
              rw [beq_eq_false_iff_ne]; intro h; exact k3 (UInt8.toNat_inj.1 (by show L[k].kind.toNat = 3; omega))
            have ht : tellT L[k] = L[k].text := by unfold tellT; rw [if_neg k3]
            rw [ht] at HQ2
            clear hm hnext hlast hstep hkind kk hdw HQ k3 ht
            generalize (L[k].kind.toNat : Int) = ka at *
            generalize L[k].pos = pa at *
            generalize (⟨L[k].text.toArray⟩ : ByteArray) = x at *
            go_wp2_with fail
            refine (H2.out _ (HB.out.alloc hsz _)).mono ?_; rintro e w1 ⟨rfl, hb⟩
            have hh : w1.heap[wr.heap.size]? = some (.cells #[.int .u8 ka, .string x, .int .i64 pa] 30 (0, 0)) := (hb.block _ (by simp)).trans (heap_alloc_new wr _)
            have c0 : w1.cell? ⟨wr.heap.size, 0, none⟩ = some (.int .u8 ka) := by rw [Lib.cell_of_heap hh]; rfl
            have c1 : w1.cell? ⟨wr.heap.size, 1, none⟩ = some (.string x) := by rw [Lib.cell_of_heap hh]; rfl
            have c2 : w1.cell? ⟨wr.heap.size, 2, none⟩ = some (.int .i64 pa) := by rw [Lib.cell_of_heap hh]; rfl
            have hbw1 := (HB.out.alloc hsz _).trans (hb.mono (by simp; omega))
            have hsz1 := hbw1.size
            have HB1 := Lib.hid hbw1
            have HO1 := Lib.hid ((HO.out.alloc (.cells #[.int .u8 ka, .string x, .int .i64 pa] 30)).below hb)
            have HH := Lib.hid hh
            clear hb hh hbw1
            go_wp2_with (at_builtin; refine wpList_pushS rfl _ _ rfl w.heap.size ov out rfl (HO1.out.alloc _) ⟨w1.heap.size, 0, none⟩ 1 x rfl (new_cell0 w1 _ _) ?c1 ?c2 ?_)
            case c1 => omega
            case c2 => simp; omega
            intro v' w3 hown' hgrow
            have HB3 : Hid (Below w.heap.size w w3) := Lib.hid ((HB1.out.alloc hsz1 _).grown hgrow (by simp; omega) HO1.out.lt)
            have HO3 := Lib.hid hown'
            clear hown' hgrow HO1
            go_wp2_with fail
            go_roundw
            case rel => exact ⟨k + 1, out ++ [x], _, rfl, by omega, by go_num, by simp; omega, HO3, HQ2, HS2, HB3⟩
            case measure => simp [intOf]; omega
    · have hd : L.drop k = [] := List.drop_of_length_le (by omega)
      have HF : Hid (Ending.returned (.tuple #[.string ⟨(joinT L).toArray⟩, .int .i64 0]) = Ending.returned E) := Lib.hid (by
        have h0 := HS.out
        rw [hd] at h0
        rw [← HE.out]
        exact joinE_yes (HR0.out.trans h0.symm))
      have hok : okTs L = true := by
        have h0 := HS.out
        rw [hd] at h0
        exact HR0.out.trans h0.symm
      have hout' : out = wordsB L := by
        have := HQ.out
        rw [hd] at this
        simpa [wordsB, wordsT] using this
      have hsz := HB.out.size
      have H3 : Hid (Calls Tryz.prog 24 #[ov, .string ⟨#[32]⟩] wr fun e w' => e = .returned (.string ⟨(joinT L).toArray⟩) ∧ Below wr.heap.size wr w') := Lib.hid (by
        have hj : joinW (out.map (·.data.toList)) = joinT L := by rw [hout', wordsB_list, join_words L hok]
        have hjl := joinT_len L HZ.out
        have h := sjoin_any w.heap.size ov out wr HO.out (by omega) (by rw [hj]; omega)
        rw [hj] at h
        exact h)
      clear HS HQ hd hok hout'
      generalize (⟨(joinT L).toArray⟩ : ByteArray) = q at *
      go_wp2_with fail
      refine H3.out.mono ?_; rintro e w1 ⟨rfl, hb⟩
      have HB1 := Lib.hid (HB.out.trans (hb.mono hsz))
      clear hb
      go_wp2_with fail
      go_ret2
      exact ⟨HF.out, HB1.out⟩
set_option maxRecDepth 100000 in
theorem ljoin_none (a : Option Addr) (cap : Nat) (w : World) :
    Calls Tryz.prog 16 #[.slice a 0 cap] w fun e w' => e = .returned (joinE []) ∧ Below w.heap.size w w' := by
  have H3 := Lib.hid (fun w => sjoin_any 0 (.slice none 0 0) [] w (OwnS.nil _ _) (by decide) (by decide))
  go_enter Tryz.func16, Tryz.ntmps16
  go_wp2_with fail
  refine wp_loop_rounds 1 ?_; rw [rounds_succ]
  go_wp2_with fail
  refine (H3.out _).mono ?_; rintro e w1 ⟨rfl, hb⟩
  go_wp2_with fail
  go_ret2
  exact ⟨rfl, hb⟩
theorem ljoin_any (L : List Tok) (u : Value) (hl : L.length ≤ 3000) (hz : ∀ t ∈ L, t.text.length ≤ 20000) (w : World) (hE : EnvU w) (h1 : TokSl u L w) :
    Calls Tryz.prog 16 #[u] w fun e w' => e = .returned (joinE L) ∧ Below w.heap.size w w' := by
  rcases h1 with ⟨a1, c1, rfl, rfl, _⟩ | ⟨b1, o1, c1, rfl, h1⟩
  · exact ljoin_none a1 c1 w
  · refine ljoin_row L b1 o1 c1 hl hz w (fun k x p hx W hW => lcheck_any k x p (by omega) W (hE.below hW)) (fun x hx hv hn W hW => ?_) h1
    refine (jquote_any x hx W (hE.below hW)).mono ?_
    rintro e w' ⟨h2, h3⟩
    refine ⟨?_, h3⟩
    have hc : chkE x.data.toList = 0 := by unfold chkE; rw [if_neg (by omega), hv]; rfl
    rw [h2, if_pos hc]
end Go.Proofs.YtgclnjogoghhcaaGreatDoor
namespace Go.Proofs.YtgclnjogoghhcaaGreatDoor
open Go.RowKit
def sumG (L : List Tok) : Nat := (L.map fun t => min t.text.length 10000).sum
def greatB (L : List Tok) : Bool := decide (200 < L.length) || decide (3000 < sumG (L.take 300))
theorem sumG_snoc (L : List Tok) (k : Nat) (h : k < L.length) : sumG (L.take (k + 1)) = sumG (L.take k) + min L[k].text.length 10000 := by
  unfold sumG
  rw [List.take_succ_eq_append_getElem h, List.map_append, List.sum_append]
  simp
set_option maxRecDepth 100000 in
set_option maxHeartbeats 1000000 in
theorem great_any (L : List Tok) (b off cap : Nat) (hl : L.length ≤ 9223372036854775807) (w : World) (hr : TokRow b off L w) (hsz : ∀ t ∈ L, t.text.length ≤ 9223372036854775807) :
    Calls Tryz.prog 15 #[.slice (some ⟨b, off, none⟩) L.length cap] w fun e w' => e = .returned (.bool (greatB L)) ∧ w = w' := by
  have HT := Lib.hid hr
  have HZ := Lib.hid hsz
  clear hr hsz
  obtain ⟨r, hr⟩ : ∃ r, greatB L = r := ⟨_, rfl⟩
  have HR := Lib.hid hr
  rw [hr]
  clear hr
  go_enter Tryz.func15, Tryz.ntmps15
  go_wp2_with fail
  go_loop [3, 4] (fun n i => ∃ k m : Nat, k ≤ L.length ∧ k ≤ 300 ∧ i = .int .i64 k ∧ n = .int .i64 m ∧ m ≤ 10000 * k ∧ Hid (sumG (L.take k) = m)) (fun n i => L.length - (intOf i).toNat)
  case atStart => exact ⟨0, 0, Nat.zero_le _, Nat.zero_le _, rfl, rfl, by omega, Lib.hid rfl⟩
  case round =>
    obtain ⟨k, m, hk, hk3, rfl, rfl, hm, HM⟩ := hrel
    have stop : (k = L.length ∨ k = 300) → sumG (L.take 300) = m := by
      intro h
      rw [← HM.out]
      rcases h with h | h
      · rw [List.take_of_length_le (by omega), h, List.take_length]
      · rw [h]
    by_cases hlt : k < L.length
    · by_cases h3 : k < 300
      · obtain ⟨_, c1, _⟩ := HT.out k hlt
        have hs := HZ.out L[k] (List.getElem_mem _)
        have HM2 : Hid (sumG (L.take (k + 1)) = m + min L[k].text.length 10000) := Lib.hid (by rw [sumG_snoc L k hlt, HM.out])
        have hbs : (⟨L[k].text.toArray⟩ : ByteArray).size = L[k].text.length := by rw [← len_z]
        have HB := Lib.hid hbs
        clear hbs stop
        obtain ⟨x, hx⟩ : ∃ x : ByteArray, (⟨L[k].text.toArray⟩ : ByteArray) = x := ⟨_, rfl⟩
        rw [hx] at c1 HB
        have hxs : x.size ≤ 9223372036854775807 := by rw [HB.out]; exact hs
        rw [← HB.out] at HM2
        clear hx hs HB
        go_wp2_with fail
        all_goals
          go_round
          case rel => exact ⟨k + 1, m + min x.size 10000, by omega, by omega, by go_num, by first | go_num | (congr 1; omega), by omega, HM2⟩
          case measure => simp [intOf]; omega
      · have hs := stop (Or.inr (by omega))
        have HF : Hid ((decide (200 < L.length) || decide (3000 < m)) = r) := Lib.hid (by rw [← HR.out, ← hs]; rfl)
        clear stop hs
        have h4 : ¬ (k : Int) < 300 := by omega
        go_wp2_with fail
        all_goals
          go_ret
          refine ⟨ret_b (Eq.trans ?_ HF.out), rfl⟩
          rw [Bool.eq_iff_iff]
          simp only [Bool.or_eq_true, decide_eq_true_eq, true_iff]
          omega
    · have hs := stop (Or.inl (by omega))
      have HF : Hid ((decide (200 < L.length) || decide (3000 < m)) = r) := Lib.hid (by rw [← HR.out, ← hs]; rfl)
      clear stop hs
      go_wp2_with fail
      all_goals
        go_ret
        refine ⟨ret_b (Eq.trans ?_ HF.out), rfl⟩
        rw [Bool.eq_iff_iff]
        simp only [Bool.or_eq_true, decide_eq_true_eq, true_iff]
        omega
set_option maxRecDepth 100000 in
theorem great_none (a : Option Addr) (cap : Nat) (w : World) :
    Calls Tryz.prog 15 #[.slice a 0 cap] w fun e w' => e = .returned (.bool (greatB [])) ∧ w = w' := by
  go_enter Tryz.func15, Tryz.ntmps15
  go_wp2_with fail
  refine wp_loop_rounds 1 ?_; rw [rounds_succ]
  go_wp2_with fail
  go_ret
  exact ⟨rfl, rfl⟩
theorem great_sl (L : List Tok) (u : Value) (hl : L.length ≤ maxLen) (w : World) (hr : TokSl u L w) (hsz : ∀ t ∈ L, t.text.length ≤ maxLen) :
    Calls Tryz.prog 15 #[u] w fun e w' => e = .returned (.bool (greatB L)) ∧ w = w' := by
  unfold maxLen at *
  rcases hr with ⟨a1, c1, rfl, rfl, _⟩ | ⟨b1, o1, c1, rfl, h1⟩
  · exact great_none a1 c1 w
  · exact great_any L b1 o1 c1 hl w h1 hsz
theorem sum_mem : ∀ (l : List Nat) (n : Nat), n ∈ l → n ≤ l.sum
  | [], _, h => by cases h
  | a :: r, n, h => by
    rw [List.sum_cons]
    rcases List.mem_cons.1 h with h | h
    · omega
    · have := sum_mem r n h
      omega
theorem small_of_great (L : List Tok) (h : greatB L = false) : L.length ≤ 200 ∧ ∀ t ∈ L, t.text.length ≤ 3000 := by
  unfold greatB at h
  rw [Bool.or_eq_false_iff, decide_eq_false_iff_not, decide_eq_false_iff_not] at h
  obtain ⟨h1, h2⟩ := h
  rw [List.take_of_length_le (by omega)] at h2
  refine ⟨by omega, fun t ht => ?_⟩
  have hle : min t.text.length 10000 ≤ sumG L := by
    unfold sumG
    exact sum_mem _ _ (List.mem_map.2 ⟨t, ht, rfl⟩)
  omega
end Go.Proofs.YtgclnjogoghhcaaGreatDoor
namespace Go.Proofs.YtgclnjogoghhcaaGreatDoor
open Go.RowKit
theorem OwnT.first {B : Nat} {v : Value} {L : List Tok} {W : World} (h : OwnT B v L W) (h0 : 0 < L.length) : ∃ g cap, v = .slice (some ⟨g, 0, none⟩) L.length cap ∧ W.cell? ⟨g, (L.length - 1) * 3, none⟩ = some (.int .u8 ((L.getLastD ⟨0, [], -1⟩).kind.toNat : Int)) := by
  rcases h.2 with ⟨h1, h2⟩ | ⟨g, cap, cur, hv, hB, hg, hn, hc, hcs, ht⟩
  · omega
  · refine ⟨g, cap, hv, ?_⟩
    obtain ⟨g2, _, _⟩ := tokCells_get L (L.length - 1) (by omega)
    have hl := tokCells_len L
    have hj : (L.length - 1) * 3 < L.length * 3 := by omega
    rw [Lib.cell_of_heap hg, ← Array.getElem?_toList]
    rw [← ht, List.getElem?_take, if_pos hj] at g2
    rw [g2]
    congr 4
    rw [List.getLastD_eq_getLast?, List.getLast?_eq_getElem?, List.getElem?_eq_getElem (by omega)]
    rfl
set_option maxRecDepth 100000 in
theorem back_great (u : Value) (w : World) (HA : Hid (Calls Tryz.prog 9 #[] w fun e w' => e = .returned (.bool true) ∧ Below w.heap.size w w'))
    (HG : Hid (∀ W, Below w.heap.size w W → Calls Tryz.prog 15 #[u] W fun e w' => e = .returned (.bool true) ∧ W = w')) :
    Calls Tryz.prog 5 #[u] w fun e w' => e = .returned (.bool true) ∧ Below w.heap.size w w' := by
  go_enter Tryz.func5, Tryz.ntmps5
  go_wp2_with fail
  refine HA.out.mono ?_; rintro e w1 ⟨rfl, hb⟩
  have HB1 := Lib.hid hb
  clear hb
  go_wp2_with fail
  refine (HG.out _ HB1.out).mono ?_; rintro e w2 ⟨rfl, rfl⟩
  go_wp2_with fail
  go_ret
  exact ⟨rfl, HB1.out⟩
set_option maxRecDepth 100000 in
theorem back_far (u : Value) (w : World) (HA : Hid (Calls Tryz.prog 9 #[] w fun e w' => e = .returned (.bool true) ∧ Below w.heap.size w w'))
    (HG : Hid (∀ W, Below w.heap.size w W → Calls Tryz.prog 15 #[u] W fun e w' => e = .returned (.bool false) ∧ W = w'))
    (js : ByteArray) (je : Int) (hj : (je ≠ 0 ∧ js = ⟨#[]⟩) ∨ (je = 0 ∧ 16000 < js.size))
    (HJ : Hid (∀ W, Below w.heap.size w W → Calls Tryz.prog 16 #[u] W fun e w' => e = .returned (.tuple #[.string js, .int .i64 je]) ∧ Below W.heap.size W w')) :
    Calls Tryz.prog 5 #[u] w fun e w' => e = .returned (.bool true) ∧ Below w.heap.size w w' := by
  rcases hj with ⟨h1, rfl⟩ | ⟨rfl, h2⟩
  · have h1n : (je != 0) = true := by simpa using h1
    have h1e : (je == 0) = false := by simpa using h1
    clear h1
    go_enter Tryz.func5, Tryz.ntmps5
    go_wp2_with fail
    refine HA.out.mono ?_; rintro e w1 ⟨rfl, hb⟩
    have HB1 := Lib.hid hb
    clear hb
    go_wp2_with fail
    refine (HG.out _ HB1.out).mono ?_; rintro e w2 ⟨rfl, rfl⟩
    go_wp2_with fail
    refine (HJ.out _ HB1.out).mono ?_; rintro e w3 ⟨rfl, hb⟩
    have HB3 := Lib.hid (HB1.out.trans (hb.mono HB1.out.size))
    clear hb
    go_wp2_with fail
    go_ret
    exact ⟨rfl, HB3.out⟩
  · go_enter Tryz.func5, Tryz.ntmps5
    go_wp2_with fail
    refine HA.out.mono ?_; rintro e w1 ⟨rfl, hb⟩
    have HB1 := Lib.hid hb
    clear hb
    go_wp2_with fail
    refine (HG.out _ HB1.out).mono ?_; rintro e w2 ⟨rfl, rfl⟩
    go_wp2_with fail
    refine (HJ.out _ HB1.out).mono ?_; rintro e w3 ⟨rfl, hb⟩
    have HB3 := Lib.hid (HB1.out.trans (hb.mono HB1.out.size))
    clear hb
    go_wp2_with fail
    go_ret
    exact ⟨rfl, HB3.out⟩
set_option maxRecDepth 100000 in
set_option maxHeartbeats 2000000 in
theorem back_ok (u : Value) (L : List Tok) (hl : L.length ≤ 200) (w : World) (hu : Hid (TokSl u L w)) (HA : Hid (Calls Tryz.prog 9 #[] w fun e w' => e = .returned (.bool true) ∧ Below w.heap.size w w'))
    (HG : Hid (∀ W, Below w.heap.size w W → Calls Tryz.prog 15 #[u] W fun e w' => e = .returned (.bool false) ∧ W = w'))
    (js : ByteArray) (hjs : js.size ≤ 16000)
    (HJ : Hid (∀ W, Below w.heap.size w W → Calls Tryz.prog 16 #[u] W fun e w' => e = .returned (.tuple #[.string js, .int .i64 0]) ∧ Below W.heap.size W w'))
    (M : List Tok) (hMl : Hid (M.length ≤ 100000))
    (HX : Hid (∀ W, Below w.heap.size w W → Calls Tryz.prog 8 #[.string js] W fun e w' => (∃ v, e = .returned (.tuple #[v, .int .i64 0, .int .i64 0]) ∧ OwnT W.heap.size v M w') ∧ Below W.heap.size W w'))
    (hcase : (L = [] ∧ sameT false M [⟨0, [], 0⟩] = true) ∨ (L ≠ [] ∧ (L.getLastD ⟨0, [], -1⟩).kind ≠ 0 ∧ sameT false M (L ++ [⟨0, [], 0⟩]) = true) ∨ (L ≠ [] ∧ (L.getLastD ⟨0, [], -1⟩).kind = 0 ∧ sameT false M L = true)) :
    Calls Tryz.prog 5 #[u] w fun e w' => e = .returned (.bool true) ∧ Below w.heap.size w w' := by
  have hj2 : decide (16000 < js.size) = false := decide_eq_false (by omega)
  have HCASE := Lib.hid hcase
  clear hcase
  go_enter Tryz.func5, Tryz.ntmps5
  go_wp2_with fail
  refine HA.out.mono ?_; rintro e w1 ⟨rfl, hb⟩
  have HB1 := Lib.hid hb
  clear hb
  go_wp2_with fail
  refine (HG.out _ HB1.out).mono ?_; rintro e w2 ⟨rfl, rfl⟩
  go_wp2_with fail
  refine (HJ.out _ HB1.out).mono ?_; rintro e w3 ⟨rfl, hb⟩
  have HB3 := Lib.hid (HB1.out.trans (hb.mono HB1.out.size))
  clear hb
  go_wp2_with fail
  refine (HX.out _ HB3.out).mono ?_; rintro e w4 ⟨⟨vm, rfl, hm⟩, hb⟩
  have HB4 := Lib.hid (HB3.out.trans (hb.mono HB3.out.size))
  have HVM := Lib.hid hm
  have HU4 := Lib.hid (hu.out.below HB4.out)
  clear hb hm
  go_wp2_with (at_builtin; refine wpList_appT rfl _ _ rfl w4.heap.size (.slice (some ⟨w4.heap.size, 0, none⟩) 0 0) u [] L rfl (OwnT.fresh0 w4) rfl (HU4.out.below ((Below.refl _ _).alloc (Nat.le_refl _) _)) ?c1 ?c2 ?_)
  case c1 => simp; omega
  case c2 => simp
  intro v5 w5 hown hg
  have hbig : ∀ k, vm.ownBlock = some k → (Value.slice (some ⟨w4.heap.size, 0, none⟩) 0 0).ownBlock ≠ some k := fun k hk hk2 => by
    have h2 := HVM.out.blk k hk
    injection hk2 with hk2
    have hk3 : w4.heap.size = k := hk2
    omega
  have HVM5 := Lib.hid ((HVM.out.alloc _).other hg hbig)
  have HB5 : Hid (Below w.heap.size w w5) := Lib.hid ((HB4.out.alloc HB4.out.size _).grown hg (by have := HB4.out.size; simp; omega) (fun k hk => by
    injection hk with hk
    have hk3 : w4.heap.size = k := hk
    have := HB4.out.size; omega))
  have HO5 := Lib.hid hown
  have hsz : w4.heap.size ≤ w5.heap.size := by have := hg.size; simp at this; omega
  have hlow : ∀ k, vm.ownBlock = some k → k < w4.heap.size := fun k hk => HVM.out.blk k hk
  have HLOW := Lib.hid hlow
  clear hg hbig hlow
  rcases HCASE.out with ⟨hL, hsame⟩ | ⟨hL, hk, hsame⟩ | ⟨hL, hk, hsame⟩
  · subst hL
    have HSM := Lib.hid hsame
    obtain ⟨a, n, c, rfl, hn⟩ := hown.form
    obtain rfl : n = 0 := hn
    clear hsame hown
    go_wp2_with (at_builtin; refine wpList_appT rfl _ _ rfl w4.heap.size (.slice a 0 c) (.slice (some ⟨w5.heap.size, 0, none⟩) 1 1) ([] : List Tok) [⟨0, [], 0⟩] rfl (HO5.out.alloc _) rfl (tok_new w5 0 [] 0) (by decide) ?a2 ?_)
    case a2 => first | omega | (simp; done) | (simp; omega)
    intro v6 w6 hown hg
    have hbig : ∀ k, vm.ownBlock = some k → (Value.slice a 0 c).ownBlock ≠ some k := fun k hk hk2 => by
      have h1 := HLOW.out k hk
      have h2 := HO5.out.lt k hk2
      omega
    have HVM6 := Lib.hid ((HVM5.out.alloc _).other hg hbig)
    have HB6 : Hid (Below w.heap.size w w6) := Lib.hid ((HB5.out.alloc HB5.out.size _).grown hg (by have := HB5.out.size; simp; omega) (fun k hk => by have := HO5.out.lt k hk; have := HB4.out.size; omega))
    have HS := Lib.hid (rsame17_any M (([] : List Tok) ++ [⟨0, [], 0⟩]) _ _ false hMl.out (by first | (simp; done) | (simp; omega)) w6 HVM6.out.sl hown.sl)
    rw [show sameT false M (([] : List Tok) ++ [⟨0, [], 0⟩]) = true from HSM.out] at HS
    clear hown hg hbig
    go_wp2_with fail
    refine HS.out.mono ?_; rintro e w7 ⟨rfl, hb⟩
    have HB7 := Lib.hid (HB6.out.trans (hb.mono HB6.out.size))
    clear hb
    go_wp2_with fail
    go_ret
    exact ⟨rfl, HB7.out⟩
  · have HSM := Lib.hid hsame
    have hL0 : 0 < L.length := List.length_pos_iff.2 hL
    obtain ⟨g, cap, rfl, hc⟩ := hown.first hL0
    obtain ⟨kd, hkd⟩ : ∃ kd, (L.getLastD ⟨0, [], -1⟩).kind = kd := ⟨_, rfl⟩
    rw [hkd] at hk hc
    have hki : ((kd.toNat : Int) != 0) = true := by
      have : ¬ ((kd.toNat : Int) = 0) := u8_not 0 kd (fun e => hk e.symm)
      simpa using this
    obtain ⟨q, hq⟩ : ∃ q, L.length - 1 = q := ⟨_, rfl⟩
    have hqi : (L.length : Int) - 1 = (q : Int) := by omega
    have hqL : q < L.length := by omega
    have hLz : ((L.length : Int) == 0) = false := beq_eq_false_iff_ne.2 (by omega)
    have hLz2 : ¬ L.length = 0 := by omega
    rw [hq] at hc
    clear hsame hown hkd hk hq hL
    go_wp2_with (at_builtin; refine wpList_appT rfl _ _ rfl w4.heap.size (.slice (some ⟨g, 0, none⟩) L.length cap) (.slice (some ⟨w5.heap.size, 0, none⟩) 1 1) L [⟨0, [], 0⟩] rfl (HO5.out.alloc _) rfl (tok_new w5 0 [] 0) ?b1 ?b2 ?_)
    case b1 => first | omega | (simp; done) | (simp; omega)
    case b2 => first | omega | (simp; done) | (simp; omega)
    intro v6 w6 hown hg
    have hbig : ∀ k, vm.ownBlock = some k → (Value.slice (some ⟨g, 0, none⟩) L.length cap).ownBlock ≠ some k := fun k hk hk2 => by
      have h1 := HLOW.out k hk
      have h2 := HO5.out.lt k hk2
      omega
    have HVM6 := Lib.hid ((HVM5.out.alloc _).other hg hbig)
    have HB6 : Hid (Below w.heap.size w w6) := Lib.hid ((HB5.out.alloc HB5.out.size _).grown hg (by have := HB5.out.size; simp; omega) (fun k hk => by have := HO5.out.lt k hk; have := HB4.out.size; omega))
    have HS := Lib.hid (rsame17_any M (L ++ [⟨0, [], 0⟩]) _ _ false hMl.out (by first | (simp; done) | (simp; omega)) w6 HVM6.out.sl hown.sl)
    rw [show sameT false M (L ++ [⟨0, [], 0⟩]) = true from HSM.out] at HS
    clear hown hg hbig
    go_wp2_with fail
    refine HS.out.mono ?_; rintro e w7 ⟨rfl, hb⟩
    have HB7 := Lib.hid (HB6.out.trans (hb.mono HB6.out.size))
    clear hb
    go_wp2_with fail
    go_ret
    exact ⟨rfl, HB7.out⟩
  · have HSM := Lib.hid hsame
    have hL0 : 0 < L.length := List.length_pos_iff.2 hL
    obtain ⟨g, cap, rfl, hc⟩ := hown.first hL0
    rw [hk] at hc
    obtain ⟨q, hq⟩ : ∃ q, L.length - 1 = q := ⟨_, rfl⟩
    have hqi : (L.length : Int) - 1 = (q : Int) := by omega
    have hqL : q < L.length := by omega
    have hLz : ((L.length : Int) == 0) = false := beq_eq_false_iff_ne.2 (by omega)
    have hLz2 : ¬ L.length = 0 := by omega
    rw [hq] at hc
    have HS := Lib.hid (rsame17_any M L _ _ false hMl.out (by omega) w5 HVM5.out.sl hown.sl)
    rw [HSM.out] at HS
    have hc : w5.cell? ⟨g, q * 3, none⟩ = some (.int .u8 0) := hc
    clear hsame hown hk hq hL
    go_wp2_with fail
    refine HS.out.mono ?_; rintro e w7 ⟨rfl, hb⟩
    have HB7 := Lib.hid (HB5.out.trans (hb.mono HB5.out.size))
    clear hb
    go_wp2_with fail
    go_ret
    exact ⟨rfl, HB7.out⟩
theorem last_core (L : List Tok) (h : L = coreT L) (hL : L ≠ []) : (L.getLastD ⟨0, [], -1⟩).kind ≠ 0 := by
  have hm : L.getLastD ⟨0, [], -1⟩ ∈ L := by
    rw [List.getLastD_eq_getLast?, List.getLast?_eq_some_getLast hL]
    exact List.getLast_mem hL
  have hall : ∀ t ∈ L, (t.kind != 0) = true := fun t ht => by
    rw [h] at ht
    exact (List.mem_filter.1 ht).2
  simpa using hall _ hm
theorem back_walk (L : List Tok) (u : Value) (hl : L.length ≤ maxLen) (hz : ∀ t ∈ L, t.text.length ≤ maxLen) (w : World) (h1 : TokSl u L w) (hE : EnvU w) :
    Calls Tryz.prog 5 #[u] w fun e w' => e = .returned (.bool true) ∧ Below w.heap.size w w' := by
  have HA := Lib.hid (lalive17 w hE)
  have HG : Hid (∀ W, Below w.heap.size w W → Calls Tryz.prog 15 #[u] W fun e w' => e = .returned (.bool (greatB L)) ∧ W = w') := Lib.hid fun W hW => great_sl L u hl W (h1.below hW) hz
  cases hg : greatB L with
  | true => rw [hg] at HG; exact back_great u w HA HG
  | false =>
    rw [hg] at HG
    obtain ⟨s1, s2⟩ := small_of_great L hg
    have HJ := fun W (hW : Below w.heap.size w W) => ljoin_any L u (by omega) (fun t ht => by have := s2 t ht; omega) W (hE.below hW) (h1.below hW)
    cases hok : okTs L with
    | false =>
      exact back_far u w HA HG ⟨#[]⟩ 8 (Or.inl ⟨by decide, rfl⟩) (Lib.hid fun W hW => by
        have := HJ W hW
        unfold joinE at this
        rw [hok] at this
        exact this)
    | true =>
      have HJ2 : Hid (∀ W, Below w.heap.size w W → Calls Tryz.prog 16 #[u] W fun e w' => e = .returned (.tuple #[.string ⟨(joinT L).toArray⟩, .int .i64 0]) ∧ Below W.heap.size W w') := Lib.hid fun W hW => by
        have := HJ W hW
        unfold joinE at this
        rw [hok] at this
        exact this
      have hjz : (⟨(joinT L).toArray⟩ : ByteArray).size = (joinT L).length := by rw [← len_z]
      by_cases hbig : 16000 < (joinT L).length
      · exact back_far u w HA HG _ 0 (Or.inr ⟨rfl, by rw [hjz]; exact hbig⟩) HJ2
      · obtain ⟨M, hM, hkt, hcr⟩ := lex_back L hok (by omega) (by omega)
        have hMl : M.length ≤ 100000 := by
          have := congrArg List.length hkt
          have hc := List.length_filter_le (fun t : Tok => t.kind != 0) L
          simp only [List.length_map, List.length_append, List.length_singleton] at this
          unfold coreT at this
          omega
        refine back_ok u L s1 w (Lib.hid h1) HA HG ⟨(joinT L).toArray⟩ (by rw [hjz]; omega) HJ2 M (Lib.hid hMl) (Lib.hid fun W hW => lex_yes _ (by rw [hjz]; omega) M hM W (hE.below hW)) ?_
        rcases hcr with hc | ⟨e, hc, he⟩
        · by_cases hL : L = []
          · refine Or.inl ⟨hL, ?_⟩
            rw [same_kt, hkt, hL]; rfl
          · refine Or.inr (Or.inl ⟨hL, last_core L hc hL, ?_⟩)
            rw [same_kt, hkt, List.map_append, ← hc]; rfl
        · refine Or.inr (Or.inr ⟨by rw [hc]; simp, ?_, ?_⟩)
          · rw [hc, List.getLastD_concat]
            exact congrArg Prod.fst he
          · rw [same_kt, hkt]
            conv => rhs; rw [hc, List.map_append, List.map_singleton, he]
end Go.Proofs.YtgclnjogoghhcaaGreatDoor
namespace Go.Proofs.YtgclnjogoghhcaaGreatDoor
open Go.RowKit Go.WideShapes Go.ChangeShapes Go.Joins Go.Deep
theorem cells_token : Tryz.prog.cellsOf 30 = 3 := by kernel_rfl
section
variable {H : Type} {enc : TypeId × Value → H} {w : World} {base : Nat} {spare : Nat → Bool} {held : Bool}
theorem toks_of (w : World) (a : Addr) : ∀ n : Nat, (∀ i, i < n → ∃ (k : UInt8) (s : ByteArray) (p : Int), w.cell? (a.add (i * 3)) = some (.int .u8 (k.toNat : Int)) ∧ w.cell? (a.add (i * 3 + 1)) = some (.string s) ∧ w.cell? (a.add (i * 3 + 2)) = some (.int .i64 p) ∧ s.size ≤ maxLen) →
    ∃ L : List Tok, L.length = n ∧ (∀ t ∈ L, t.text.length ≤ maxLen) ∧ ∀ (i : Nat) (h : i < L.length), w.cell? (a.add (i * 3)) = some (.int .u8 (L[i].kind.toNat : Int)) ∧ w.cell? (a.add (i * 3 + 1)) = some (.string ⟨L[i].text.toArray⟩) ∧ w.cell? (a.add (i * 3 + 2)) = some (.int .i64 L[i].pos)
  | 0, _ => ⟨[], rfl, (fun t h => by cases h), (fun i h => absurd h (by simp))⟩
  | n + 1, h => by
    obtain ⟨L, hl, hz, hc⟩ := toks_of w a n fun i hi => h i (by omega)
    obtain ⟨k, s, p, c0, c1, c2, hs⟩ := h n (by omega)
    refine ⟨L ++ [⟨k, s.data.toList, p⟩], by simp [hl], ?_, ?_⟩
    · intro t ht
      rcases List.mem_append.1 ht with ht | ht
      · exact hz t ht
      · rw [List.mem_singleton] at ht
        rw [ht]
        show s.data.toList.length ≤ maxLen
        rw [Array.length_toList]
        exact hs
    · intro i hi
      by_cases hin : i < L.length
      · rw [List.getElem_append_left hin]
        exact hc i hin
      · have hin' : i = L.length := by
          rw [List.length_append] at hi
          simp at hi
          omega
        subst hin'
        rw [List.getElem_append_right (Nat.le_refl _)]
        simp only [Nat.sub_self, List.getElem_cons_zero]
        rw [hl]
        refine ⟨c0, ?_, c2⟩
        rw [c1]
/-- An element of a slice of structs, whose fields have one cell each: each field's cell, and its reading. -/
theorem elem_fields {P : Program} {H : Type} {enc : TypeId × Value → H} {w : World} {base : Nat} {spare : Nat → Bool} {held : Bool} {e : TypeId} {fs : Array Field} (he : P.underlying e = some (.struct fs)) (hone : oneCellFields P fs = true) {a : Addr} {k n : Nat} {cs : List Value} {x : DataW H × List MemPlace}
    (hk : k = P.cellsOf e) (hk2 : k = fs.size) (hc : w.cells? base a k = some cs) (ht : DataW.trod enc P w base spare held n e cs = some x) (j : Nat) (f : Field) (hj : fs[j]? = some f) :
    ∃ (v : Value) (y : DataW H × List MemPlace) (n' : Nat), w.cell? (a.add j) = some v ∧ DataW.trod enc P w base spare held n' f.type [v] = some y := by
  obtain ⟨ys, n', hn', hy, hlen, hyl, hf⟩ := DataW.trod_struct he ht
  obtain ⟨_, hcl, hat⟩ := World.cells?_some hc
  obtain ⟨ho, h1⟩ := hone_of hone j f hj
  have hjl : j < fs.size := (Array.getElem?_eq_some_iff.1 hj).1
  have hjc : j < cs.length := by omega
  have hcell := hat j (by omega)
  have g := hf j f hj
  rw [ho, h1, List.drop_eq_getElem_cons hjc] at g
  have hys : ys[j]? = some (ys[j]'(by omega)) := List.getElem?_eq_getElem (by omega)
  refine ⟨cs[j], ys[j]'(by omega), n', ?_, ?_⟩
  · rw [hcell]; exact List.getElem?_eq_getElem hjc
  · exact g.trans hys
theorem open_tokens {v : Value} {d : DataW H} {p : List MemPlace} (hv : ∃ a l c, v = .slice a l c) (h : DataW.Trod enc Tryz.prog w base spare held 24 v d p) :
    ∃ L : List Tok, TokSl v L w ∧ L.length ≤ maxLen ∧ ∀ t ∈ L, t.text.length ≤ maxLen := by
  obtain ⟨fuel, hf⟩ := h
  obtain ⟨sa, sl, sc, rfl⟩ := hv
  have hcs : (Value.slice sa sl sc).cells.toList = [.slice sa sl sc] := rfl
  rw [hcs] at hf
  rcases open_slice Tryz.underlying24 hf with ⟨h0, _⟩ | ⟨a, len, cap, m, n, D, Pl, h0, hb, hl, hm, hmm, hx, hi⟩
  · injection h0 with h0
    exact ⟨[], Or.inl ⟨_, _, h0, rfl, fun _ => rfl⟩, by decide, fun t h => by cases h⟩
  · injection h0 with h0
    have hlm : len ≤ m := by rw [hmm]; split <;> omega
    obtain ⟨L, hL, hz, hc⟩ := toks_of w a len (fun i hil => by
      obtain ⟨cs', hc, ht⟩ := hi i (by omega)
      rw [cells_token] at hc
      have F := fun j f hj => elem_fields Tryz.underlying30 (by kernel_rfl) cells_token.symm rfl hc ht j f hj
      obtain ⟨v0, y0, n0, g0, t0⟩ := F 0 _ rfl
      obtain ⟨v1, y1, n1, g1, t1⟩ := F 1 _ rfl
      obtain ⟨v2, y2, n2, g2, t2⟩ := F 2 _ rfl
      obtain ⟨k, e0, _, wk⟩ := DataW.trod_int Tryz.underlying5 t0
      obtain ⟨s, e1, _, ws⟩ := DataW.trod_string Tryz.underlying9 t1
      obtain ⟨q, e2, _, wq⟩ := DataW.trod_int Tryz.underlying3 t2
      injection e0 with e0
      injection e1 with e1
      injection e2 with e2
      subst e0 e1 e2
      obtain ⟨k1, k2⟩ := Go.bounds_u8 wk
      have hk : ((UInt8.ofNat k.toNat).toNat : Int) = k := by
        rw [UInt8.toNat_ofNat']
        omega
      refine ⟨UInt8.ofNat k.toNat, s, q, ?_, ?_, ?_, ws⟩
      · rw [hk, ← g0]
        rw [Go.Deep.add_add]; rfl
      · rw [← g1, Go.Deep.add_add]
      · rw [← g2, Go.Deep.add_add])
    refine ⟨L, ?_, by omega, hz⟩
    by_cases h0l : L = []
    · rw [h0l] at hL
      refine Or.inl ⟨some a, cap, ?_, h0l, fun h => by cases h⟩
      rw [h0, ← hL]; rfl
    · have hpos : 0 < L.length := List.length_pos_iff.2 h0l
      obtain ⟨ab, ao, asp⟩ := a
      obtain ⟨_, g1, _⟩ := hc 0 hpos
      have hspot : asp = none := by simpa [Addr.add] using World.cell?_spot (hc 0 hpos).1
      subst hspot
      have hadd : ∀ j, (⟨ab, ao, none⟩ : Addr).add j = ⟨ab, ao + j, none⟩ := by
        intro j
        unfold Addr.add
        split
        · rename_i hz; rw [hz]; rfl
        · rfl
      refine Or.inr ⟨ab, ao, cap, by rw [h0, hL], ?_⟩
      intro k hk
      obtain ⟨q0, q1, q2⟩ := hc k hk
      rw [hadd] at q0 q1 q2
      exact ⟨q0, q1, q2⟩
end
end Go.Proofs.YtgclnjogoghhcaaGreatDoor
namespace Go.Proofs.YtgclnjogoghhcaaGreatDoor
open Go.RowKit
theorem putT_snoc (t : Tok) : ∀ (L : List Tok) (k : Nat), putT k (L ++ [t]) = putT k L ++ (blankP (k + L.length) ++ tellT t)
  | [], k => by simp [putT]
  | u :: r, k => by
    rw [List.cons_append, putT, putT, putT_snoc t r (k + 1), List.length_cons, show k + (r.length + 1) = k + 1 + r.length from by omega]
    simp only [List.append_assoc]
theorem putT_take (L : List Tok) (k i : Nat) (h : i < L.length) : putT k (L.take (i + 1)) = putT k (L.take i) ++ (blankP (k + i) ++ tellT L[i]) := by
  rw [List.take_succ_eq_append_getElem h, putT_snoc, List.length_take, Nat.min_eq_left (by omega)]
/-- Where the last one of so many stood. -/
def lastP (a : Int) (L : List Tok) (i : Nat) : Int := ((L.take i).getLastD ⟨0, [], a⟩).pos
theorem lastP_succ (a : Int) (L : List Tok) (i : Nat) (h : i < L.length) : lastP a L (i + 1) = L[i].pos := by
  unfold lastP
  rw [List.take_succ_eq_append_getElem h, List.getLastD_concat]
theorem inc_at : ∀ (L : List Tok) (a : Int) (i : Nat) (h : i < L.length), incB a L = true → lastP a L i < L[i].pos
  | [], a, i, h, _ => by simp at h
  | t :: r, a, 0, h, hi => by
    unfold incB at hi
    simp only [Bool.and_eq_true, decide_eq_true_eq] at hi
    exact hi.1
  | t :: r, a, i + 1, h, hi => by
    unfold incB at hi
    simp only [Bool.and_eq_true, decide_eq_true_eq] at hi
    have ih := inc_at r t.pos i (by simpa using h) hi.2
    have e : lastP a (t :: r) (i + 1) = lastP t.pos r i := by
      unfold lastP
      rw [List.take_succ_cons]
      cases h2 : r.take i with
      | nil => rfl
      | cons x y =>
        have hne : x :: y ≠ [] := by simp
        rw [List.getLastD_eq_getLast?, List.getLastD_eq_getLast?, List.getLast?_cons_cons]
        cases h3 : (x :: y).getLast? with
        | none => rw [List.getLast?_eq_none_iff] at h3; exact absurd h3 hne
        | some z => rfl
    rw [e]
    exact ih
theorem quote_one (c : UInt8) : 1 ≤ (quoteC c).length := by
  unfold quoteC
  repeat' split
  all_goals simp
theorem tell_len (t : Tok) : t.text.length ≤ (tellT t).length := by
  unfold tellT
  split
  · unfold quoteL
    have : ∀ l : List UInt8, l.length ≤ (l.flatMap quoteC).length := by
      intro l
      induction l with
      | nil => simp
      | cons c r ih =>
        rw [List.flatMap_cons, List.length_append, List.length_cons]
        have := quote_one c
        omega
    have := this t.text
    simp only [List.length_append, List.length_cons]
    omega
  · exact Nat.le_refl _
theorem blankP_len (k : Nat) : (blankP k).length ≤ 5 := blankP_cases (fun l => l.length ≤ 5) (by decide) (by decide) (by decide) (by decide) (by decide) k
theorem OwnT.cells {B g cap : Nat} {L : List Tok} {W : World} (h : OwnT B (.slice (some ⟨g, 0, none⟩) L.length cap) L W) (i : Nat) (hi : i < L.length) : W.cell? ⟨g, i * 3, none⟩ = some (.int .u8 (L[i].kind.toNat : Int)) ∧ W.cell? ⟨g, i * 3 + 1, none⟩ = some (.string ⟨L[i].text.toArray⟩) ∧ W.cell? ⟨g, i * 3 + 2, none⟩ = some (.int .i64 L[i].pos) := by
  rcases h.2 with ⟨h1, h2⟩ | ⟨g', cap', cur, hv, hB, hg, hn, hc, hcs, ht⟩
  · cases h1
  · injection hv with e _ _
    injection e with e
    injection e with e1 _ _
    subst e1
    obtain ⟨g0, g1, g2⟩ := tokCells_get L i hi
    have F : ∀ j u, (tokCells L)[j]? = some u → W.cell? ⟨g, j, none⟩ = some u := by
      intro j u hj
      have hjl : j < L.length * 3 := by rw [← tokCells_len]; exact (List.getElem?_eq_some_iff.1 hj).1
      rw [← ht, List.getElem?_take, if_pos hjl] at hj
      rw [Lib.cell_of_heap hg, ← Array.getElem?_toList]
      exact hj
    exact ⟨F _ _ g0, F _ _ g1, F _ _ g2⟩
/-- While tokens are put: the tokens, the blanks. -/
structure BX (w : World) (B g cap gb : Nat) (L : List Tok) (W : World) : Prop where
  own : OwnT B (.slice (some ⟨g, 0, none⟩) L.length cap) L W
  hb : W.heap[gb]? = some (.cells #[.string ⟨#[32]⟩, .string ⟨#[9, 44]⟩, .string ⟨#[13, 10]⟩, .string ⟨#[35, 120, 32, 34, 10]⟩, .string ⟨#[239, 187, 191]⟩] 9 (0, 0))
  bel : Below w.heap.size w W
theorem BX.below {w W W' : World} {B g cap gb : Nat} {L : List Tok} (h : BX w B g cap gb L W) (hb : Below W.heap.size W W') : BX w B g cap gb L W' :=
  ⟨h.own.below hb, (hb.block _ (heap_lt h.hb)).trans h.hb, h.bel.trans (hb.mono h.bel.size)⟩
theorem BX.blank {w W : World} {B g cap gb : Nat} {L : List Tok} (h : BX w B g cap gb L W) (k r : Nat) (hr : k % 5 = r) : W.cell? ⟨gb, r, none⟩ = some (.string ⟨(blankP k).toArray⟩) := by
  rw [Lib.cell_of_heap h.hb]
  unfold blankP
  rw [hr]
  have : r < 5 := by omega
  match r, this with
  | 0, _ => rfl
  | 1, _ => rfl
  | 2, _ => rfl
  | 3, _ => rfl
  | 4, _ => rfl
set_option maxRecDepth 100000 in
theorem blanks_far (s : ByteArray) (k : Int) (h : 1000 < s.size) (w : World) (hE : EnvU w) :
    Calls Tryz.prog 6 #[.string s, .int .u8 k] w fun e w' => e = .returned (.bool true) ∧ Below w.heap.size w w' := by
  have HA := Lib.hid (lalive17 w hE)
  clear hE
  go_enter Tryz.func6, Tryz.ntmps6
  go_wp2_with fail
  refine HA.out.mono ?_; rintro e w1 ⟨rfl, hb⟩
  go_wp2_with fail
  go_ret
  exact ⟨rfl, hb⟩
set_option maxRecDepth 100000 in
theorem blanks_err (s : ByteArray) (k : Int) (hs : s.size ≤ 1000) (ea : Int) (na : Nat) (h : lex0 s.data.toList = .error (ea, na)) (w : World) (hE : EnvU w) :
    Calls Tryz.prog 6 #[.string s, .int .u8 k] w fun e w' => e = .returned (.bool true) ∧ Below w.heap.size w w' := by
  have HA := Lib.hid (lalive17 w hE)
  have HX := Lib.hid (fun W (hW : Below w.heap.size w W) => lex_not s (by omega) ea na h W (hE.below hW))
  have hs2 : decide (1000 < s.size) = false := decide_eq_false (by omega)
  have hen : (ea != 0) = true := by simpa using lex0_err _ _ _ h
  clear hE h
  go_enter Tryz.func6, Tryz.ntmps6
  go_wp2_with fail
  refine HA.out.mono ?_; rintro e w1 ⟨rfl, hb⟩
  have HB1 := Lib.hid hb
  clear hb
  go_wp2_with fail
  refine (HX.out _ HB1.out).mono ?_; rintro e w2 ⟨rfl, hb⟩
  have HB2 := Lib.hid (HB1.out.trans (hb.mono HB1.out.size))
  clear hb
  go_wp2_with fail
  go_ret
  exact ⟨rfl, HB2.out⟩
set_option maxRecDepth 100000 in
set_option maxHeartbeats 1000000 in
theorem blanks_ok (s : ByteArray) (kn : Nat) (hk : kn ≤ 255) (hs : s.size ≤ 1000) (L : List Tok) (h : lex0 s.data.toList = .ok L) (hL0 : 0 < L.length) (hL1 : L.length ≤ 1100)
    (hok : Hid (∀ (i : Nat) (hi : i < L.length), okT L[i] = true ∧ (tellT L[i]).length ≤ 16384 ∧ (L[i].kind = 0 → i = L.length - 1)))
    (hinc : Hid (incB (-1) L = true)) (hlaw : Hid ((putT kn L).length ≤ 16384 → ∃ R, lex0 (putT kn L) = .ok R ∧ R.map kt = L.map kt)) (w : World) (hE : EnvU w) :
    Calls Tryz.prog 6 #[.string s, .int .u8 (kn : Int)] w fun e w' => e = .returned (.bool true) ∧ Below w.heap.size w w' := by
  have HA := Lib.hid (lalive17 w hE)
  have HX := Lib.hid (fun W (hW : Below w.heap.size w W) => lex_row s (by omega) L h hL0 W (hE.below hW))
  have HX2 := Lib.hid (fun (t : ByteArray) (R : List Tok) (ht : t.size ≤ 1000000) (hR : lex0 t.data.toList = .ok R) W (hW : Below w.heap.size w W) => lex_yes t ht R hR W (hE.below hW))
  have HCK := Lib.hid (fun (k : UInt8) (x : ByteArray) (p : Int) (hx : x.size ≤ 1000000) W (hW : Below w.heap.size w W) => lcheck_any k x p hx W (hE.below hW))
  have HJN := Lib.hid (fun (t : Tok) (u : Value) (hz : t.text.length ≤ 20000) W (hW : Below w.heap.size w W) (h1 : TokSl u [t] W) => ljoin_any [t] u (by simp) (fun x hx => by rw [List.mem_singleton] at hx; subst hx; exact hz) W (hE.below hW) h1)
  have hs2 : decide (1000 < s.size) = false := decide_eq_false (by omega)
  clear hE h
  go_enter Tryz.func6, Tryz.ntmps6
  go_wp2_with fail
  refine HA.out.mono ?_; rintro e w1 ⟨rfl, hb⟩
  have HB1 := Lib.hid hb
  clear hb
  go_wp2_with fail
  refine (HX.out _ HB1.out).mono ?_; rintro e w2 ⟨⟨g, cap, rfl, ho⟩, hb⟩
  have HB2 := Lib.hid (HB1.out.trans (hb.mono HB1.out.size))
  have hcap : L.length ≤ cap := ho.cap
  have HO := Lib.hid ho
  clear hb ho
  go_wp2_with fail
  obtain ⟨gb, hgb⟩ : ∃ gb, w2.heap.size = gb := ⟨_, rfl⟩
  obtain ⟨w3, hw3⟩ : ∃ w3, w2.alloc (.cells #[.string ⟨#[32]⟩, .string ⟨#[9, 44]⟩, .string ⟨#[13, 10]⟩, .string ⟨#[35, 120, 32, 34, 10]⟩, .string ⟨#[239, 187, 191]⟩] 9) = w3 := ⟨_, rfl⟩
  have HBX : Hid (BX w w1.heap.size g cap gb L w3) := Lib.hid (by
    rw [← hw3, ← hgb]
    exact ⟨HO.out.alloc _, heap_alloc_new w2 _, HB2.out.alloc HB2.out.size _⟩)
  rw [hw3, hgb]
  clear hw3 hgb
  obtain ⟨n, hn⟩ : ∃ n, L.length = n := ⟨_, rfl⟩
  have HN := Lib.hid hn
  rw [hn] at hcap hL0 hL1 ⊢
  clear hn
  go_loopg [10, 11, 12] n (fun gg s10 s11 s12 wx => ∃ (i : Nat) (t : ByteArray), s10 = .string t ∧ s11 = .int .i64 (lastP (-1) L i) ∧ s12 = .int .i64 i ∧ i + gg = n ∧ t.size ≤ 20000 * i ∧ Hid (t.data.toList = putT kn (L.take i)) ∧ Hid (BX w w1.heap.size g cap gb L wx))
  case atStart => exact ⟨0, ⟨#[]⟩, rfl, rfl, rfl, by omega, by decide, Lib.hid rfl, HBX⟩
  case round =>
    rename World => wo
    obtain ⟨i, t, rfl, rfl, rfl, hig, htz, HT, HW⟩ := hrel
    by_cases hlt : i < n
    · have hiL : i < L.length := by rw [HN.out]; exact hlt
      obtain ⟨o1, o2, o3⟩ := hok.out i hiL
      have o4 := inc_at L (-1) i hiL hinc.out
      have hlast := lastP_succ (-1) L i hiL
      obtain ⟨c0, c1, c2⟩ := HW.out.own.cells i hiL
      obtain ⟨tk, htk⟩ : ∃ tk : Tok, L[i] = tk := ⟨_, rfl⟩
      obtain ⟨lp, hlp⟩ : ∃ lp, lastP (-1) L i = lp := ⟨_, rfl⟩
      have hput := putT_take L kn i hiL
      rw [htk] at o1 o2 o3 o4 hlast c0 c1 c2 hput
      rw [hlp] at o4 ⊢
      obtain ⟨kd, tx, ps⟩ := tk
      have o4 : lp < ps := o4
      have hlast : lastP (-1) L (i + 1) = ps := hlast
      have htxl : tx.length ≤ 16384 := Nat.le_trans (tell_len ⟨kd, tx, ps⟩) o2
      obtain ⟨xs, hxs⟩ : ∃ xs : ByteArray, (⟨tx.toArray⟩ : ByteArray) = xs := ⟨_, rfl⟩
      have hxl : xs.data.toList = tx := by rw [← hxs]
      have hxz : xs.size ≤ 20000 := by rw [← len_z, hxl]; omega
      rw [show (⟨(⟨kd, tx, ps⟩ : Tok).text.toArray⟩ : ByteArray) = xs from hxs] at c1
      change wo.cell? ⟨g, i * 3, none⟩ = some (.int .u8 (kd.toNat : Int)) at c0
      change wo.cell? ⟨g, i * 3 + 2, none⟩ = some (.int .i64 ps) at c2
      have HC := Lib.hid (HCK.out kd xs ps (by omega) wo HW.out.bel)
      rw [hxl, o1] at HC
      have hnl : ¬ ps ≤ lp := by omega
      obtain ⟨y, hy⟩ : ∃ y : ByteArray, (⟨(tellT ⟨kd, tx, ps⟩).toArray⟩ : ByteArray) = y := ⟨_, rfl⟩
      have hyl : y.data.toList = tellT ⟨kd, tx, ps⟩ := by rw [← hy]
      have hyz : y.size ≤ 16384 := by rw [← len_z, hyl]; exact o2
      have HJ : Hid (∀ W, Below wo.heap.size wo W → Calls Tryz.prog 16 #[.slice (some ⟨g, i * 3, none⟩) 1 (cap - i)] W fun e w' => e = .returned (.tuple #[.string y, .int .i64 0]) ∧ Below W.heap.size W w') := Lib.hid fun W hW => by
        have h1 : TokSl (.slice (some ⟨g, i * 3, none⟩) 1 (cap - i)) [⟨kd, tx, ps⟩] W := by
          refine Or.inr ⟨g, i * 3, cap - i, rfl, ?_⟩
          intro j hj
          have : j = 0 := by simp at hj; omega
          subst this
          have hx := (HW.out.below hW).own.cells i hiL
          rw [htk] at hx
          exact hx
        have := HJN.out ⟨kd, tx, ps⟩ _ (by show tx.length ≤ 20000; omega) W ((HW.out.below hW).bel) h1
        unfold joinE at this
        rw [show okTs [(⟨kd, tx, ps⟩ : Tok)] = true from o1, show joinT [(⟨kd, tx, ps⟩ : Tok)] = tellT ⟨kd, tx, ps⟩ from by simp [joinT, restT]] at this
        rw [← hy]
        exact this
      obtain ⟨r, hr⟩ : ∃ r, (kn + i) % 5 = r := ⟨_, rfl⟩
      have hri : ((kn : Int) + (i : Int)) % 5 = (r : Int) := by omega
      have hrt : ((kn : Int) + (i : Int)).tmod 5 = (r : Int) := by rw [Int.tmod_eq_emod_of_nonneg (by omega)]; exact hri
      have hr5 : r < 5 := by omega
      have hr5i : (r : Int) < 5 := by omega
      obtain ⟨bl, hbl⟩ : ∃ bl : ByteArray, (⟨(blankP (kn + i)).toArray⟩ : ByteArray) = bl := ⟨_, rfl⟩
      have hbll : bl.data.toList = blankP (kn + i) := by rw [← hbl]
      have hblz : bl.size ≤ 5 := by rw [← len_z, hbll]; exact blankP_len _
      have HBL : Hid (∀ W, Below wo.heap.size wo W → W.cell? ⟨gb, r, none⟩ = some (.string bl)) := Lib.hid fun W hW => by rw [← hbl]; exact (HW.out.below hW).blank (kn + i) r hr
      have HT2 : Hid ((t ++ (bl ++ y)).data.toList = putT kn (L.take (i + 1))) := Lib.hid (by
        rw [hput, ← HT.out]; simp [hbll, hyl])
      have htz2 : (t ++ (bl ++ y)).size ≤ 20000 * (i + 1) := by
        have h1 := len_z (t ++ (bl ++ y))
        have h2 := len_z t
        have h3 := len_z bl
        have h4 := len_z y
        simp only [ByteArray.data_append, Array.toList_append, List.length_append] at h1
        omega
      have HTZ2 := Lib.hid htz2
      have HLAST := Lib.hid hlast
      have hcl : wo.heap.size ≤ wo.heap.size := Nat.le_refl _
      have hbig : t.size ≤ 100000000 := by omega
      have hi63 : i ≤ 2000 := by omega
      have hcapi : ¬ cap = i := by omega
      have hic : i < cap := by omega
      obtain ⟨z, hz⟩ : ∃ z, t ++ (bl ++ y) = z := ⟨_, rfl⟩
      have HO3 := Lib.hid o3
      obtain ⟨gg, rfl⟩ : ∃ gg, gk = gg + 1 := ⟨gk - 1, by omega⟩
      rw [hz] at HT2 HTZ2
      clear hr o1 o2 o3 hxl hxs htk hput hlast hy hyl hbl hbll htz2 hlp hcl
      by_cases hk0 : kd = 0
      · have hil : (i : Int) = (n : Int) - 1 := by have := HO3.out hk0; have := HN.out; omega
        have hil2 : ¬ (i : Int) < (n : Int) - 1 := by omega
        subst hk0
        clear hil
        go_wp2_with fail
        refine HC.out.mono ?_; rintro e w4 ⟨rfl, hb4⟩
        have HB4 := Lib.hid hb4
        have HW4 := Lib.hid (HW.out.below hb4)
        have hgl : g < wo.heap.size := lt_of_cell c0
        have d0 := (hb4.cell (p := ⟨g, i * 3, none⟩) hgl).trans c0
        have d2 := (hb4.cell (p := ⟨g, i * 3 + 2, none⟩) hgl).trans c2
        clear c0 c1 c2 hb4
        go_wp2_with fail
        ((with_reducible refine (HJ.out w4 HB4.out).mono ?_); rintro e w5 ⟨rfl, hb5⟩)
        have HW5 := Lib.hid (HW4.out.below hb5)
        have e0 := HBL.out w5 (HB4.out.trans (hb5.mono HB4.out.size))
        clear hb5 d0 d2
        go_wp2_with fail
        go_roundg gg
        case measure => omega
        case rel => exact ⟨i + 1, z, rfl, by rw [HLAST.out], by go_num, by omega, HTZ2.out, HT2, HW5⟩
      · have hki : ((kd.toNat : Int) == 0) = false := beq_eq_false_iff_ne.2 (u8_not 0 kd (fun e => hk0 e.symm))
        clear hk0
        go_wp2_with fail
        refine HC.out.mono ?_; rintro e w4 ⟨rfl, hb4⟩
        have HB4 := Lib.hid hb4
        have HW4 := Lib.hid (HW.out.below hb4)
        have hgl : g < wo.heap.size := lt_of_cell c0
        have d0 := (hb4.cell (p := ⟨g, i * 3, none⟩) hgl).trans c0
        have d2 := (hb4.cell (p := ⟨g, i * 3 + 2, none⟩) hgl).trans c2
        clear c0 c1 c2 hb4
        go_wp2_with fail
        ((with_reducible refine (HJ.out w4 HB4.out).mono ?_); rintro e w5 ⟨rfl, hb5⟩)
        have HW5 := Lib.hid (HW4.out.below hb5)
        have e0 := HBL.out w5 (HB4.out.trans (hb5.mono HB4.out.size))
        clear hb5 d0 d2
        go_wp2_with fail
        go_roundg gg
        case measure => omega
        case rel => exact ⟨i + 1, z, rfl, by rw [HLAST.out], by go_num, by omega, HTZ2.out, HT2, HW5⟩
    · obtain rfl : i = n := by omega
      have hti : putT kn (L.take i) = putT kn L := by rw [List.take_of_length_le (by rw [HN.out]; exact Nat.le_refl _)]
      have HT2 : Hid (t.data.toList = putT kn L) := Lib.hid (by rw [← hti]; exact HT.out)
      clear hti
      by_cases hbig : 16000 < t.size
      · go_wp2_with fail
        go_ret
        exact ⟨rfl, HW.out.bel⟩
      · have hb2 : decide (16000 < t.size) = false := decide_eq_false hbig
        obtain ⟨R, hR, hRk⟩ := hlaw.out (by rw [← HT2.out, len_z]; omega)
        have HXR := Lib.hid (HX2.out t R (by omega) (by rw [HT2.out]; exact hR) wo HW.out.bel)
        have hRl : R.length ≤ 100000 := by
          have := congrArg List.length hRk
          simp only [List.length_map] at this
          rw [this, HN.out]; omega
        have HSS : Hid (sameT false L R = true) := Lib.hid (by rw [same_kt, hRk])
        have HRL := Lib.hid hRl
        clear hR hRk hRl
        go_wp2_with fail
        refine HXR.out.mono ?_; rintro e w5 ⟨⟨v, rfl, ho⟩, hb⟩
        have HW5 := Lib.hid (HW.out.below hb)
        have HS := Lib.hid (rsame17_any L R (.slice (some ⟨g, 0, none⟩) i cap) v false (by rw [HN.out]; omega) HRL.out w5 (by rw [← HN.out]; exact HW5.out.own.sl) ho.sl)
        rw [HSS.out] at HS
        clear hb ho
        go_wp2_with fail
        refine HS.out.mono ?_; rintro e w6 ⟨rfl, hb⟩
        have HB6 := Lib.hid (HW5.out.bel.trans (hb.mono HW5.out.bel.size))
        clear hb
        go_wp2_with fail
        go_ret
        exact ⟨rfl, HB6.out⟩
theorem blanks_walk (s : ByteArray) (k : Int) (hz : s.size ≤ maxLen) (k0 : 0 ≤ k) (k1 : k ≤ 255) (w : World) (hE : EnvU w) :
    Calls Tryz.prog 6 #[.string s, .int .u8 k] w fun e w' => e = .returned (.bool true) ∧ Below w.heap.size w w' := by
  obtain ⟨kn, rfl⟩ : ∃ kn : Nat, k = (kn : Int) := ⟨k.toNat, by omega⟩
  by_cases hfar : 1000 < s.size
  · exact blanks_far s kn hfar w hE
  · cases h : lex0 s.data.toList with
    | error x => obtain ⟨ea, na⟩ := x; exact blanks_err s kn (by omega) ea na h w hE
    | ok L =>
      have hl := len_z s
      obtain ⟨M, e, hL, he, hM, hinc, hlaw⟩ := lex_blanks_law s.data.toList L (by omega) h
      have hMl : M.length ≤ s.data.toList.length := by
        unfold lex0 at h
        rw [if_neg (by omega)] at h
        split at h
        · cases h
        · obtain ⟨M', e', hR, _, hlen, _⟩ := lex_ok _ _ _ _ _ (by omega) h
          have := congrArg List.length hR
          rw [hL] at this
          simp at this
          omega
      have hek : e.kind = 0 := congrArg Prod.fst he
      have het : e.text = [] := congrArg Prod.snd he
      refine blanks_ok s kn (by omega) (by omega) L h (by rw [hL]; simp) (by rw [hL]; simp; omega) (Lib.hid fun i hi => ?_) (Lib.hid hinc) (Lib.hid fun hp => hlaw kn hp) w hE
      subst hL
      by_cases hiM : i < M.length
      · rw [List.getElem_append_left hiM]
        obtain ⟨g1, g2, g3⟩ := hM M[i] (List.getElem_mem _)
        exact ⟨g1, g3, fun h => absurd h g2⟩
      · have hie : i = M.length := by simp at hi; omega
        subst hie
        rw [List.getElem_append_right (Nat.le_refl _)]
        simp only [Nat.sub_self, List.getElem_cons_zero, List.length_append, List.length_singleton]
        refine ⟨?_, ?_, fun _ => by omega⟩
        · unfold okT; rw [hek, het]; rfl
        · rw [tell_end e he]; decide
end Go.Proofs.YtgclnjogoghhcaaGreatDoor
