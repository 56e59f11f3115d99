/- Walks and plain laws of this proof, joined from smaller texts (1). -/
import Derived.Lib.ValidLaws
import Derived.WalkKit
import Derived.WalkSpells
import Derived.Handy
import Derived.Lib.Hide
import Derived.Lib.UnsafeStr
import Derived.Lib.BufferRead
import Derived.Laws.IdiomStrings
import Derived.Laws.AppendOwn
import Derived.OwnWalk
import Derived.Laws.Rows
import Derived.Test.YtfagaflgdlomiaaGreatDoorRows
import Derived.IntWalk
import Derived.LoopTactic
import Derived.Deep.LoopGhost
import Derived.Deep.QuietTactic
import Derived.BigQuiet
import Derived.Deep.RegionHeld3
import Derived.Outline
import Derived.Lib.OthersKept
import Derived.Maps.AppendAt
import Derived.Laws.Tables
import Derived.Deep.AppendLies
import Derived.LoopN
import Derived.Laws.AppendOwnNone
import Derived.Maps.RangeWalk
import Derived.Lib.ParseIntBCases
import Derived.Lib.ItoaMem
import Derived.Lib.SlTrimSet
import Derived.Lib.IndexBytes
import Derived.Lib.ItoaLen
import Derived.Lib.Bytealg
import Derived.Lib.Strings
import Derived.Test.YtfagaflgdlomiaaGreatDoorShelf
import Derived.Test.YtfagaflgdlomiaaGreatDoorShelh
import Derived.Deep.Light
import Derived.Laws.EntriesVeiled
import Derived.Laws.OwnMore
import Derived.Shelf.Strings.SlTrimAscii
import Derived.StillTailTactics
import Derived.Deep.RegionWith
import Derived.Lib.ConvBytes
import Derived.Deep.Draws
import Derived.Test.YtfagaflgdlomiaaGreatDoorShelg
import Derived.Maps.OwnOps
import Derived.Maps.Views
import Derived.Maps.Keyed
import Derived.StringKeys
import Derived.Maps.OwnSet
import Derived.Laws.Cover3
import Derived.Carry
set_option linter.unusedSimpArgs false
set_option linter.unusedVariables false
namespace Go.Proofs.YtfagaflgdlomiaaGreatDoor
open Go.Lib
def isPt (n : Nat) : Bool := decide (n ≤ 1114111 ∧ (n < 55296 ∨ 57343 < n))
def encN (n : Nat) : List UInt8 :=
  if n < 128 then [UInt8.ofNat n] else if n < 2048 then [UInt8.ofNat (192 + n / 64), UInt8.ofNat (128 + n % 64)]
  else if n < 65536 then [UInt8.ofNat (224 + n / 4096), UInt8.ofNat (128 + n / 64 % 64), UInt8.ofNat (128 + n % 64)]
  else [UInt8.ofNat (240 + n / 262144), UInt8.ofNat (128 + n / 4096 % 64), UInt8.ofNat (128 + n / 64 % 64), UInt8.ofNat (128 + n % 64)]
/-- What the bytes of one code point would tell. -/
def numN : List UInt8 → Nat
  | [a] => a.toNat
  | [a, b] => 64 * (a.toNat % 32) + b.toNat % 64
  | [a, b, c] => 64 * (64 * (a.toNat % 16) + b.toNat % 64) + c.toNat % 64
  | [a, b, c, d] => 64 * (64 * (64 * (a.toNat % 8) + b.toNat % 64) + c.toNat % 64) + d.toNat % 64
  | _ => 0
def oneB (l : List UInt8) (k : Nat) : Bool := decide (k ≤ l.length) && (isPt (numN (l.take k)) && encN (numN (l.take k)) == l.take k)
theorem ofN (n : Nat) (h : n < 256) : (UInt8.ofNat n).toNat = n := by rw [UInt8.toNat_ofNat']; omega
theorem toN {x : UInt8} {n : Nat} (h : x.toNat = n) : UInt8.ofNat n = x := by rw [← h, UInt8.ofNat_toNat]
theorem enc_len (n : Nat) (h : isPt n = true) : (encN n).length = if n < 128 then 1 else if n < 2048 then 2 else if n < 65536 then 3 else 4 := by
  unfold encN; repeat' split
  all_goals first | rfl | omega
/-- The bytes of a code point are decoded as it. -/
theorem decode_enc (n : Nat) (h : isPt n = true) (t : List UInt8) : decodeL (encN n ++ t) = (n, (encN n).length) := by
  simp only [isPt, decide_eq_true_eq] at h
  rw [decodeL_N]
  unfold encN
  by_cases h1 : n < 128
  · rw [if_pos h1]
    simp only [List.cons_append, List.nil_append, List.getD_cons_zero, List.length_cons, List.length_nil]
    rw [ofN n (by omega)]
    unfold decodeN
    rw [if_pos h1]
  · rw [if_neg h1]
    by_cases h2 : n < 2048
    · rw [if_pos h2]
      simp only [List.cons_append, List.nil_append, List.getD_cons_zero, List.getD_cons_succ, List.length_cons, List.length_nil]
      rw [ofN _ (by omega), ofN _ (by omega)]
      unfold decodeN
      rw [if_neg (by omega), if_pos (by omega), if_pos (by omega)]
      exact Prod.ext (by show _ = n; omega) rfl
    · rw [if_neg h2]
      by_cases h3 : n < 65536
      · rw [if_pos h3]
        simp only [List.cons_append, List.nil_append, List.getD_cons_zero, List.getD_cons_succ, List.length_cons, List.length_nil]
        rw [ofN _ (by omega), ofN _ (by omega), ofN _ (by omega)]
        unfold decodeN
        rw [if_neg (by omega), if_neg (by omega), if_pos (by omega), if_pos (by omega)]
        exact Prod.ext (by show _ = n; omega) rfl
      · rw [if_neg h3]
        simp only [List.cons_append, List.nil_append, List.getD_cons_zero, List.getD_cons_succ, List.length_cons, List.length_nil]
        rw [ofN _ (by omega), ofN _ (by omega), ofN _ (by omega), ofN _ (by omega)]
        unfold decodeN
        rw [if_neg (by omega), if_neg (by omega), if_neg (by omega), if_pos (by omega), if_pos (by omega)]
        exact Prod.ext (by show _ = n; omega) rfl
theorem decode_one (l : List UInt8) (k : Nat) (h : oneB l k = true) : decodeL l = (numN (l.take k), k) := by
  simp only [oneB, Bool.and_eq_true, decide_eq_true_eq, beq_iff_eq] at h
  obtain ⟨h1, h2, h3⟩ := h
  have e : l = encN (numN (l.take k)) ++ l.drop k := by rw [h3, List.take_append_drop]
  have := decode_enc (numN (l.take k)) h2 (l.drop k)
  rw [← e, h3] at this
  rw [this, List.length_take, Nat.min_eq_left h1]
/-- What is decoded well is one code point's bytes. -/
theorem one_decode (l : List UInt8) (hne : l ≠ []) (hv : ¬ ((decodeL l).1 = 65533 ∧ (decodeL l).2 = 1)) : oneB l (decodeL l).2 = true ∧ numN (l.take (decodeL l).2) = (decodeL l).1 ∧ 1 ≤ (decodeL l).2 ∧ (decodeL l).2 ≤ 4 := by
  have hl : 0 < l.length := List.length_pos_iff.2 hne
  rw [decodeL_N] at hv ⊢
  have k0 := (l.getD 0 0).toNat_lt
  have k1 := (l.getD 1 0).toNat_lt
  have k2 := (l.getD 2 0).toNat_lt
  have k3 := (l.getD 3 0).toNat_lt
  rcases decodeN_shape l.length (l.getD 0 0).toNat (l.getD 1 0).toNat (l.getD 2 0).toNat (l.getD 3 0).toNat with ⟨c, e⟩ | ⟨c1, c2, c3, cv, e⟩ | ⟨c1, c2, c3, c4, cv, cs, e⟩ | ⟨c1, c2, c3, c4, c5, cv, cw, e⟩ | e
  · rw [e]
    dsimp only
    have hn : numN (l.take 1) = (l.getD 0 0).toNat := by rw [takeA l hl]; rfl
    refine ⟨?_, hn, by omega, by omega⟩
    unfold oneB
    rw [hn, takeA l hl, decide_eq_true (by omega)]
    simp only [Bool.true_and, Bool.and_eq_true, beq_iff_eq]
    refine ⟨by simp only [isPt, decide_eq_true_eq]; omega, ?_⟩
    unfold encN
    rw [if_pos c, toN rfl]
  · rw [e]
    dsimp only
    have hn : numN (l.take 2) = (l.getD 0 0).toNat % 32 * 64 + (l.getD 1 0).toNat % 64 := by rw [takeB l c2]; simp only [numN]; omega
    refine ⟨?_, hn, by omega, by omega⟩
    unfold oneB
    rw [hn, takeB l c2, decide_eq_true (by omega)]
    simp only [Bool.true_and, Bool.and_eq_true, beq_iff_eq]
    refine ⟨by simp only [isPt, decide_eq_true_eq]; omega, ?_⟩
    unfold encN
    rw [if_neg (by omega), if_pos (by omega), toN (x := l.getD 0 0) (by omega), toN (x := l.getD 1 0) (by omega)]
  · rw [e]
    dsimp only
    have hn : numN (l.take 3) = (l.getD 0 0).toNat % 16 * 4096 + (l.getD 1 0).toNat % 64 * 64 + (l.getD 2 0).toNat % 64 := by rw [takeC l c2]; simp only [numN]; omega
    refine ⟨?_, hn, by omega, by omega⟩
    unfold oneB
    rw [hn, takeC l c2, decide_eq_true (by omega)]
    simp only [Bool.true_and, Bool.and_eq_true, beq_iff_eq]
    refine ⟨by simp only [isPt, decide_eq_true_eq]; omega, ?_⟩
    unfold encN
    rw [if_neg (by omega), if_neg (by omega), if_pos (by omega), toN (x := l.getD 0 0) (by omega), toN (x := l.getD 1 0) (by omega), toN (x := l.getD 2 0) (by omega)]
  · rw [e]
    dsimp only
    have hn : numN (l.take 4) = (l.getD 0 0).toNat % 8 * 262144 + (l.getD 1 0).toNat % 64 * 4096 + (l.getD 2 0).toNat % 64 * 64 + (l.getD 3 0).toNat % 64 := by rw [takeD l c2]; simp only [numN]; omega
    refine ⟨?_, hn, by omega, by omega⟩
    unfold oneB
    rw [hn, takeD l c2, decide_eq_true (by omega)]
    simp only [Bool.true_and, Bool.and_eq_true, beq_iff_eq]
    refine ⟨by simp only [isPt, decide_eq_true_eq]; omega, ?_⟩
    unfold encN
    rw [if_neg (by omega), if_neg (by omega), if_neg (by omega), toN (x := l.getD 0 0) (by omega), toN (x := l.getD 1 0) (by omega), toN (x := l.getD 2 0) (by omega), toN (x := l.getD 3 0) (by omega)]
  · rw [e] at hv
    exact absurd ⟨rfl, rfl⟩ hv
/-- Is the first code point well? -/
def wellB (l : List UInt8) : Bool := !decide ((decodeL l).1 = 65533 ∧ (decodeL l).2 = 1)
/-- The sizes are tried in order: the first that fits is the decoded one's. -/
theorem one_iff (l : List UInt8) (hne : l ≠ []) (k : Nat) (hk : 1 ≤ k) (hk4 : k ≤ 4) : oneB l k = (wellB l && decide (k = (decodeL l).2)) := by
  by_cases hv : (decodeL l).1 = 65533 ∧ (decodeL l).2 = 1
  · have hw : wellB l = false := by unfold wellB; rw [decide_eq_true hv]; rfl
    rw [hw, Bool.false_and]
    cases h : oneB l k with
    | false => rfl
    | true =>
      exfalso
      have e := decode_one l k h
      rw [e] at hv
      obtain ⟨hv1, hv2⟩ := hv
      simp only at hv1 hv2
      subst hv2
      simp only [oneB, Bool.and_eq_true, beq_iff_eq] at h
      have := congrArg List.length h.2.2
      rw [hv1] at this
      rw [List.length_take] at this
      have h3 : (encN 65533).length = 3 := by decide
      omega
  · have hw : wellB l = true := by unfold wellB; rw [decide_eq_false hv]; rfl
    obtain ⟨g1, g2, g3, g4⟩ := one_decode l hne hv
    rw [hw, Bool.true_and]
    by_cases e : k = (decodeL l).2
    · rw [decide_eq_true e, e]; exact g1
    · rw [decide_eq_false e]
      cases h : oneB l k with
      | false => rfl
      | true => exact absurd (congrArg Prod.snd (decode_one l k h)).symm e
/-- A text's code points: how the document reads it. -/
theorem valid_step (l : List UInt8) (hne : l ≠ []) : validD l = (wellB l && validD (l.drop (decodeL l).2)) := by
  rw [validD_step l hne]
  unfold wellB
  by_cases h : (decodeL l).1 = 65533 ∧ (decodeL l).2 = 1
  · rw [if_pos h, decide_eq_true h]; rfl
  · rw [if_neg h, decide_eq_false h]; rfl
/-- The code points of a text. -/
def ptsGo : Nat → List UInt8 → List Nat
  | 0, _ => []
  | n + 1, l => if l = [] then [] else (decodeL l).1 :: ptsGo n (l.drop (decodeL l).2)
def pts (l : List UInt8) : List Nat := ptsGo l.length l
theorem ptsGo_nil : ∀ n, ptsGo n [] = []
  | 0 => rfl
  | n + 1 => by simp [ptsGo]
theorem ptsGo_fuel : ∀ (n m : Nat) (l : List UInt8), l.length ≤ n → l.length ≤ m → ptsGo n l = ptsGo m l
  | 0, m, l, hn, _ => by
    have : l = [] := List.eq_nil_of_length_eq_zero (by omega)
    subst this
    rw [ptsGo_nil, ptsGo_nil]
  | n + 1, 0, l, _, hm => by
    have : l = [] := List.eq_nil_of_length_eq_zero (by omega)
    subst this
    rw [ptsGo_nil, ptsGo_nil]
  | n + 1, m + 1, l, hn, hm => by
    unfold ptsGo
    by_cases hne : l = []
    · simp [hne]
    · have hw := decodeL_width l
      have hl : 0 < l.length := List.length_pos_iff.2 hne
      rw [if_neg hne, if_neg hne, ptsGo_fuel n m (l.drop (decodeL l).2) (by rw [List.length_drop]; omega) (by rw [List.length_drop]; omega)]
theorem pts_nil : pts [] = [] := rfl
theorem pts_step (l : List UInt8) (hne : l ≠ []) : pts l = (decodeL l).1 :: pts (l.drop (decodeL l).2) := by
  have hl : 0 < l.length := List.length_pos_iff.2 hne
  have hw := decodeL_width l
  obtain ⟨n, hn⟩ : ∃ n, l.length = n + 1 := ⟨l.length - 1, by omega⟩
  unfold pts
  rw [hn]
  show (if l = [] then [] else _) = _
  rw [if_neg hne, ptsGo_fuel n (l.drop (decodeL l).2).length _ (by rw [List.length_drop]; omega) (Nat.le_refl _)]
end Go.Proofs.YtfagaflgdlomiaaGreatDoor
namespace Go.Proofs.YtfagaflgdlomiaaGreatDoor
open Go.RowKit
theorem u8_info : (Tryz.prog.info? 5).map (fun i => (i.zero, i.size, i.bytes)) = some (some (.int .u8 0), 1, 1) := by kernel_rfl
/-- A slice of bytes of the call's own, from a block on, that reads as a list. -/
def Own (B : Nat) (v : Value) (l : List UInt8) (W : World) : Prop := W.ownsRow B 5 1 v l.length (Lib.byteCells l)
theorem Own.nil (B : Nat) (W : World) : Own B (.slice none 0 0) [] W := World.ownsRow_nil W B 5 1
theorem Own.below {B : Nat} {v : Value} {l : List UInt8} {w w' : World} (h : Own B v l w) (hb : Below w.heap.size w w') : Own B v l w' := by
  obtain ⟨h1, h2⟩ := h
  refine ⟨h1, ?_⟩
  rcases h2 with h2 | ⟨g, cap, cur, hv, hB, hg, hrest⟩
  · exact Or.inl h2
  · have hlt : g < w.heap.size := (Array.getElem?_eq_some_iff.1 hg).1
    exact Or.inr ⟨g, cap, cur, hv, hB, (hb.block g hlt).trans hg, hrest⟩
theorem Own.alloc {B : Nat} {v : Value} {l : List UInt8} {w : World} (h : Own B v l w) (o : Obj) : Own B v l (w.alloc o) := World.ownsRow.alloc h o
theorem Own.drew {B : Nat} {v : Value} {l : List UInt8} {w : World} (h : Own B v l w) : Own B v l w.drew := h
theorem Own.lt {B : Nat} {v : Value} {l : List UInt8} {w : World} (h : Own B v l w) : ∀ k, v.ownBlock = some k → B ≤ k := fun k hk => (World.ownsRow.lt h k hk).1
/-- A slice of bytes that was just laid. -/
theorem Own.fresh {l : List UInt8} {C : Array Value} {k : Nat} (hk : k = l.length) (hC : C.toList = Lib.byteCells l) (hl : l.length ≤ 1000000000) (W : World) : Own W.heap.size (.slice (some ⟨W.heap.size, 0, none⟩) k k) l (W.alloc (.cells C 5)) := by
  have hs : C.size = l.length := by
    have := congrArg List.length hC
    simpa [Lib.byteCells] using this
  refine ⟨by simp [Lib.byteCells], Or.inr ⟨W.heap.size, k, C, by rw [hk], Nat.le_refl _, heap_alloc_new W _, by omega, by unfold maxLen; omega, by omega, ?_⟩⟩
  rw [List.take_of_length_le (by simp; omega)]
  exact hC
/-- 'append(v, x..)' of bytes that stand in a row. -/
theorem wpList_push {ops : Array Oper} {rest : List Oper} {o : Oper} {a : Act} {Q : Exit → Act → World → Prop} {w : World} (hgd : o.guard = none) (s x : Operand)
    (ho : o.op = .call { callee := .builtin .append, args := #[s, x], argTypes := #[33, 33] }) (B : Nat) (v : Value) (l : List UInt8) (hs : a.eval s = v) (hown : Own B v l w)
    (ad : Addr) (c : Nat) (news : List UInt8) (hx : a.eval x = .slice (some ad) news.length c) (hnew : ∀ j (h : j < news.length), w.cell? (ad.add j) = some (.int .u8 (news[j].toNat : Int))) (hlen : l.length + news.length ≤ 1000000000) (hB : B ≤ w.heap.size)
    (h : ∀ v' w', Own B v' (l ++ news) w' → w.grownBy w' v.ownBlock → wpList Tryz.prog ops Q rest (a.put o.dst v') w') : wpList Tryz.prog ops Q (o :: rest) a w := by
  obtain ⟨i0, hi, hz0, hz1, hz2⟩ := info_parts u8_info
  refine wpList_append_own w hgd s x 33 ho B 5 i0 (.int .u8 0) 1 1 Tryz.underlying33 hi hz0 hz1 hz2 rfl (by decide) v l.length (Lib.byteCells l) hs hown ad news.length c (Lib.byteCells news) hx (by simp [Lib.byteCells]) ?_ ?_ (by unfold maxLen; omega) (by omega) hB ?_
  · intro j u hj
    have hl : j < news.length := by
      have := (List.getElem?_eq_some_iff.1 hj).1
      simpa [Lib.byteCells] using this
    rw [hnew j hl]
    unfold Lib.byteCells at hj
    rw [List.getElem?_map, List.getElem?_eq_getElem hl] at hj
    exact hj
  · intro u hu
    unfold Lib.byteCells at hu
    obtain ⟨b, _, rfl⟩ := List.mem_map.1 hu
    rfl
  · intro v' w' h1 h2 _
    refine h v' w' ?_ h2
    unfold Own Lib.byteCells at *
    rw [List.length_append, List.map_append]
    exact h1
/-- 'append(v, x..)' of bytes that stand in a row. -/
theorem wp_push {o : Oper} {a : Act} {K : Act → World → Prop} {Q : Exit → Act → World → Prop} {w : World} (s x : Operand)
    (ho : o.op = .call { callee := .builtin .append, args := #[s, x], argTypes := #[33, 33] }) (B : Nat) (v : Value) (l : List UInt8) (hs : a.eval s = v) (hown : Own B v l w)
    (ad : Addr) (c : Nat) (news : List UInt8) (hx : a.eval x = .slice (some ad) news.length c) (hnew : ∀ j (h : j < news.length), w.cell? (ad.add j) = some (.int .u8 (news[j].toNat : Int))) (hlen : l.length + news.length ≤ 1000000000) (hB : B ≤ w.heap.size)
    (h : ∀ v' w', Own B v' (l ++ news) w' → w.grownBy w' v.ownBlock → K (a.put o.dst v') w') : o.wp Tryz.prog a w K Q := by
  obtain ⟨i0, hi, hz0, hz1, hz2⟩ := info_parts u8_info
  refine wp_append_own w s x 33 ho B 5 i0 (.int .u8 0) 1 1 Tryz.underlying33 hi hz0 hz1 hz2 rfl (by decide) v l.length (Lib.byteCells l) hs hown ad news.length c (Lib.byteCells news) hx (by simp [Lib.byteCells]) ?_ ?_ (by unfold maxLen; omega) (by omega) hB ?_
  · intro j u hj
    have hl : j < news.length := by
      have := (List.getElem?_eq_some_iff.1 hj).1
      simpa [Lib.byteCells] using this
    rw [hnew j hl]
    unfold Lib.byteCells at hj
    rw [List.getElem?_map, List.getElem?_eq_getElem hl] at hj
    exact hj
  · intro u hu
    unfold Lib.byteCells at hu
    obtain ⟨b, _, rfl⟩ := List.mem_map.1 hu
    rfl
  · intro v' w' h1 h2 _
    refine h v' w' ?_ h2
    unfold Own Lib.byteCells at *
    rw [List.length_append, List.map_append]
    exact h1
theorem run_convert_own {B : Nat} {v : Value} {l : List UInt8} {w : World} (h : Own B v l w) : (convert 33 9 v).run Tryz.prog w = .ok (.string ⟨l.toArray⟩) w := by
  obtain ⟨h1, h2⟩ := h
  rcases h2 with ⟨rfl, h2⟩ | ⟨g, cap, cur, rfl, hB, hg, hn, hc, hcs, ht⟩
  · have : l = [] := List.eq_nil_of_length_eq_zero h2
    subst this
    exact Lib.run_convert_nil_bytes w 33 9 5 0 Tryz.underlying33 Tryz.underlying5 Tryz.underlying9
  · exact Go.run_convert_bytes_back w 33 9 5 ⟨g, 0, none⟩ cap l Tryz.underlying33 Tryz.underlying5 Tryz.underlying9 (Lib.bytes_of_row hg (by rw [Nat.mul_one] at ht; exact ht))
/-- The cells of bytes that were just laid. -/
theorem new_bytes (W : World) (T : TypeId) (news : List UInt8) : ∀ j (h : j < news.length), (W.alloc (.cells (news.map (fun b => Value.int .u8 (b.toNat : Int))).toArray T)).cell? ((⟨W.heap.size, 0, none⟩ : Addr).add j) = some (.int .u8 (news[j].toNat : Int)) := by
  intro j h
  have e : (W.alloc (.cells (news.map (fun b => Value.int .u8 (b.toNat : Int))).toArray T)).heap[W.heap.size]? = some (.cells (news.map (fun b => Value.int .u8 (b.toNat : Int))).toArray T (0, 0)) := heap_alloc_new W _
  have ha : (⟨W.heap.size, 0, none⟩ : Addr).add j = ⟨W.heap.size, j, none⟩ := by
    unfold Addr.add
    split
    · rename_i h0; rw [h0]
    · simp
  rw [ha]
  refine (Lib.cell_of_heap e j).trans ?_
  simp [h]
end Go.Proofs.YtfagaflgdlomiaaGreatDoor
namespace Go.Proofs.YtfagaflgdlomiaaGreatDoor
open Go.RowKit
theorem ret_b {a c : Bool} (h : a = c) : Ending.returned (.bool a) = .returned (.bool c) := by rw [h]
theorem drop_at (s : ByteArray) (k : Nat) (h : k < s.size) : s.data.toList.drop k = s[k] :: s.data.toList.drop (k + 1) := by
  rw [List.drop_eq_getElem_cons (by rw [Array.length_toList]; exact h)]; rfl
end Go.Proofs.YtfagaflgdlomiaaGreatDoor
namespace Go.Proofs.YtfagaflgdlomiaaGreatDoor
open Go.RowKit Go.Lib
/-- An operation that is not wanted is taken first. -/
theorem tkn {P : Program} {ops : Array Oper} {Q : Exit → Act → World → Prop} {md : Region.Mode} {S : World → Prop} (i : Nat) (d : Option Tmp) {oi : Oper} {fuel : Nat} {listed : Array Bool} {a : Act} {w : World} (hi' : ops.toList[i]? = some oi)
    (hk : (Region.noSelect ops && Region.free md ops listed i && (Region.ready md ops listed).contains i) = true) (hw : Region.wanted oi (yielded ops a.tmps) = false)
    (hd : oi.dst = d) (hQ : ∀ c a w, Q (.panic c) (a.put d undef) w → Q (.panic c) a w) (hS : S w)
    (h : wpAnyH P md ops Q S fuel (listed.setIfInBounds i true) (a.put d undef) w) : wpAnyH P md ops Q S (fuel + 1) listed a w := by
  have hi : ops[i]? = some oi := by rw [← Array.getElem?_toList]; exact hi'
  subst hd
  simp only [Bool.and_eq_true] at hk
  exact wpAnyH_take hi hk.1.1 hk.1.2 hk.2 hQ (Or.inr ⟨hw, rfl⟩) hS h
/-- An operation that yields in every world that meets S is taken first. -/
theorem tky {P : Program} {ops : Array Oper} {Q : Exit → Act → World → Prop} {md : Region.Mode} {S : World → Prop} (i : Nat) (d : Option Tmp) {v : Value} {oi : Oper} {fuel : Nat} {listed : Array Bool} {a : Act} {w : World} (hi' : ops.toList[i]? = some oi)
    (hk : (Region.noSelect ops && Region.free md ops listed i && (Region.ready md ops listed).contains i) = true) (hw : Region.wanted oi (yielded ops a.tmps) = true)
    (hd : oi.dst = d) (hQ : ∀ c a w, Q (.panic c) (a.put d v) w → Q (.panic c) a w) (hy : ∀ w, S w → (execOp a.eval oi).run P w = .ok (.value v) w) (hS : S w)
    (h : wpAnyH P md ops Q S fuel (listed.setIfInBounds i true) (a.put d v) w) : wpAnyH P md ops Q S (fuel + 1) listed a w := by
  have hi : ops[i]? = some oi := by rw [← Array.getElem?_toList]; exact hi'
  subst hd
  simp only [Bool.and_eq_true] at hk
  exact wpAnyH_take hi hk.1.1 hk.1.2 hk.2 hQ (Or.inl ⟨hw, hy⟩) hS h
/-- What is carried out comes up alone. -/
theorem rcons {P : Program} {ops : Array Oper} {Q : Exit → Act → World → Prop} {md : Region.Mode} {S : World → Prop} (i : Nat) {fuel : Nat} {listed : Array Bool} {a : Act} {w : World} {o : Oper} (ho : ops.toList[i]? = some o) (hr : Region.ready md ops listed = [i])
    (h : ∀ K' : Act → World → Prop, Shut (∀ a w, S w → (S w → wpAnyH P md ops Q S fuel (listed.setIfInBounds i true) a w) → K' a w) → if Region.wanted o (yielded ops a.tmps) = true then Oper.wp P o a w K' Q else K' (a.put o.dst undef) w) : wpAnyH P md ops Q S (fuel + 1) listed a w :=
  wpAnyH_ready (rs := [i]) hr (by simp) (AllReadyH.cons (by rw [← Array.getElem?_toList]; exact ho) h AllReadyH.nil)
end Go.Proofs.YtfagaflgdlomiaaGreatDoor
namespace Go.Proofs.YtfagaflgdlomiaaGreatDoor
open Go.RowKit Go.Lib
theorem int_info : (Tryz.prog.info? 3).map (fun i => (i.zero, i.size, i.bytes)) = some (some (.int .i64 0), 1, 8) := by kernel_rfl
def natCells (l : List Nat) : List Value := l.map fun (n : Nat) => Value.int .i64 (n : Int)
/-- A slice of numbers of the call's own. -/
def OwnI (B : Nat) (v : Value) (l : List Nat) (W : World) : Prop := W.ownsRow B 3 1 v l.length (natCells l)
theorem OwnI.nil (B : Nat) (W : World) : OwnI B (.slice none 0 0) [] W := World.ownsRow_nil W B 3 1
theorem OwnI.below {B : Nat} {v : Value} {l : List Nat} {w w' : World} (h : OwnI B v l w) (hb : Below w.heap.size w w') : OwnI B v l w' := by
  obtain ⟨h1, h2⟩ := h
  refine ⟨h1, ?_⟩
  rcases h2 with h2 | ⟨g, cap, cur, hv, hB, hg, hrest⟩
  · exact Or.inl h2
  · have hlt : g < w.heap.size := (Array.getElem?_eq_some_iff.1 hg).1
    exact Or.inr ⟨g, cap, cur, hv, hB, (hb.block g hlt).trans hg, hrest⟩
theorem OwnI.alloc {B : Nat} {v : Value} {l : List Nat} {w : World} (h : OwnI B v l w) (o : Obj) : OwnI B v l (w.alloc o) := World.ownsRow.alloc h o
theorem OwnI.lt {B : Nat} {v : Value} {l : List Nat} {w : World} (h : OwnI B v l w) : ∀ k, v.ownBlock = some k → B ≤ k := fun k hk => (World.ownsRow.lt h k hk).1
theorem new_cell0 (W : World) (T : TypeId) (v : Value) : (W.alloc (.cells #[v] T)).cell? ⟨W.heap.size, 0, none⟩ = some v := by
  rw [Lib.cell_of_heap (heap_alloc_new W _)]; rfl
/-- What a text's check answers. -/
def chkE (l : List UInt8) : Int := if 16384 < l.length then 4 else if validD l then 0 else 10
end Go.Proofs.YtfagaflgdlomiaaGreatDoor
namespace Go.Proofs.YtfagaflgdlomiaaGreatDoor
open Go.RowKit
theorem str_info : (Tryz.prog.info? 9).map (fun i => (i.zero, i.size, i.bytes)) = some (some (.string ⟨#[]⟩), 1, 16) := by kernel_rfl
/-- A slice of texts of the call's own. -/
def OwnS (B : Nat) (v : Value) (l : List ByteArray) (W : World) : Prop := W.ownsRow B 9 1 v l.length (l.map Value.string)
theorem OwnS.nil (B : Nat) (W : World) : OwnS B (.slice none 0 0) [] W := World.ownsRow_nil W B 9 1
theorem OwnS.below {B : Nat} {v : Value} {l : List ByteArray} {w w' : World} (h : OwnS B v l w) (hb : Below w.heap.size w w') : OwnS B v l w' := by
  obtain ⟨h1, h2⟩ := h
  refine ⟨h1, ?_⟩
  rcases h2 with h2 | ⟨g, cap, cur, hv, hB, hg, hrest⟩
  · exact Or.inl h2
  · have hlt : g < w.heap.size := (Array.getElem?_eq_some_iff.1 hg).1
    exact Or.inr ⟨g, cap, cur, hv, hB, (hb.block g hlt).trans hg, hrest⟩
theorem OwnS.alloc {B : Nat} {v : Value} {l : List ByteArray} {w : World} (h : OwnS B v l w) (o : Obj) : OwnS B v l (w.alloc o) := World.ownsRow.alloc h o
theorem OwnS.lt {B : Nat} {v : Value} {l : List ByteArray} {w : World} (h : OwnS B v l w) : ∀ k, v.ownBlock = some k → B ≤ k := fun k hk => (World.ownsRow.lt h k hk).1
theorem wpList_pushS {ops : Array Oper} {rest : List Oper} {o : Oper} {a : Act} {Q : Exit → Act → World → Prop} {w : World} (hgd : o.guard = none) (s x : Operand)
    (ho : o.op = .call { callee := .builtin .append, args := #[s, x], argTypes := #[25, 25] }) (B : Nat) (v : Value) (l : List ByteArray) (hs : a.eval s = v) (hown : OwnS B v l w)
    (ad : Addr) (c : Nat) (n : ByteArray) (hx : a.eval x = .slice (some ad) 1 c) (hnew : w.cell? ad = some (.string n)) (hlen : l.length + 1 ≤ 1000000) (hB : B ≤ w.heap.size)
    (h : ∀ v' w', OwnS B v' (l ++ [n]) w' → w.grownBy w' v.ownBlock → wpList Tryz.prog ops Q rest (a.put o.dst v') w') : wpList Tryz.prog ops Q (o :: rest) a w := by
  obtain ⟨i0, hi, hz0, hz1, hz2⟩ := info_parts str_info
  refine wpList_append_own w hgd s x 25 ho B 9 i0 (.string ⟨#[]⟩) 1 16 Tryz.underlying25 hi hz0 hz1 hz2 rfl (by decide) v l.length (l.map Value.string) hs hown ad 1 c [.string n] hx rfl ?_ ?_ (by unfold maxLen; omega) (by omega) hB ?_
  · intro j u hj
    match j, hj with
    | 0, hj =>
      have e : u = .string n := (Option.some.inj hj).symm
      rw [e]; exact hnew
    | j + 1, hj => cases hj
  · intro u hu; rw [List.mem_singleton] at hu; rw [hu]; rfl
  · intro v' w' h1 h2 _
    refine h v' w' ?_ h2
    unfold OwnS at *
    rw [List.length_append, List.map_append]
    exact h1
theorem OwnS.cells {B : Nat} {v : Value} {l : List ByteArray} {w : World} (h : OwnS B v l w) : (v = .slice none 0 0 ∧ l = []) ∨ ∃ g cap, v = .slice (some ⟨g, 0, none⟩) l.length cap ∧ g < w.heap.size ∧ l.length ≤ cap ∧ ∀ (j : Nat) x, l[j]? = some x → w.cell? ⟨g, 0 + j, none⟩ = some (.string x) := by
  obtain ⟨h1, h2⟩ := h
  rcases h2 with ⟨h2, h3⟩ | ⟨g, cap, cur, hv, hB, hg, hn, hc, hcs, ht⟩
  · exact Or.inl ⟨h2, List.eq_nil_of_length_eq_zero h3⟩
  · refine Or.inr ⟨g, cap, hv, (Array.getElem?_eq_some_iff.1 hg).1, hn, ?_⟩
    intro j x hj
    rw [Nat.mul_one] at ht
    have hjl : j < l.length := (List.getElem?_eq_some_iff.1 hj).1
    have e : cur.toList[j]? = some (.string x) := by
      have : (cur.toList.take l.length)[j]? = some (.string x) := by rw [ht]; simp [hj]
      rw [List.getElem?_take] at this
      simpa [hjl] using this
    rw [Nat.zero_add]
    refine (Lib.cell_of_heap hg j).trans ?_
    simpa using e
end Go.Proofs.YtfagaflgdlomiaaGreatDoor
namespace Go.Proofs.YtfagaflgdlomiaaGreatDoor
open Go.RowKit
/-- 'append(v, u..)' of texts that stand in a row, one at least. -/
theorem wpList_appS {ops : Array Oper} {rest : List Oper} {o : Oper} {a : Act} {Q : Exit → Act → World → Prop} {w : World} (hgd : o.guard = none) (s x : Operand)
    (ho : o.op = .call { callee := .builtin .append, args := #[s, x], argTypes := #[25, 25] }) (B : Nat) (v : Value) (l M : List ByteArray) (hs : a.eval s = v) (hown : OwnS B v l w)
    (ad : Addr) (c : Nat) (hx : a.eval x = .slice (some ad) M.length c) (hnew : ∀ (j : Nat) q, M[j]? = some q → w.cell? (ad.add j) = some (.string q)) (hlen : l.length + M.length ≤ 1000000) (hB : B ≤ w.heap.size)
    (h : ∀ v' w', OwnS B v' (l ++ M) w' → w.grownBy w' v.ownBlock → (v'.ownBlock = v.ownBlock ∨ v'.ownBlock = some w.heap.size) → wpList Tryz.prog ops Q rest (a.put o.dst v') w') : wpList Tryz.prog ops Q (o :: rest) a w := by
  obtain ⟨i0, hi, hz0, hz1, hz2⟩ := info_parts str_info
  refine wpList_append_own_at w hgd s x 25 ho B 9 i0 (.string ⟨#[]⟩) 1 16 Tryz.underlying25 hi hz0 hz1 hz2 rfl (by decide) v l.length (l.map Value.string) hs hown ad M.length c (M.map Value.string) hx (by simp) ?_ ?_ (by unfold maxLen; omega) (by omega) hB ?_
  · intro j u hj
    rw [List.getElem?_map] at hj
    cases hq : M[j]? with
    | none => rw [hq] at hj; cases hj
    | some q =>
      rw [hq] at hj
      rw [← Option.some.inj hj]
      exact hnew j q hq
  · intro u hu
    obtain ⟨q, _, rfl⟩ := List.mem_map.1 hu
    rfl
  · intro v' w' h1 h2 _ h4
    refine h v' w' ?_ h2 h4
    unfold OwnS at *
    rw [List.length_append, List.map_append]
    exact h1
/-- What a printer's method keeps: each block but the printer's and its words' row; and the row does not come there. -/
def PKept (p : Nat) (w w' : World) : Prop := ∀ k, k < w.heap.size → k ≠ p → (∀ v, w.heap[p]? = some (.cells #[v] 49 (0, 0)) → v.ownBlock ≠ some k) →
  w'.heap[k]? = w.heap[k]? ∧ (∀ v, w'.heap[p]? = some (.cells #[v] 49 (0, 0)) → v.ownBlock ≠ some k)
theorem PKept.trans {p : Nat} {a b c : World} (h : PKept p a b) (k : PKept p b c) (hs : a.heap.size ≤ b.heap.size) : PKept p a c := fun i hi hp hv => by
  obtain ⟨h1, h2⟩ := h i hi hp hv
  obtain ⟨k1, k2⟩ := k i (by omega) hp h2
  exact ⟨k1.trans h1, k2⟩
theorem PKept.of_below {p : Nat} {w w' : World} (hlt : p < w.heap.size) (hb : Below w.heap.size w w') : PKept p w w' := fun k hk _ hv => ⟨hb.block k hk, fun v h => hv v ((hb.block p hlt).symm.trans h)⟩
/-- A printer at block p, with these words so far. -/
def PR (p : Nat) (L : List ByteArray) (W : World) : Prop := ∃ v, W.heap[p]? = some (.cells #[v] 49 (0, 0)) ∧ OwnS (p + 1) v L W
theorem PR.below {p : Nat} {L : List ByteArray} {w w' : World} (h : PR p L w) (hb : Below w.heap.size w w') : PR p L w' := by
  obtain ⟨v, h1, h2⟩ := h
  exact ⟨v, (hb.block p (Array.getElem?_eq_some_iff.1 h1).1).trans h1, h2.below hb⟩
theorem pr_grown {p : Nat} {v v' : Value} {L : List ByteArray} {w w1 : World} (hh : w.heap[p]? = some (.cells #[v] 49 (0, 0))) (ho : OwnS (p + 1) v L w) (hg : w.grownBy w1 v.ownBlock) : w1.heap[p]? = some (.cells #[v] 49 (0, 0)) := by
  rw [hg.block p (Array.getElem?_eq_some_iff.1 hh).1 ?_]
  · exact hh
  · intro e
    have := ho.lt p e.symm
    omega
theorem set_one {p : Nat} {v : Value} {T : TypeId} {W : World} (h : W.heap[p]? = some (.cells #[v] T (0, 0))) (x : Value) : (W.setCell ⟨p, 0, none⟩ x).heap[p]? = some (.cells #[x] T (0, 0)) := by
  rw [setCell_eq_setRow W p 0 #[v] T (0, 0) x h]
  exact (setRow_heap _ _ _ _ _ _ h).trans rfl
theorem owns_set {B p : Nat} {v x : Value} {L : List ByteArray} {w : World} (ho : OwnS B v L w) (hp : p < B) : OwnS B v L (w.setCell ⟨p, 0, none⟩ x) := by
  obtain ⟨h1, h2⟩ := ho
  refine ⟨h1, ?_⟩
  rcases h2 with h2 | ⟨g, cap, cur, hv, hB, hg, hrest⟩
  · exact Or.inl h2
  · exact Or.inr ⟨g, cap, cur, hv, hB, (Below.heap_setCell _ _ _ _ (by show g ≠ p; omega)).trans hg, hrest⟩
theorem owns_below {p : Nat} {v : Value} {L : List ByteArray} {w w1 : World} (hp : p < w.heap.size) (ho : OwnS (p + 1) v L w) (hg : w.grownBy w1 v.ownBlock) : Below p w w1 :=
  ⟨hg.os, hg.tape, hg.output, hg.size, fun i hi => hg.block i (by omega) (fun e => by have := ho.lt i e.symm; omega)⟩
theorem owns_form {B : Nat} {v : Value} {L : List ByteArray} {w : World} (ho : OwnS B v L w) (h0 : 0 < L.length) : ∃ g cap, v = .slice (some ⟨g, 0, none⟩) L.length cap := by
  rcases ho.cells with ⟨_, h⟩ | ⟨g, cap, h, _⟩
  · rw [h] at h0; cases h0
  · exact ⟨g, cap, h⟩
theorem pkept_put {p : Nat} {v v1 : Value} {w w1 : World} (hh : w.heap[p]? = some (.cells #[v] 49 (0, 0))) (hh1 : w1.heap[p]? = some (.cells #[v] 49 (0, 0))) (hg : w.grownBy w1 v.ownBlock) (hob : v1.ownBlock = v.ownBlock ∨ v1.ownBlock = some w.heap.size) : PKept p w (w1.setCell ⟨p, 0, none⟩ v1) := fun k hk hp hv => by
  have h0 := hv v hh
  refine ⟨(Below.heap_setCell _ _ _ _ (by show k ≠ p; exact hp)).trans (hg.block k hk (fun e => h0 e.symm)), fun u hu => ?_⟩
  have e : u = v1 := by
    have := (set_one hh1 v1).symm.trans hu
    simpa using this.symm
  rw [e]
  rcases hob with h | h
  · rw [h]; exact h0
  · rw [h]; intro q; have := Option.some.inj q; omega
set_option maxRecDepth 100000 in
set_option maxHeartbeats 4000000 in
theorem put_any (p : Nat) (L M : List ByteArray) (b off c : Nat) (w : World) (hp : PR p L w) (h0 : 0 < M.length) (hlen : L.length + M.length ≤ 1000000) (hM : Hid (∀ (j : Nat) q, M[j]? = some q → w.cell? ((⟨b, off, none⟩ : Addr).add j) = some (.string q))) :
    Calls Tryz.prog 10 #[.pointer (some ⟨p, 0, none⟩), .slice (some ⟨b, off, none⟩) M.length c] w fun e w' => e = .returned (.tuple #[]) ∧ PR p (L ++ M) w' ∧ Below p w w' ∧ PKept p w w' := by
  obtain ⟨v, hh, ho⟩ := hp
  have HH := Lib.hid hh
  have HO := Lib.hid ho
  have hlt := (Array.getElem?_eq_some_iff.1 hh).1
  have c0 : w.cell? ⟨p, 0, none⟩ = some v := by rw [Lib.cell_of_heap hh]; rfl
  clear hh ho
  go_enter Tryz.func10, Tryz.ntmps10
  go_wp2_with (refine wpList_appS rfl _ _ rfl (p + 1) v L M rfl HO.out ⟨b, off, none⟩ c rfl hM.out hlen (by omega) ?_; intro v1 w1 ho1 hg1 hob; have HOB := Lib.hid hob; clear hob; have hh1 := pr_grown (v' := v1) HH.out HO.out hg1; have c1 : w1.cell? ⟨p, 0, none⟩ = some v := (by rw [Lib.cell_of_heap hh1]; rfl); have f1 : w1.frozen? ⟨p, 0, none⟩ = false := Lib.frozen_of_heap hh1 0; have HH1 := Lib.hid hh1; have HO1 := Lib.hid ho1; have HG1 := Lib.hid hg1; obtain ⟨g1, cap1, rfl⟩ := owns_form ho1 (by rw [List.length_append]; omega); clear hh1 ho1 hg1)
  refine bodyPost_end (results_none rfl _ _ _) rfl ⟨rfl, ⟨_, set_one HH1.out _, ?_⟩, (owns_below hlt HO.out HG1.out).setCell (p := ⟨p, 0, none⟩) (Nat.le_refl p) _, pkept_put HH.out HH1.out HG1.out HOB.out⟩
  have := owns_set (p := p) (x := .slice (some ⟨g1, 0, none⟩) (L.length + M.length) cap1) HO1.out (by omega)
  rw [List.length_append] at this
  exact this
set_option maxRecDepth 100000 in
set_option maxHeartbeats 4000000 in
theorem pname_any (p : Nat) (L : List ByteArray) (s : ByteArray) (w : World) (hp : PR p L w) (hlen : L.length + 1 ≤ 1000000) :
    Calls Tryz.prog 14 #[.pointer (some ⟨p, 0, none⟩), .string s] w fun e w' => e = .returned (.tuple #[]) ∧ PR p (L ++ [s]) w' ∧ Below p w w' ∧ PKept p w w' := by
  have HP := Lib.hid hp
  have hlt : p < w.heap.size := by obtain ⟨v, h, _⟩ := hp; exact (Array.getElem?_eq_some_iff.1 h).1
  clear hp
  go_enter Tryz.func14, Tryz.ntmps14
  go_wp2_with fail
  refine (put_any p L [s] w.heap.size 0 1 _ (HP.out.below ((Below.refl _ _).alloc (Nat.le_refl _) _)) (by simp) hlen (Lib.hid fun j q hj => ?_)).mono ?_
  · match j, hj with
    | 0, hj =>
      rw [← Option.some.inj hj]
      simp [go_sem]
    | j + 1, hj => cases hj
  · rintro e w1 ⟨rfl, h1, h2, h3⟩
    go_wp2_with fail
    first | go_end0 | refine bodyPost_end (results_none rfl _ _ _) rfl ?_
    exact ⟨rfl, h1, ((Below.refl _ _).alloc (by omega) _).trans h2, (PKept.of_below hlt ((Below.refl _ _).alloc (Nat.le_refl _) _)).trans h3 (by simp)⟩
set_option maxRecDepth 100000 in
set_option maxHeartbeats 4000000 in
theorem each_none_in (ad : Option Addr) (c : Nat) (fn : Fn) (bs cs : Array Value) (w : World) :
    Calls Tryz.prog 15 #[.slice ad 0 c, .func fn bs cs] w fun e w' => e = .returned (.slice none 0 0) ∧ Below w.heap.size w w' := by
  go_enter Tryz.func15, Tryz.ntmps15
  go_wp2_with fail
  go_loopw [4, 9] (fun l i wr => l = .slice none 0 0 ∧ i = .int .i64 0 ∧ Below w.heap.size w wr) (fun l i wr => 0)
  case atStart => exact ⟨rfl, rfl, by go_grown⟩
  case round =>
    obtain ⟨rfl, rfl, hbw⟩ := hrel
    go_wp2_with fail
    go_ret
    exact ⟨rfl, hbw⟩
set_option maxRecDepth 100000 in
set_option maxHeartbeats 4000000 in
theorem each_none_fd (ad : Option Addr) (c : Nat) (fn : Fn) (bs cs : Array Value) (w : World) :
    Calls Tryz.prog 18 #[.slice ad 0 c, .func fn bs cs] w fun e w' => e = .returned (.slice none 0 0) ∧ Below w.heap.size w w' := by
  go_enter Tryz.func18, Tryz.ntmps18
  go_wp2_with fail
  go_loopw [4, 9] (fun l i wr => l = .slice none 0 0 ∧ i = .int .i64 0 ∧ Below w.heap.size w wr) (fun l i wr => 0)
  case atStart => exact ⟨rfl, rfl, by go_grown⟩
  case round =>
    obtain ⟨rfl, rfl, hbw⟩ := hrel
    go_wp2_with fail
    go_ret
    exact ⟨rfl, hbw⟩
set_option maxRecDepth 100000 in
set_option maxHeartbeats 4000000 in
theorem between_none (p : Nat) (a b : ByteArray) (ad : Option Addr) (c : Nat) (w : World) :
    Calls Tryz.prog 17 #[.pointer (some ⟨p, 0, none⟩), .string a, .string b, .slice ad 0 c] w fun e w' => e = .returned (.tuple #[]) ∧ w = w' := by
  go_enter Tryz.func17, Tryz.ntmps17
  go_wp2_with fail
  first | go_end0 | refine bodyPost_ret (results_none rfl _ _ _) rfl ?_
  exact ⟨rfl, rfl⟩
end Go.Proofs.YtfagaflgdlomiaaGreatDoor
namespace Go.Proofs.YtfagaflgdlomiaaGreatDoor
open Go.RowKit
set_option maxRecDepth 100000 in
set_option maxHeartbeats 4000000 in
theorem ptokens_go (p : Nat) (L : List ByteArray) (s : ByteArray) (a : Addr) (n c : Nat) (hn : 0 < n) (w : World) (hp : PR p L w) (hlen : L.length + 1 ≤ 1000000)
    (HJ : Hid (∀ W, Below w.heap.size w W → Calls Tryz.prog 40 #[.slice (some a) n c] W fun e w' => e = .returned (.tuple #[.string s, .int .i64 0]) ∧ Below W.heap.size W w')) :
    Calls Tryz.prog 11 #[.pointer (some ⟨p, 0, none⟩), .slice (some a) n c, .int .i64 0] w fun e w' => e = .returned (.int .i64 0) ∧ PR p (L ++ [s]) w' ∧ Below p w w' ∧ PKept p w w' := by
  have HP := Lib.hid hp
  have hlt : p < w.heap.size := by obtain ⟨v, h, _⟩ := hp; exact (Array.getElem?_eq_some_iff.1 h).1
  have hni : (0 : Int) < (n : Int) := by omega
  have hnd : decide ((0 : Int) < (n : Int)) = true := decide_eq_true hni
  clear hp
  go_enter Tryz.func11, Tryz.ntmps11
  go_wp2_with fail
  refine (HJ.out _ (Below.refl _ _)).mono ?_; rintro e w1 ⟨rfl, hb⟩
  have HB := Lib.hid hb
  have sz1 := hb.size
  clear hb
  go_wp2_with fail
  refine (put_any p L [s] w1.heap.size 0 1 _ ((HP.out.below HB.out).below ((Below.refl _ _).alloc (Nat.le_refl _) _)) (by simp) hlen (Lib.hid fun j q hj => ?_)).mono ?_
  · match j, hj with
    | 0, hj =>
      rw [← Option.some.inj hj]
      simp [go_sem]
    | j + 1, hj => cases hj
  · rintro e w2 ⟨rfl, h1, h2, h3⟩
    have H1 := Lib.hid h1
    have H2 := Lib.hid h2
    have H3 := Lib.hid h3
    clear h1 h2 h3
    go_wp2_with fail
    go_ret
    exact ⟨rfl, H1.out, ((HB.out.mono (Nat.le_of_lt hlt)).trans ((Below.refl _ _).alloc (by omega) _)).trans H2.out, (PKept.of_below hlt (HB.out.trans (((Below.refl w1.heap.size w1).alloc (Nat.le_refl _) _).mono sz1))).trans H3.out (by simp; omega)⟩
set_option maxRecDepth 100000 in
set_option maxHeartbeats 4000000 in
theorem ptokens_nil (p : Nat) (L : List ByteArray) (s : ByteArray) (a : Option Addr) (c : Nat) (w : World)
    (HJ : Hid (∀ W, Below w.heap.size w W → Calls Tryz.prog 40 #[.slice a 0 c] W fun e w' => e = .returned (.tuple #[.string s, .int .i64 0]) ∧ Below W.heap.size W w')) :
    Calls Tryz.prog 11 #[.pointer (some ⟨p, 0, none⟩), .slice a 0 c, .int .i64 0] w fun e w' => e = .returned (.int .i64 0) ∧ Below w.heap.size w w' := by
  go_enter Tryz.func11, Tryz.ntmps11
  go_wp2_with fail
  refine (HJ.out _ (Below.refl _ _)).mono ?_; rintro e w1 ⟨rfl, hb⟩
  have HB := Lib.hid hb
  clear hb
  go_wp2_with fail
  go_ret
  exact ⟨rfl, HB.out⟩
end Go.Proofs.YtfagaflgdlomiaaGreatDoor
namespace Go.Proofs.YtfagaflgdlomiaaGreatDoor
open Go.RowKit
set_option maxRecDepth 100000 in
set_option maxHeartbeats 4000000 in
theorem each1_any (p d x : Nat) (L : List ByteArray) (s : ByteArray) (w : World) (hp : PR p L w) (hlen : L.length + 1 ≤ 1000000) (hd : w.cell? ⟨d, 0, none⟩ = some (.func (.func 14) #[.pointer (some ⟨p, 0, none⟩)] #[])) (hx : w.cell? ⟨x, 0, none⟩ = some (.string s)) :
    Calls Tryz.prog 44 #[.pointer (some ⟨d, 0, none⟩), .pointer (some ⟨x, 0, none⟩)] w fun e w' => e = .returned (.tuple #[]) ∧ PR p (L ++ [s]) w' ∧ Below p w w' ∧ PKept p w w' := by
  have HP := Lib.hid hp
  clear hp
  go_enter Tryz.func44, Tryz.ntmps44
  go_wp2_with fail
  refine (pname_any p L s _ HP.out hlen).mono ?_
  rintro e w1 ⟨rfl, h1, h2, h3⟩
  have H1 := Lib.hid h1
  have H2 := Lib.hid h2
  have H3 := Lib.hid h3
  clear h1 h2 h3
  go_wp2_with fail
  first | go_end0 | refine bodyPost_end (results_none rfl _ _ _) rfl ?_
  exact ⟨rfl, H1.out, H2.out, H3.out⟩
end Go.Proofs.YtfagaflgdlomiaaGreatDoor
namespace Go.Proofs.YtfagaflgdlomiaaGreatDoor
open Go.RowKit
theorem fun_info : (Tryz.prog.info? 1).map (fun i => (i.zero, i.size, i.bytes)) = some (some .nilFunc, 1, 8) := by kernel_rfl
/-- A slice of func values of the call's own. -/
def OwnF (B : Nat) (v : Value) (l : List Value) (W : World) : Prop := W.ownsRow B 1 1 v l.length l
theorem OwnF.nil (B : Nat) (W : World) : OwnF B (.slice none 0 0) [] W := World.ownsRow_nil W B 1 1
theorem OwnF.below {B : Nat} {v : Value} {l : List Value} {w w' : World} (h : OwnF B v l w) (hb : Below w.heap.size w w') : OwnF B v l w' := by
  obtain ⟨h1, h2⟩ := h
  refine ⟨h1, ?_⟩
  rcases h2 with h2 | ⟨g, cap, cur, hv, hB, hg, hrest⟩
  · exact Or.inl h2
  · have hlt : g < w.heap.size := (Array.getElem?_eq_some_iff.1 hg).1
    exact Or.inr ⟨g, cap, cur, hv, hB, (hb.block g hlt).trans hg, hrest⟩
theorem OwnF.alloc {B : Nat} {v : Value} {l : List Value} {w : World} (h : OwnF B v l w) (o : Obj) : OwnF B v l (w.alloc o) := World.ownsRow.alloc h o
theorem wpList_pushF {ops : Array Oper} {rest : List Oper} {o : Oper} {a : Act} {Q : Exit → Act → World → Prop} {w : World} (hgd : o.guard = none) (s x : Operand)
    (ho : o.op = .call { callee := .builtin .append, args := #[s, x], argTypes := #[56, 56] }) (B : Nat) (v : Value) (l : List Value) (hs : a.eval s = v) (hown : OwnF B v l w)
    (ad : Addr) (c : Nat) (n : Value) (hn : n.oneCell' = true) (hx : a.eval x = .slice (some ad) 1 c) (hnew : w.cell? ad = some n) (hlen : l.length + 1 ≤ 1000000) (hB : B ≤ w.heap.size)
    (h : ∀ v' w', OwnF B v' (l ++ [n]) w' → w.grownBy w' v.ownBlock → wpList Tryz.prog ops Q rest (a.put o.dst v') w') : wpList Tryz.prog ops Q (o :: rest) a w := by
  obtain ⟨i0, hi, hz0, hz1, hz2⟩ := info_parts fun_info
  refine wpList_append_own w hgd s x 56 ho B 1 i0 .nilFunc 1 8 Tryz.underlying56 hi hz0 hz1 hz2 rfl (by decide) v l.length l hs hown ad 1 c [n] hx rfl ?_ ?_ (by unfold maxLen; omega) (by omega) hB ?_
  · intro j u hj
    match j, hj with
    | 0, hj =>
      have e : u = n := (Option.some.inj hj).symm
      rw [e]; exact hnew
    | j + 1, hj => cases hj
  · intro u hu; rw [List.mem_singleton] at hu; rw [hu]; exact hn
  · intro v' w' h1 h2 _
    refine h v' w' ?_ h2
    unfold OwnF at *
    rw [List.length_append]
    exact h1
end Go.Proofs.YtfagaflgdlomiaaGreatDoor
namespace Go.Proofs.YtfagaflgdlomiaaGreatDoor
open Go.RowKit
theorem grownR_below {W w1 : World} (hg : W.grownBy w1 none) : Below W.heap.size W w1 := ⟨hg.os, hg.tape, hg.output, hg.size, fun i hi => hg.block i hi (by simp)⟩
set_option maxRecDepth 100000 in
set_option maxHeartbeats 4000000 in
theorem each_one (b off c : Nat) (s : ByteArray) (fn : Fn) (bs cs : Array Value) (w : World) (hb : b < w.heap.size) (hx : w.cell? ⟨b, off, none⟩ = some (.string s)) :
    Calls Tryz.prog 13 #[.slice (some ⟨b, off, none⟩) 1 c, .func fn bs cs] w fun e w' => ∃ x v, e = .returned v ∧ w.heap.size ≤ x ∧ OwnF w.heap.size v [.func (.func 44) #[] #[.pointer (some ⟨w.heap.size, 0, none⟩), .pointer (some ⟨x, 0, none⟩)]] w' ∧ w'.cell? ⟨w.heap.size, 0, none⟩ = some (.func fn bs cs) ∧ w'.cell? ⟨x, 0, none⟩ = some (.string s) ∧ Below w.heap.size w w' := by
  go_enter Tryz.func13, Tryz.ntmps13
  go_wp2_with fail
  go_loopw [4, 9] (fun l i wr => Below w.heap.size w wr ∧ w.heap.size < wr.heap.size ∧ wr.cell? ⟨w.heap.size, 0, none⟩ = some (.func fn bs cs) ∧ ((i = .int .i64 0 ∧ l = .slice none 0 0) ∨ (i = .int .i64 1 ∧ ∃ x, w.heap.size ≤ x ∧ wr.cell? ⟨x, 0, none⟩ = some (.string s) ∧ OwnF w.heap.size l [.func (.func 44) #[] #[.pointer (some ⟨w.heap.size, 0, none⟩), .pointer (some ⟨x, 0, none⟩)]] wr))) (fun l i wr => (1 - intOf i).toNat)
  case atStart => exact ⟨by go_grown, by simp, by simp [go_sem], Or.inl ⟨rfl, rfl⟩⟩
  case round =>
    obtain ⟨hbw, hsz, hd, ⟨rfl, rfl⟩ | ⟨rfl, x, hx0, hc, ho⟩⟩ := hrel
    · have hx1 : wr.cell? ⟨b, off, none⟩ = some (.string s) := (hbw.cell (p := ⟨b, off, none⟩) hb).trans hx
      have HB := Lib.hid hbw
      clear hbw
      go_wp2_with (refine wpList_pushF rfl _ _ rfl w.heap.size (.slice none 0 0) [] rfl (OwnF.nil _ _) ⟨wr.heap.size + 1, 0, none⟩ 1 (.func (.func 44) #[] #[.pointer (some ⟨w.heap.size, 0, none⟩), .pointer (some ⟨wr.heap.size, 0, none⟩)]) rfl rfl (by simp [go_sem]) (by simp) (by simp; omega) ?_; intro v1 w1 ho1 hg1; have HO1 := Lib.hid ho1; have HG1 := Lib.hid hg1; clear ho1 hg1)
      have hW := grownR_below (show World.grownBy _ w1 none from HG1.out)
      have hz := hW.size
      have hB2 := ((HB.out.alloc (Nat.le_of_lt hsz) (.cells #[.string s] 9)).alloc (by simp; try omega) (.cells #[.func (.func 44) #[] #[.pointer (some ⟨w.heap.size, 0, none⟩), .pointer (some ⟨wr.heap.size, 0, none⟩)]] 1)).trans (hW.mono (by simp; omega))
      refine ⟨⟨hB2, ?_, ?_, Or.inr ⟨rfl, wr.heap.size, Nat.le_of_lt hsz, ?_, HO1.out⟩⟩, by simp [intOf]⟩
      · simp at hz; omega
      · rw [hW.cell (p := ⟨w.heap.size, 0, none⟩) (by simp; omega)]
        simp [go_sem, hd, hsz]
      · rw [hW.cell (p := ⟨wr.heap.size, 0, none⟩) (by simp; try omega)]
        simp [go_sem]
    · have HO := Lib.hid ho
      clear ho
      go_wp2_with fail
      go_ret
      exact ⟨x, _, rfl, hx0, HO.out, hd, hc, hbw⟩
end Go.Proofs.YtfagaflgdlomiaaGreatDoor
namespace Go.Proofs.YtfagaflgdlomiaaGreatDoor
open Go.RowKit
/-- A block that a printer's methods leave alone. -/
def Safe (p k : Nat) (W : World) : Prop := k < W.heap.size ∧ k ≠ p ∧ ∀ v, W.heap[p]? = some (.cells #[v] 49 (0, 0)) → v.ownBlock ≠ some k
theorem Safe.keep {p k : Nat} {w w' : World} (h : Safe p k w) (hk : PKept p w w') (hs : w.heap.size ≤ w'.heap.size) : Safe p k w' := ⟨by have := h.1; omega, h.2.1, (hk k h.1 h.2.1 h.2.2).2⟩
theorem Safe.cell {p k o : Nat} {w w' : World} (h : Safe p k w) (hk : PKept p w w') : w'.cell? ⟨k, o, none⟩ = w.cell? ⟨k, o, none⟩ := by
  have := (hk k h.1 h.2.1 h.2.2).1
  simp only [World.cell?, this]
theorem Safe.fresh {p k : Nat} {L : List ByteArray} {w w' : World} (hp : PR p L w) (hb : Below w.heap.size w w') (h1 : w.heap.size ≤ k) (h2 : k < w'.heap.size) : Safe p k w' := by
  obtain ⟨v, hh, ho⟩ := hp
  have hlt := (Array.getElem?_eq_some_iff.1 hh).1
  refine ⟨h2, by omega, fun u hu e => ?_⟩
  have e2 : u = v := by
    have := (hb.block p hlt).symm.trans hu
    rw [hh] at this
    simpa using this.symm
  rw [e2] at e
  have := World.ownsRow.lt ho k e
  omega
theorem cell_lt {w : World} {k o : Nat} {v : Value} (h : w.cell? ⟨k, o, none⟩ = some v) : k < w.heap.size := by
  rcases Nat.lt_or_ge k w.heap.size with h1 | h1
  · exact h1
  · simp [World.cell?, Array.getElem?_eq_none h1] at h
theorem OwnF.one {B : Nat} {v n : Value} {w : World} (h : OwnF B v [n] w) : ∃ g cap, v = .slice (some ⟨g, 0, none⟩) 1 cap ∧ B ≤ g ∧ g < w.heap.size ∧ w.cell? ⟨g, 0, none⟩ = some n := by
  obtain ⟨g, cap, rfl, h1, h2⟩ := World.ownsRow.form h (by simp)
  exact ⟨g, cap, rfl, h1, h2, World.ownsRow.cellAt h 0 (by simp)⟩
set_option maxRecDepth 100000 in
set_option maxHeartbeats 4000000 in
theorem between_one (p B off c d x : Nat) (L : List ByteArray) (a b s : ByteArray) (w : World) (hp : PR p L w) (hlen : L.length + 3 ≤ 1000000) (sB : Safe p B w) (sd : Safe p d w) (sx : Safe p x w)
    (cB : w.cell? ⟨B, off, none⟩ = some (.func (.func 44) #[] #[.pointer (some ⟨d, 0, none⟩), .pointer (some ⟨x, 0, none⟩)]))
    (cd : w.cell? ⟨d, 0, none⟩ = some (.func (.func 14) #[.pointer (some ⟨p, 0, none⟩)] #[])) (cx : w.cell? ⟨x, 0, none⟩ = some (.string s)) :
    Calls Tryz.prog 17 #[.pointer (some ⟨p, 0, none⟩), .string a, .string b, .slice (some ⟨B, off, none⟩) 1 c] w fun e w' => e = .returned (.tuple #[]) ∧ PR p (L ++ [a, s, b]) w' ∧ Below p w w' ∧ PKept p w w' := by
  have HP := Lib.hid hp
  have hlt : p < w.heap.size := by obtain ⟨v, h, _⟩ := hp; exact (Array.getElem?_eq_some_iff.1 h).1
  have SB := Lib.hid sB
  have SD := Lib.hid sd
  have SX := Lib.hid sx
  have CB := Lib.hid cB
  have CD := Lib.hid cd
  have CX := Lib.hid cx
  clear hp sB sd sx cB cd cx
  go_enter Tryz.func17, Tryz.ntmps17
  go_wp2_with fail
  refine (put_any p L [a] w.heap.size 0 1 _ (HP.out.below ((Below.refl _ _).alloc (Nat.le_refl _) _)) (by simp) (by simp; omega) (Lib.hid fun j q hj => ?_)).mono ?_
  · match j, hj with
    | 0, hj =>
      rw [← Option.some.inj hj]
      simp [go_sem]
    | j + 1, hj => cases hj
  · rintro e w1 ⟨rfl, h1, h2, h3⟩
    have H1 : Hid (PR p (L ++ [a]) w1) := Lib.hid h1
    have h4 : Below p w w1 := ((Below.refl _ _).alloc (by omega) _).trans h2
    have h5 : PKept p w w1 := (PKept.of_below hlt ((Below.refl _ _).alloc (Nat.le_refl _) _)).trans h3 (by simp)
    have H2 := Lib.hid h4
    have H3 := Lib.hid h5
    clear h1 h2 h3 h4 h5
    go_wp2_with fail
    go_loopw [9, 19] (fun l i wr => Below p w wr ∧ PKept p w wr ∧ ((i = .int .i64 0 ∧ PR p (L ++ [a]) wr) ∨ (i = .int .i64 1 ∧ PR p (L ++ [a] ++ [s]) wr))) (fun l i wr => (1 - intOf i).toNat)
    case atStart => exact ⟨H2.out, H3.out, Or.inl ⟨rfl, H1.out⟩⟩
    case round =>
      obtain ⟨hbw, hkw, ⟨rfl, hr⟩ | ⟨rfl, hr⟩⟩ := hrel
      · have c1 : wr.cell? ⟨B, off, none⟩ = some (.func (.func 44) #[] #[.pointer (some ⟨d, 0, none⟩), .pointer (some ⟨x, 0, none⟩)]) := (SB.out.cell hkw).trans CB.out
        have c2 : wr.cell? ⟨d, 0, none⟩ = some (.func (.func 14) #[.pointer (some ⟨p, 0, none⟩)] #[]) := (SD.out.cell hkw).trans CD.out
        have c3 : wr.cell? ⟨x, 0, none⟩ = some (.string s) := (SX.out.cell hkw).trans CX.out
        have C2 := Lib.hid c2
        have C3 := Lib.hid c3
        have HR := Lib.hid hr
        have HB := Lib.hid hbw
        have HK := Lib.hid hkw
        clear c2 c3 hr hbw hkw
        go_wp2_with fail
        refine (each1_any p d x (L ++ [a]) s _ HR.out (by simp; omega) C2.out C3.out).mono ?_
        rintro e w2 ⟨rfl, h1, h2, h3⟩
        have G1 := Lib.hid h1
        have G2 := Lib.hid h2
        have G3 := Lib.hid h3
        clear h1 h2 h3
        go_wp2_with fail
        exact ⟨⟨HB.out.trans G2.out, HK.out.trans G3.out HB.out.size, Or.inr ⟨rfl, G1.out⟩⟩, by simp [intOf]⟩
      · have HR := Lib.hid hr
        have HB := Lib.hid hbw
        have HK := Lib.hid hkw
        have hlr : p < wr.heap.size := by have := hbw.size; omega
        clear hr hbw hkw
        go_wp2_with fail
        refine (put_any p (L ++ [a] ++ [s]) [b] wr.heap.size 0 1 _ (HR.out.below ((Below.refl _ _).alloc (Nat.le_refl _) _)) (by simp) (by simp; omega) (Lib.hid fun j q hj => ?_)).mono ?_
        · match j, hj with
          | 0, hj =>
            rw [← Option.some.inj hj]
            simp [go_sem]
          | j + 1, hj => cases hj
        · rintro e w2 ⟨rfl, h1, h2, h3⟩
          have G1 := Lib.hid h1
          have G2 := Lib.hid h2
          have G3 := Lib.hid h3
          clear h1 h2 h3
          go_wp2_with fail
          first | go_end0 | refine bodyPost_end (results_none rfl _ _ _) rfl ?_
          refine ⟨rfl, ?_, (HB.out.trans ((Below.refl _ _).alloc (by omega) _)).trans G2.out, (HK.out.trans (PKept.of_below hlr ((Below.refl _ _).alloc (Nat.le_refl _) _)) HB.out.size).trans G3.out (by simp; have := HB.out.size; omega)⟩
          have := G1.out
          simpa using this
end Go.Proofs.YtfagaflgdlomiaaGreatDoor
namespace Go.Proofs.YtfagaflgdlomiaaGreatDoor
open Go.RowKit
theorem Safe.block {p k : Nat} {w w' : World} (h : Safe p k w) (hk : PKept p w w') : w'.heap[k]? = w.heap[k]? := (hk k h.1 h.2.1 h.2.2).1
/-- strings.Join with a blank gives that text at these words. -/
def JoinDoes (L : List ByteArray) (s : ByteArray) : Prop := ∀ (B : Nat) (v : Value) (W : World), OwnS B v L W → Calls Tryz.prog 47 #[v, .string ⟨#[32]⟩] W fun e w' => e = .returned (.string s) ∧ Below W.heap.size W w'
set_option maxRecDepth 100000 in
set_option maxHeartbeats 4000000 in
theorem ptext_go (p : Nat) (L : List ByteArray) (s : ByteArray) (w : World) (hp : PR p L w) (HS : Hid (JoinDoes L s)) :
    Calls Tryz.prog 20 #[.pointer (some ⟨p, 0, none⟩)] w fun e w' => e = .returned (.string s) ∧ Below w.heap.size w w' := by
  obtain ⟨v, hh, ho⟩ := hp
  have HO := Lib.hid ho
  have c0 : w.cell? ⟨p, 0, none⟩ = some v := by rw [Lib.cell_of_heap hh]; rfl
  clear hh ho
  go_enter Tryz.func20, Tryz.ntmps20
  go_wp2_with fail
  refine (HS.out _ _ _ HO.out).mono ?_
  rintro e w1 ⟨rfl, hb⟩
  have HB := Lib.hid hb
  clear hb
  go_wp2_with fail
  go_ret
  exact ⟨rfl, HB.out⟩
theorem pr_new (p : Nat) (w : World) (h : p = w.heap.size) : PR p [] (w.alloc (.cells #[.slice none 0 0] 49)) := by
  subst h
  exact ⟨.slice none 0 0, by show (w.heap.push _)[w.heap.size]? = _; simp, OwnS.nil _ _⟩
/-- Tokens u that a printer puts as the words M, in every world behind w. -/
def TokW (u : Value) (M : List ByteArray) (w : World) : Prop := ∀ (p : Nat) (L : List ByteArray) (W : World), Below w.heap.size w W → PR p L W → L.length + 1 ≤ 1000000 →
  Calls Tryz.prog 11 #[.pointer (some ⟨p, 0, none⟩), u, .int .i64 0] W fun e w' => e = .returned (.int .i64 0) ∧ PR p (L ++ M) w' ∧ Below p W w' ∧ PKept p W w'
theorem tokw_go {a : Addr} {n c : Nat} {s : ByteArray} {w : World} (hn : 0 < n)
    (HJ : ∀ W, Below w.heap.size w W → Calls Tryz.prog 40 #[.slice (some a) n c] W fun e w' => e = .returned (.tuple #[.string s, .int .i64 0]) ∧ Below W.heap.size W w') : TokW (.slice (some a) n c) [s] w := fun p L W hW hp hl =>
  ptokens_go p L s a n c hn W hp hl (Lib.hid fun W2 h2 => HJ W2 (hW.trans (h2.mono hW.size)))
theorem tokw_nil {a : Option Addr} {c : Nat} {s : ByteArray} {w : World}
    (HJ : ∀ W, Below w.heap.size w W → Calls Tryz.prog 40 #[.slice a 0 c] W fun e w' => e = .returned (.tuple #[.string s, .int .i64 0]) ∧ Below W.heap.size W w') : TokW (.slice a 0 c) [] w := fun p L W hW hp hl => by
  have hlt : p < W.heap.size := by obtain ⟨v, h, _⟩ := hp; exact (Array.getElem?_eq_some_iff.1 h).1
  refine (ptokens_nil p L s a c W (Lib.hid fun W2 h2 => HJ W2 (hW.trans (h2.mono hW.size)))).mono ?_
  rintro e w' ⟨rfl, hb⟩
  exact ⟨rfl, by rw [List.append_nil]; exact hp.below hb, hb.mono (Nat.le_of_lt hlt), PKept.of_below hlt hb⟩
theorem pr_lt {p : Nat} {L : List ByteArray} {w : World} (hp : PR p L w) : p < w.heap.size := by obtain ⟨v, h, _⟩ := hp; exact (Array.getElem?_eq_some_iff.1 h).1
set_option maxRecDepth 100000 in
set_option maxHeartbeats 4000000 in
theorem ptype_go (nm s : ByteArray) (a : Option Addr) (n c : Nat) (w : World)
    (HT : Hid (∀ W, Below w.heap.size w W → Calls Tryz.prog 21 #[.agg #[.string nm, .slice a n c]] W fun e w' => (∃ u, e = .returned (.tuple #[u, .int .i64 0]) ∧ TokW u [s] w') ∧ Below W.heap.size W w')) (HS : Hid (JoinDoes [s] s)) :
    Calls Tryz.prog 5 #[.agg #[.string nm, .slice a n c]] w fun e w' => e = .returned (.tuple #[.string s, .int .i64 0]) ∧ Below w.heap.size w w' := by
  go_enter Tryz.func5, Tryz.ntmps5
  go_wp2_with fail
  refine (HT.out _ (by go_grown)).mono ?_
  rintro e w1 ⟨⟨u, rfl, hu⟩, hb⟩
  have HU := Lib.hid hu
  have HB := Lib.hid hb
  clear hu hb
  go_wp2_with fail
  refine (HU.out (w.heap.size + 1) [] _ (Below.refl _ _) ((pr_new _ _ (by simp)).below HB.out) (by simp)).mono ?_
  rintro e w2 ⟨rfl, h1, h2, h3⟩
  have H1 := Lib.hid h1
  have H2 := Lib.hid h2
  clear h1 h2 h3
  go_wp2_with fail
  refine (ptext_go (w.heap.size + 1) [s] s _ H1.out HS).mono ?_
  rintro e w3 ⟨rfl, hb⟩
  have H3 := Lib.hid hb
  clear hb
  go_wp2_with fail
  go_ret2
  refine ⟨rfl, ?_⟩
  have e1 : Below w.heap.size w w1 := Below.trans (by go_grown) (HB.out.mono (by simp; omega))
  have z1 := HB.out.size
  simp at z1
  exact (e1.trans (H2.out.mono (by omega))).trans (H3.out.mono (by have := H2.out.size; omega))
set_option maxRecDepth 100000 in
set_option maxHeartbeats 4000000 in
theorem pvalue_go (v : Value) (s : ByteArray) (w : World)
    (HT : Hid (∀ W, Below w.heap.size w W → Calls Tryz.prog 22 #[v] W fun e w' => (∃ u, e = .returned (.tuple #[u, .int .i64 0]) ∧ TokW u [s] w') ∧ Below W.heap.size W w')) (HS : Hid (JoinDoes [s] s)) :
    Calls Tryz.prog 6 #[v] w fun e w' => e = .returned (.tuple #[.string s, .int .i64 0]) ∧ Below w.heap.size w w' := by
  go_enter Tryz.func6, Tryz.ntmps6
  go_wp2_with fail
  refine (HT.out _ (by go_grown)).mono ?_
  rintro e w1 ⟨⟨u, rfl, hu⟩, hb⟩
  have HU := Lib.hid hu
  have HB := Lib.hid hb
  clear hu hb
  go_wp2_with fail
  refine (HU.out w.heap.size [] _ (Below.refl _ _) ((pr_new _ _ rfl).below HB.out) (by simp)).mono ?_
  rintro e w2 ⟨rfl, h1, h2, h3⟩
  have H1 := Lib.hid h1
  have H2 := Lib.hid h2
  clear h1 h2 h3
  go_wp2_with fail
  refine (ptext_go w.heap.size [s] s _ H1.out HS).mono ?_
  rintro e w3 ⟨rfl, hb⟩
  have H3 := Lib.hid hb
  clear hb
  go_wp2_with fail
  go_ret2
  refine ⟨rfl, ?_⟩
  have e1 : Below w.heap.size w w1 := Below.trans (by go_grown) (HB.out.mono (by simp))
  have z1 := HB.out.size
  simp at z1
  exact (e1.trans (H2.out.mono (by simp))).trans (H3.out.mono (by have := H2.out.size; omega))
end Go.Proofs.YtfagaflgdlomiaaGreatDoor
namespace Go.Proofs.YtfagaflgdlomiaaGreatDoor
open Go.RowKit
/-- put at a row that is made for the call. -/
theorem put_row (p k : Nat) (L M : List ByteArray) (W : World) (hk : k = W.heap.size) (hp : PR p L W) (h0 : 0 < M.length) (hlen : L.length + M.length ≤ 1000000) :
    Calls Tryz.prog 10 #[.pointer (some ⟨p, 0, none⟩), .slice (some ⟨k, 0, none⟩) M.length M.length] (W.alloc (.cells (M.map Value.string).toArray 9)) fun e w' => e = .returned (.tuple #[]) ∧ PR p (L ++ M) w' ∧ Below p W w' ∧ PKept p W w' := by
  subst hk
  have hlt := pr_lt hp
  refine (put_any p L M W.heap.size 0 M.length _ (hp.below ((Below.refl _ _).alloc (Nat.le_refl _) _)) h0 hlen (Lib.hid fun j q hj => ?_)).mono ?_
  · have e : ((⟨W.heap.size, 0, none⟩ : Addr).add j) = ⟨W.heap.size, j, none⟩ := by by_cases h : j = 0 <;> simp [Addr.add, h]
    rw [e, World.cell?_alloc_new, List.getElem?_toArray, List.getElem?_map, hj]; rfl
  · rintro e w1 ⟨rfl, h1, h2, h3⟩
    exact ⟨rfl, h1, ((Below.refl _ _).alloc (by omega) _).trans h2, (PKept.of_below hlt ((Below.refl _ _).alloc (Nat.le_refl _) _)).trans h3 (by simp)⟩
/-- What a printer's method leaves: its words, and what it kept since w. -/
def PS_ (p : Nat) (L : List ByteArray) (w W : World) : Prop := PR p L W ∧ Below p w W ∧ PKept p w W
theorem PS_.then_ {p : Nat} {L M : List ByteArray} {w W V : World} (h : PS_ p L w W) (h1 : PR p M V) (h2 : Below p W V) (h3 : PKept p W V) : PS_ p M w V := ⟨h1, h.2.1.trans h2, h.2.2.trans h3 h.2.1.size⟩
theorem PS_.below {p : Nat} {L : List ByteArray} {w W V : World} (h : PS_ p L w W) (hb : Below W.heap.size W V) : PS_ p L w V :=
  h.then_ (h.1.below hb) (hb.mono (Nat.le_of_lt (pr_lt h.1))) (PKept.of_below (pr_lt h.1) hb)
theorem PS_.start {p : Nat} {L : List ByteArray} {w : World} (h : PR p L w) : PS_ p L w w := ⟨h, Below.refl _ _, fun _ _ _ h => ⟨rfl, h⟩⟩
/-- A block of a variable that stands under the printer's methods. -/
def Var_ (p X : Nat) (o : Obj) (W : World) : Prop := Safe p X W ∧ W.heap[X]? = some o
theorem Var_.keep {p X : Nat} {o : Obj} {W V : World} (h : Var_ p X o W) (h2 : Below p W V) (h3 : PKept p W V) : Var_ p X o V := ⟨h.1.keep h3 h2.size, (h.1.block h3).trans h.2⟩
theorem Var_.below {p X : Nat} {o : Obj} {W V : World} (h : Var_ p X o W) {L : List ByteArray} (hp : PR p L W) (hb : Below W.heap.size W V) : Var_ p X o V := h.keep (hb.mono (Nat.le_of_lt (pr_lt hp))) (PKept.of_below (pr_lt hp) hb)
theorem Var_.new {p k : Nat} {L : List ByteArray} {W : World} (hk : k = W.heap.size) (hp : PR p L W) (o : Obj) : Var_ p k o (W.alloc o) := by
  subst hk
  exact ⟨Safe.fresh hp ((Below.refl _ _).alloc (Nat.le_refl _) _) (Nat.le_refl _) (by simp), by show (W.heap.push _)[W.heap.size]? = _; simp⟩
theorem Var_.at_ {p X : Nat} {c : Array Value} {T : TypeId} {fz : Nat × Nat} {W : World} (h : Var_ p X (.cells c T fz) W) (i : Nat) : W.cell? ⟨X, i, none⟩ = c[i]? := by
  rw [Lib.cell_of_heap h.2]
set_option maxRecDepth 100000 in
set_option maxHeartbeats 4000000 in
theorem psels_field (p b off : Nat) (L M : List ByteArray) (nm : ByteArray) (aa da : Option Addr) (an ac dn dc : Nat) (w0 w : World) (hp : PR p L w) (hlen : L.length + M.length + 5 ≤ 1000000) (h0 : Below w0.heap.size w0 w) (hlt0 : w0.heap.size ≤ p)
    (c0 : w0.cell? ⟨b, off, none⟩ = some (.int .u8 1)) (c1 : w0.cell? ⟨b, off + 1, none⟩ = some (.string ⟨#[]⟩)) (c2 : w0.cell? ⟨b, off + 2, none⟩ = some (.string nm)) (c3 : w0.cell? ⟨b, off + 3, none⟩ = some (.slice aa an ac))
    (c4 : w0.cell? ⟨b, off + 4, none⟩ = some (.slice da dn dc)) (c5 : w0.cell? ⟨b, off + 5, none⟩ = some (.int .i64 0))
    (HA : Hid (∀ W, Below w0.heap.size w0 W → Calls Tryz.prog 55 #[.slice aa an ac] W fun e w' => (∃ u, e = .returned (.tuple #[u, .int .i64 0]) ∧ TokW u M w') ∧ Below W.heap.size W w'))
    (HD : Hid (∀ W, Below w0.heap.size w0 W → Calls Tryz.prog 12 #[.slice da dn dc] W fun e w' => (∃ u, e = .returned (.tuple #[u, .int .i64 0]) ∧ TokW u [] w') ∧ Below W.heap.size W w')) :
    Calls Tryz.prog 25 #[.pointer (some ⟨p, 0, none⟩), .slice (some ⟨b, off, none⟩) 1 1, .int .i64 1] w fun e w' => (∃ v, e = .returned v) ∧ PS_ p (L ++ [⟨#[123]⟩] ++ [nm] ++ M ++ [⟨#[125]⟩]) w w' := by
  have P0 := Lib.hid (PS_.start hp)
  have B0 := Lib.hid h0
  have hb0 := cell_lt c0
  have C := Lib.hid (And.intro c0 (And.intro c1 (And.intro c2 (And.intro c3 (And.intro c4 c5)))))
  clear hp h0 c0 c1 c2 c3 c4 c5
  go_enter Tryz.func25, Tryz.ntmps25
  go_wp2_with fail
  refine (put_row p w.heap.size L [⟨#[123]⟩] w rfl P0.out.1 (by simp) (by simp; omega)).mono ?_
  rintro e w1 ⟨rfl, h1, h2, h3⟩
  have P1 := Lib.hid (P0.out.then_ h1 h2 h3)
  have B1 : Hid (Below w0.heap.size w0 w1) := Lib.hid (B0.out.trans (h2.mono hlt0))
  have c0 := (B1.out.cell (p := ⟨b, off, none⟩) hb0).trans C.out.1
  have c1 := (B1.out.cell (p := ⟨b, off + 1, none⟩) hb0).trans C.out.2.1
  have c2 := (B1.out.cell (p := ⟨b, off + 2, none⟩) hb0).trans C.out.2.2.1
  have c3 := (B1.out.cell (p := ⟨b, off + 3, none⟩) hb0).trans C.out.2.2.2.1
  have c4 := (B1.out.cell (p := ⟨b, off + 4, none⟩) hb0).trans C.out.2.2.2.2.1
  have c5 := (B1.out.cell (p := ⟨b, off + 5, none⟩) hb0).trans C.out.2.2.2.2.2
  clear h1 h2 h3
  go_wp2_with fail
  refine wp_loop_rounds 2 ?_
  rw [rounds_succ]
  go_wp2_with fail
  have P2 := Lib.hid (P1.out.below ((Below.refl _ _).alloc (Nat.le_refl _) (.cells #[.int .u8 1, .string ⟨#[]⟩, .string nm, .slice aa an ac, .slice da dn dc, .int .i64 0] 113)))
  have X2 := Lib.hid (Var_.new (k := w1.heap.size) rfl P1.out.1 (.cells #[.int .u8 1, .string ⟨#[]⟩, .string nm, .slice aa an ac, .slice da dn dc, .int .i64 0] 113))
  have B2 : Hid (Below w0.heap.size w0 (w1.alloc (.cells #[.int .u8 1, .string ⟨#[]⟩, .string nm, .slice aa an ac, .slice da dn dc, .int .i64 0] 113))) := Lib.hid (B1.out.trans ((Below.refl _ _).alloc B1.out.size _))
  refine (put_row p (w1.heap.size + 1) (L ++ [⟨#[123]⟩]) [nm] _ (by simp) P2.out.1 (by simp) (by simp; omega)).mono ?_
  rintro e w3 ⟨rfl, h1, h2, h3⟩
  have P3 := Lib.hid (P2.out.then_ h1 h2 h3)
  have X3 := Lib.hid (X2.out.keep h2 h3)
  have B3 : Hid (Below w0.heap.size w0 w3) := Lib.hid (B2.out.trans (h2.mono hlt0))
  have d3 := X3.out.at_ 3
  clear h1 h2 h3
  go_wp2_with fail
  refine (HA.out _ B3.out).mono ?_
  rintro e w4 ⟨⟨u, rfl, hu⟩, hb⟩
  have P4 := Lib.hid (P3.out.below hb)
  have X4 := Lib.hid (X3.out.below P3.out.1 hb)
  have B4 : Hid (Below w0.heap.size w0 w4) := Lib.hid (B3.out.trans (hb.mono B3.out.size))
  have HU := Lib.hid hu
  clear hu hb d3
  go_wp2_with fail
  refine (HU.out p _ _ (Below.refl _ _) P4.out.1 (by simp; omega)).mono ?_
  rintro e w5 ⟨rfl, h1, h2, h3⟩
  have P5 := Lib.hid (P4.out.then_ h1 h2 h3)
  have X5 := Lib.hid (X4.out.keep h2 h3)
  have B5 : Hid (Below w0.heap.size w0 w5) := Lib.hid (B4.out.trans (h2.mono hlt0))
  have d4 := X5.out.at_ 4
  clear h1 h2 h3
  go_wp2_with fail
  refine (HD.out _ B5.out).mono ?_
  rintro e w6 ⟨⟨u2, rfl, hu⟩, hb⟩
  have P6 := Lib.hid (P5.out.below hb)
  have X6 := Lib.hid (X5.out.below P5.out.1 hb)
  have B6 : Hid (Below w0.heap.size w0 w6) := Lib.hid (B5.out.trans (hb.mono B5.out.size))
  have HU2 := Lib.hid hu
  clear hu hb d4
  go_wp2_with fail
  refine (HU2.out p _ _ (Below.refl _ _) P6.out.1 (by simp; omega)).mono ?_
  rintro e w7 ⟨rfl, h1, h2, h3⟩
  have P7 := Lib.hid (P6.out.then_ h1 h2 h3)
  have X7 := Lib.hid (X6.out.keep h2 h3)
  have d5 := X7.out.at_ 5
  clear h1 h2 h3
  go_wp2_with fail
  rw [rounds_succ]
  go_wp2_with fail
  refine (put_row p _ _ [⟨#[125]⟩] _ rfl P7.out.1 (by simp) (by simp; omega)).mono ?_
  rintro e w8 ⟨rfl, h1, h2, h3⟩
  have P8 := Lib.hid (P7.out.then_ h1 h2 h3)
  clear h1 h2 h3
  go_wp2_with fail
  go_ret
  refine ⟨⟨_, rfl⟩, ?_⟩
  have := P8.out
  simpa using this
end Go.Proofs.YtfagaflgdlomiaaGreatDoor
namespace Go.Proofs.YtfagaflgdlomiaaGreatDoor
open Go.RowKit
theorem Var_.old {p k : Nat} {o : Obj} {W : World} (hp : p = W.heap.size) (h : W.heap[k]? = some o) : Var_ p k o (W.alloc (.cells #[.slice none 0 0] 49)) := by
  have hk := (Array.getElem?_eq_some_iff.1 h).1
  subst hp
  refine ⟨⟨by simp; omega, by omega, fun v hv e => ?_⟩, ?_⟩
  · have h2 : (W.alloc (.cells #[.slice none 0 0] 49)).heap[W.heap.size]? = some (.cells #[.slice none 0 0] 49 (0, 0)) := by show (W.heap.push _)[W.heap.size]? = _; simp
    rw [h2] at hv
    have e2 : v = .slice none 0 0 := by simpa using hv.symm
    rw [e2] at e; cases e
  · rw [((Below.refl W.heap.size W).alloc (Nat.le_refl _) _).block k hk]; exact h
theorem new_at (W : World) (o : Obj) : (W.alloc o).heap[W.heap.size]? = some o := by show (W.heap.push _)[W.heap.size]? = _; simp
set_option maxRecDepth 100000 in
set_option maxHeartbeats 4000000 in
theorem pdoc_bad (oa fa : Option Addr) (on oc fn fc : Nat) (w : World)
    (HC : Hid (∀ W, Below w.heap.size w W → Calls Tryz.prog 23 #[.agg #[.slice oa on oc, .slice fa fn fc]] W fun e w' => e = .returned (.int .i64 8) ∧ Below W.heap.size W w')) :
    Calls Tryz.prog 7 #[.agg #[.slice oa on oc, .slice fa fn fc]] w fun e w' => e = .returned (.tuple #[.string ⟨#[]⟩, .int .i64 8]) ∧ Below w.heap.size w w' := by
  go_enter Tryz.func7, Tryz.ntmps7
  go_wp2_with fail
  refine (HC.out _ (by go_grown)).mono ?_
  rintro e w1 ⟨rfl, hb⟩
  have HB := Lib.hid hb
  clear hb
  go_wp2_with fail
  go_ret2
  exact ⟨rfl, Below.trans (by go_grown) (HB.out.mono (by simp))⟩
set_option maxRecDepth 100000 in
set_option maxHeartbeats 4000000 in
theorem pdoc_q (ob oo b off : Nat) (M : List ByteArray) (nm s : ByteArray) (aa da : Option Addr) (an ac dn dc : Nat) (w : World) (hlen : M.length ≤ 1000)
    (k0 : w.cell? ⟨ob, oo, none⟩ = some (.int .u8 1)) (k1 : w.cell? ⟨ob, oo + 1, none⟩ = some (.string ⟨#[]⟩)) (k2 : w.cell? ⟨ob, oo + 2, none⟩ = some (.slice none 0 0)) (k3 : w.cell? ⟨ob, oo + 3, none⟩ = some (.int .i64 1)) (k4 : w.cell? ⟨ob, oo + 4, none⟩ = some (.slice (some ⟨b, off, none⟩) 1 1))
    (c0 : w.cell? ⟨b, off, none⟩ = some (.int .u8 1)) (c1 : w.cell? ⟨b, off + 1, none⟩ = some (.string ⟨#[]⟩)) (c2 : w.cell? ⟨b, off + 2, none⟩ = some (.string nm)) (c3 : w.cell? ⟨b, off + 3, none⟩ = some (.slice aa an ac))
    (c4 : w.cell? ⟨b, off + 4, none⟩ = some (.slice da dn dc)) (c5 : w.cell? ⟨b, off + 5, none⟩ = some (.int .i64 0))
    (HC : Hid (∀ W, Below w.heap.size w W → Calls Tryz.prog 23 #[.agg #[.slice (some ⟨ob, oo, none⟩) 1 1, .slice none 0 0]] W fun e w' => e = .returned (.int .i64 0) ∧ Below W.heap.size W w'))
    (HA : Hid (∀ W, Below w.heap.size w W → Calls Tryz.prog 55 #[.slice aa an ac] W fun e w' => (∃ u, e = .returned (.tuple #[u, .int .i64 0]) ∧ TokW u M w') ∧ Below W.heap.size W w'))
    (HD : Hid (∀ W, Below w.heap.size w W → Calls Tryz.prog 12 #[.slice da dn dc] W fun e w' => (∃ u, e = .returned (.tuple #[u, .int .i64 0]) ∧ TokW u [] w') ∧ Below W.heap.size W w'))
    (HS : Hid (JoinDoes (([] : List ByteArray) ++ [⟨#[123]⟩] ++ [nm] ++ M ++ [⟨#[125]⟩]) s)) :
    Calls Tryz.prog 7 #[.agg #[.slice (some ⟨ob, oo, none⟩) 1 1, .slice none 0 0]] w fun e w' => e = .returned (.tuple #[.string s, .int .i64 0]) ∧ Below w.heap.size w w' := by
  have hob := cell_lt k0
  have K := Lib.hid (And.intro k0 (And.intro k1 (And.intro k2 (And.intro k3 k4))))
  have C := Lib.hid (And.intro c0 (And.intro c1 (And.intro c2 (And.intro c3 (And.intro c4 c5)))))
  have hb0 := cell_lt c0
  clear k0 k1 k2 k3 k4 c0 c1 c2 c3 c4 c5
  go_enter Tryz.func7, Tryz.ntmps7
  go_wp2_with fail
  refine (HC.out _ (by go_grown)).mono ?_
  rintro e w1 ⟨rfl, hb⟩
  have z1 := hb.size
  simp only [World.size_alloc] at z1
  have hD : w1.heap[w.heap.size]? = some (.cells #[.slice (some ⟨ob, oo, none⟩) 1 1, .slice none 0 0] 44 (0, 0)) := (hb.block w.heap.size (by simp)).trans (new_at _ _)
  have B1 : Hid (Below w.heap.size w w1) := Lib.hid (Below.trans (by go_grown) (hb.mono (by simp)))
  have HDD := Lib.hid hD
  have d0 : w1.cell? ⟨w.heap.size, 0, none⟩ = some (.slice (some ⟨ob, oo, none⟩) 1 1) := by rw [Lib.cell_of_heap hD]; rfl
  have hob1 : ob < w1.heap.size := by omega
  have hz1 : w.heap.size < w1.heap.size := by omega
  have hz2 : ¬ w.heap.size = w1.heap.size := by omega
  have k0 := (B1.out.cell (p := ⟨ob, oo, none⟩) hob).trans K.out.1
  have k1 := (B1.out.cell (p := ⟨ob, oo + 1, none⟩) hob).trans K.out.2.1
  have k2 := (B1.out.cell (p := ⟨ob, oo + 2, none⟩) hob).trans K.out.2.2.1
  have k3 := (B1.out.cell (p := ⟨ob, oo + 3, none⟩) hob).trans K.out.2.2.2.1
  have k4 := (B1.out.cell (p := ⟨ob, oo + 4, none⟩) hob).trans K.out.2.2.2.2
  have hp0 : w.heap.size ≤ w1.heap.size := by omega
  clear hb hD
  go_wp2_with fail
  have P2 : Hid (PR w1.heap.size [] (w1.alloc (.cells #[.slice none 0 0] 49))) := Lib.hid (pr_new w1.heap.size w1 rfl)
  have D2 := Lib.hid (Var_.old (p := w1.heap.size) rfl HDD.out)
  have B2 : Hid (Below w.heap.size w (w1.alloc (.cells #[.slice none 0 0] 49))) := Lib.hid (B1.out.trans ((Below.refl _ _).alloc B1.out.size _))
  refine wp_loop_rounds 2 ?_
  rw [rounds_succ]
  go_wp2_with fail
  have P3 := Lib.hid ((PS_.start P2.out).below ((Below.refl _ _).alloc (Nat.le_refl _) (.cells #[.int .u8 1, .string ⟨#[]⟩, .slice none 0 0, .int .i64 1, .slice (some ⟨b, off, none⟩) 1 1] 74)))
  have X3 := Lib.hid (Var_.new (k := w1.heap.size + 1) (by simp) P2.out (.cells #[.int .u8 1, .string ⟨#[]⟩, .slice none 0 0, .int .i64 1, .slice (some ⟨b, off, none⟩) 1 1] 74))
  have D3 := Lib.hid (D2.out.below P2.out ((Below.refl _ _).alloc (Nat.le_refl _) (.cells #[.int .u8 1, .string ⟨#[]⟩, .slice none 0 0, .int .i64 1, .slice (some ⟨b, off, none⟩) 1 1] 74)))
  have B3 : Hid (Below w.heap.size w ((w1.alloc (.cells #[.slice none 0 0] 49)).alloc (.cells #[.int .u8 1, .string ⟨#[]⟩, .slice none 0 0, .int .i64 1, .slice (some ⟨b, off, none⟩) 1 1] 74))) := Lib.hid (B2.out.trans ((Below.refl _ _).alloc B2.out.size _))
  refine (each_none_in none 0 _ _ _ _).mono ?_
  rintro e w5 ⟨rfl, hb⟩
  have P5 := Lib.hid (P3.out.below hb)
  have X5 := Lib.hid (X3.out.below P3.out.1 hb)
  have D5 := Lib.hid (D3.out.below P3.out.1 hb)
  have B5 : Hid (Below w.heap.size w w5) := Lib.hid (B3.out.trans (hb.mono B3.out.size))
  clear hb
  go_wp2_with fail
  refine (between_none _ _ _ _ _ _).mono ?_
  rintro e w6 ⟨rfl, rfl⟩
  have y3 := X5.out.at_ 3
  have y4 := X5.out.at_ 4
  go_wp2_with fail
  refine (psels_field w1.heap.size b off ([] : List ByteArray) M nm aa da an ac dn dc w _ P5.out.1 (by simp; omega) B5.out hp0 C.out.1 C.out.2.1 C.out.2.2.1 C.out.2.2.2.1 C.out.2.2.2.2.1 C.out.2.2.2.2.2 HA HD).mono ?_
  rintro e w7 ⟨⟨u, rfl⟩, hs⟩
  have P7 := Lib.hid (P5.out.then_ hs.1 hs.2.1 hs.2.2)
  have D7 := Lib.hid (D5.out.keep hs.2.1 hs.2.2)
  have B7 : Hid (Below w.heap.size w w7) := Lib.hid (B5.out.trans (hs.2.1.mono hp0))
  have e1 := D7.out.at_ 1
  clear hs
  go_wp2_with fail
  rw [rounds_succ]
  go_wp2_with fail
  refine wp_loop_rounds 1 ?_
  rw [rounds_succ]
  go_wp2_with fail
  refine (ptext_go w1.heap.size _ s _ P7.out.1 HS).mono ?_
  rintro e w8 ⟨rfl, hb⟩
  have HB := Lib.hid hb
  clear hb
  go_wp2_with fail
  go_ret2
  exact ⟨rfl, B7.out.trans (HB.out.mono B7.out.size)⟩
set_option maxRecDepth 100000 in
set_option maxHeartbeats 4000000 in
theorem pdoc_m (ob oo b off : Nat) (M : List ByteArray) (nm s : ByteArray) (aa da : Option Addr) (an ac dn dc : Nat) (w : World) (hlen : M.length ≤ 1000)
    (k0 : w.cell? ⟨ob, oo, none⟩ = some (.int .u8 2)) (k1 : w.cell? ⟨ob, oo + 1, none⟩ = some (.string ⟨#[]⟩)) (k2 : w.cell? ⟨ob, oo + 2, none⟩ = some (.slice none 0 0)) (k3 : w.cell? ⟨ob, oo + 3, none⟩ = some (.int .i64 1)) (k4 : w.cell? ⟨ob, oo + 4, none⟩ = some (.slice (some ⟨b, off, none⟩) 1 1))
    (c0 : w.cell? ⟨b, off, none⟩ = some (.int .u8 1)) (c1 : w.cell? ⟨b, off + 1, none⟩ = some (.string ⟨#[]⟩)) (c2 : w.cell? ⟨b, off + 2, none⟩ = some (.string nm)) (c3 : w.cell? ⟨b, off + 3, none⟩ = some (.slice aa an ac))
    (c4 : w.cell? ⟨b, off + 4, none⟩ = some (.slice da dn dc)) (c5 : w.cell? ⟨b, off + 5, none⟩ = some (.int .i64 0))
    (HC : Hid (∀ W, Below w.heap.size w W → Calls Tryz.prog 23 #[.agg #[.slice (some ⟨ob, oo, none⟩) 1 1, .slice none 0 0]] W fun e w' => e = .returned (.int .i64 0) ∧ Below W.heap.size W w'))
    (HA : Hid (∀ W, Below w.heap.size w W → Calls Tryz.prog 55 #[.slice aa an ac] W fun e w' => (∃ u, e = .returned (.tuple #[u, .int .i64 0]) ∧ TokW u M w') ∧ Below W.heap.size W w'))
    (HD : Hid (∀ W, Below w.heap.size w W → Calls Tryz.prog 12 #[.slice da dn dc] W fun e w' => (∃ u, e = .returned (.tuple #[u, .int .i64 0]) ∧ TokW u [] w') ∧ Below W.heap.size W w'))
    (HS : Hid (JoinDoes (([⟨#[109, 117, 116, 97, 116, 105, 111, 110]⟩] : List ByteArray) ++ [⟨#[123]⟩] ++ [nm] ++ M ++ [⟨#[125]⟩]) s)) :
    Calls Tryz.prog 7 #[.agg #[.slice (some ⟨ob, oo, none⟩) 1 1, .slice none 0 0]] w fun e w' => e = .returned (.tuple #[.string s, .int .i64 0]) ∧ Below w.heap.size w w' := by
  have hob := cell_lt k0
  have K := Lib.hid (And.intro k0 (And.intro k1 (And.intro k2 (And.intro k3 k4))))
  have C := Lib.hid (And.intro c0 (And.intro c1 (And.intro c2 (And.intro c3 (And.intro c4 c5)))))
  have hb0 := cell_lt c0
  clear k0 k1 k2 k3 k4 c0 c1 c2 c3 c4 c5
  go_enter Tryz.func7, Tryz.ntmps7
  go_wp2_with fail
  refine (HC.out _ (by go_grown)).mono ?_
  rintro e w1 ⟨rfl, hb⟩
  have z1 := hb.size
  simp only [World.size_alloc] at z1
  have hD : w1.heap[w.heap.size]? = some (.cells #[.slice (some ⟨ob, oo, none⟩) 1 1, .slice none 0 0] 44 (0, 0)) := (hb.block w.heap.size (by simp)).trans (new_at _ _)
  have B1 : Hid (Below w.heap.size w w1) := Lib.hid (Below.trans (by go_grown) (hb.mono (by simp)))
  have HDD := Lib.hid hD
  have d0 : w1.cell? ⟨w.heap.size, 0, none⟩ = some (.slice (some ⟨ob, oo, none⟩) 1 1) := by rw [Lib.cell_of_heap hD]; rfl
  have hob1 : ob < w1.heap.size := by omega
  have hz1 : w.heap.size < w1.heap.size := by omega
  have hz2 : ¬ w.heap.size = w1.heap.size := by omega
  have k0 := (B1.out.cell (p := ⟨ob, oo, none⟩) hob).trans K.out.1
  have k1 := (B1.out.cell (p := ⟨ob, oo + 1, none⟩) hob).trans K.out.2.1
  have k2 := (B1.out.cell (p := ⟨ob, oo + 2, none⟩) hob).trans K.out.2.2.1
  have k3 := (B1.out.cell (p := ⟨ob, oo + 3, none⟩) hob).trans K.out.2.2.2.1
  have k4 := (B1.out.cell (p := ⟨ob, oo + 4, none⟩) hob).trans K.out.2.2.2.2
  have hp0 : w.heap.size ≤ w1.heap.size := by omega
  clear hb hD
  go_wp2_with fail
  have P2 : Hid (PR w1.heap.size [] (w1.alloc (.cells #[.slice none 0 0] 49))) := Lib.hid (pr_new w1.heap.size w1 rfl)
  have D2 := Lib.hid (Var_.old (p := w1.heap.size) rfl HDD.out)
  have B2 : Hid (Below w.heap.size w (w1.alloc (.cells #[.slice none 0 0] 49))) := Lib.hid (B1.out.trans ((Below.refl _ _).alloc B1.out.size _))
  refine wp_loop_rounds 2 ?_
  rw [rounds_succ]
  go_wp2_with fail
  have P3 := Lib.hid ((PS_.start P2.out).below ((Below.refl _ _).alloc (Nat.le_refl _) (.cells #[.int .u8 2, .string ⟨#[]⟩, .slice none 0 0, .int .i64 1, .slice (some ⟨b, off, none⟩) 1 1] 74)))
  have X3 := Lib.hid (Var_.new (k := w1.heap.size + 1) (by simp) P2.out (.cells #[.int .u8 2, .string ⟨#[]⟩, .slice none 0 0, .int .i64 1, .slice (some ⟨b, off, none⟩) 1 1] 74))
  have D3 := Lib.hid (D2.out.below P2.out ((Below.refl _ _).alloc (Nat.le_refl _) (.cells #[.int .u8 2, .string ⟨#[]⟩, .slice none 0 0, .int .i64 1, .slice (some ⟨b, off, none⟩) 1 1] 74)))
  have B3 : Hid (Below w.heap.size w ((w1.alloc (.cells #[.slice none 0 0] 49)).alloc (.cells #[.int .u8 2, .string ⟨#[]⟩, .slice none 0 0, .int .i64 1, .slice (some ⟨b, off, none⟩) 1 1] 74))) := Lib.hid (B2.out.trans ((Below.refl _ _).alloc B2.out.size _))
  refine (put_row w1.heap.size (w1.heap.size + 1 + 1) [] [⟨#[109, 117, 116, 97, 116, 105, 111, 110]⟩] _ (by simp) P3.out.1 (by simp) (by simp)).mono ?_
  rintro e w4 ⟨rfl, h1, h2, h3⟩
  have P4 := Lib.hid (P3.out.then_ h1 h2 h3)
  have X4 := Lib.hid (X3.out.keep h2 h3)
  have D4 := Lib.hid (D3.out.keep h2 h3)
  have B4 : Hid (Below w.heap.size w w4) := Lib.hid (B3.out.trans (h2.mono hp0))
  have x1 := X4.out.at_ 1
  have x2 := X4.out.at_ 2
  clear h1 h2 h3
  go_wp2_with fail
  refine (each_none_in none 0 _ _ _ _).mono ?_
  rintro e w5 ⟨rfl, hb⟩
  have P5 := Lib.hid (P4.out.below hb)
  have X5 := Lib.hid (X4.out.below P4.out.1 hb)
  have D5 := Lib.hid (D4.out.below P4.out.1 hb)
  have B5 : Hid (Below w.heap.size w w5) := Lib.hid (B4.out.trans (hb.mono B4.out.size))
  clear hb
  go_wp2_with fail
  refine (between_none _ _ _ _ _ _).mono ?_
  rintro e w6 ⟨rfl, rfl⟩
  have y3 := X5.out.at_ 3
  have y4 := X5.out.at_ 4
  go_wp2_with fail
  refine (psels_field w1.heap.size b off ([⟨#[109, 117, 116, 97, 116, 105, 111, 110]⟩] : List ByteArray) M nm aa da an ac dn dc w _ P5.out.1 (by simp; omega) B5.out hp0 C.out.1 C.out.2.1 C.out.2.2.1 C.out.2.2.2.1 C.out.2.2.2.2.1 C.out.2.2.2.2.2 HA HD).mono ?_
  rintro e w7 ⟨⟨u, rfl⟩, hs⟩
  have P7 := Lib.hid (P5.out.then_ hs.1 hs.2.1 hs.2.2)
  have D7 := Lib.hid (D5.out.keep hs.2.1 hs.2.2)
  have B7 : Hid (Below w.heap.size w w7) := Lib.hid (B5.out.trans (hs.2.1.mono hp0))
  have e1 := D7.out.at_ 1
  clear hs
  go_wp2_with fail
  rw [rounds_succ]
  go_wp2_with fail
  refine wp_loop_rounds 1 ?_
  rw [rounds_succ]
  go_wp2_with fail
  refine (ptext_go w1.heap.size _ s _ P7.out.1 HS).mono ?_
  rintro e w8 ⟨rfl, hb⟩
  have HB := Lib.hid hb
  clear hb
  go_wp2_with fail
  go_ret2
  exact ⟨rfl, B7.out.trans (HB.out.mono B7.out.size)⟩
end Go.Proofs.YtfagaflgdlomiaaGreatDoor
namespace Go.Proofs.YtfagaflgdlomiaaGreatDoor
open Go.RowKit
theorem idx_1 (a b c d : Value) (w : World) : Sem.run Tryz.prog (Instr.index 51 (.agg #[a, b, c, d]) (.int .u8 1)) w = .ok b w := by kernel_rfl
theorem wp_app_none {o : Oper} {a : Act} {K : Act → World → Prop} {Q : Exit → Act → World → Prop} {w : World} (s x : Operand)
    (ho : o.op = .call { callee := .builtin .append, args := #[s, x], argTypes := #[56, 56] }) (B : Nat) (v : Value) (l : List Value) (hs : a.eval s = v) (hown : OwnF B v l w) (hx : a.eval x = .slice none 0 0)
    (h : K (a.put o.dst v) w) : Oper.wp Tryz.prog o a w K Q := by
  obtain ⟨i0, hi, hz0, hz1, hz2⟩ := info_parts fun_info
  have hrun := run_append_owned_none (P := Tryz.prog) (w := w) B 56 o.type 1 i0 1 Tryz.underlying56 hi v l.length l hown
  unfold Oper.wp
  simp [execOp, ho, resolve, invoke, builtin, hs, hx, hrun, Result.andThen]
  exact h
theorem wpList_app_none {ops : Array Oper} {rest : List Oper} {o : Oper} {a : Act} {Q : Exit → Act → World → Prop} {w : World} (hgd : o.guard = none) (s x : Operand)
    (ho : o.op = .call { callee := .builtin .append, args := #[s, x], argTypes := #[56, 56] }) (B : Nat) (v : Value) (l : List Value) (hs : a.eval s = v) (hown : OwnF B v l w) (hx : a.eval x = .slice none 0 0)
    (h : wpList Tryz.prog ops Q rest (a.put o.dst v) w) : wpList Tryz.prog ops Q (o :: rest) a w := by
  obtain ⟨i0, hi, hz0, hz1, hz2⟩ := info_parts fun_info
  exact wpList_append_own_none hgd s x 56 ho B 1 i0 1 Tryz.underlying56 hi v l.length l hs hown hx h
set_option maxRecDepth 100000 in
set_option maxHeartbeats 4000000 in
theorem psdl_bad (a : Option Addr) (n c : Nat) (w : World)
    (HC : Hid (∀ W, Below w.heap.size w W → Calls Tryz.prog 9 #[.slice a n c] W fun e w' => e = .returned (.int .i64 8) ∧ Below W.heap.size W w')) :
    Calls Tryz.prog 4 #[.slice a n c] w fun e w' => e = .returned (.tuple #[.string ⟨#[]⟩, .int .i64 8]) ∧ Below w.heap.size w w' := by
  go_enter Tryz.func4, Tryz.ntmps4
  go_wp2_with fail
  refine (HC.out _ (Below.refl _ _)).mono ?_
  rintro e w1 ⟨rfl, hb⟩
  have HB := Lib.hid hb
  clear hb
  go_wp2_with fail
  go_ret2
  exact ⟨rfl, HB.out⟩
theorem Var_.drew_ {p X : Nat} {o : Obj} {W : World} (h : Var_ p X o W) : Var_ p X o W.drew := h
theorem PS_.drew_ {p : Nat} {L : List ByteArray} {w W : World} (h : PS_ p L w W) : PS_ p L w W.drew := h.below (Below.drew (Below.refl _ _))
set_option maxRecDepth 100000 in
set_option maxHeartbeats 4000000 in
theorem psdl_go (db dof nb no nc : Nat) (nm s t : ByteArray) (da : Option Addr) (dn dc : Nat) (w : World)
    (k0 : w.cell? ⟨db, dof, none⟩ = some (.int .u8 1)) (k1 : w.cell? ⟨db, dof + 1, none⟩ = some (.string nm)) (k2 : w.cell? ⟨db, dof + 2, none⟩ = some (.slice da dn dc)) (k3 : w.cell? ⟨db, dof + 3, none⟩ = some (.slice (some ⟨nb, no, none⟩) 1 nc))
    (k4 : w.cell? ⟨db, dof + 4, none⟩ = some (.slice none 0 0)) (k5 : w.cell? ⟨db, dof + 5, none⟩ = some (.slice none 0 0)) (hn : w.cell? ⟨nb, no, none⟩ = some (.string s))
    (HC : Hid (∀ W, Below w.heap.size w W → Calls Tryz.prog 9 #[.slice (some ⟨db, dof, none⟩) 1 1] W fun e w' => e = .returned (.int .i64 0) ∧ Below W.heap.size W w'))
    (HD : Hid (∀ W, Below w.heap.size w W → Calls Tryz.prog 12 #[.slice da dn dc] W fun e w' => (∃ u, e = .returned (.tuple #[u, .int .i64 0]) ∧ TokW u [] w') ∧ Below W.heap.size W w'))
    (HS : Hid (JoinDoes [⟨#[101, 110, 117, 109]⟩, nm, ⟨#[123]⟩, s, ⟨#[125]⟩] t)) :
    Calls Tryz.prog 4 #[.slice (some ⟨db, dof, none⟩) 1 1] w fun e w' => e = .returned (.tuple #[.string t, .int .i64 0]) ∧ Below w.heap.size w w' := by
  have hdb := cell_lt k0
  have hnb := cell_lt hn
  have K := Lib.hid (And.intro k0 (And.intro k1 (And.intro k2 (And.intro k3 (And.intro k4 k5)))))
  have HN := Lib.hid hn
  clear k0 k1 k2 k3 k4 k5 hn
  go_enter Tryz.func4, Tryz.ntmps4
  go_wp2_with fail
  refine (HC.out _ (Below.refl _ _)).mono ?_
  rintro e w1 ⟨rfl, hb⟩
  have hp0 : w.heap.size ≤ w1.heap.size := hb.size
  have B1 := Lib.hid hb
  clear hb
  have hdb1 : db < w1.heap.size := by omega
  have k0 := (B1.out.cell (p := ⟨db, dof, none⟩) hdb).trans K.out.1
  have k1 := (B1.out.cell (p := ⟨db, dof + 1, none⟩) hdb).trans K.out.2.1
  have k2 := (B1.out.cell (p := ⟨db, dof + 2, none⟩) hdb).trans K.out.2.2.1
  have k3 := (B1.out.cell (p := ⟨db, dof + 3, none⟩) hdb).trans K.out.2.2.2.1
  have k4 := (B1.out.cell (p := ⟨db, dof + 4, none⟩) hdb).trans K.out.2.2.2.2.1
  have k5 := (B1.out.cell (p := ⟨db, dof + 5, none⟩) hdb).trans K.out.2.2.2.2.2
  go_wp2_with fail
  have P2 : Hid (PR w1.heap.size [] (w1.alloc (.cells #[.slice none 0 0] 49))) := Lib.hid (pr_new w1.heap.size w1 rfl)
  have B2 : Hid (Below w.heap.size w (w1.alloc (.cells #[.slice none 0 0] 49))) := Lib.hid (B1.out.trans ((Below.refl _ _).alloc B1.out.size _))
  refine wp_loop_rounds 2 ?_
  rw [rounds_succ]
  go_wp2_with fail
  have P3 := Lib.hid ((PS_.start P2.out).below ((Below.refl _ _).alloc (Nat.le_refl _) (.cells #[.int .u8 1, .string nm, .slice da dn dc, .slice (some ⟨nb, no, none⟩) 1 nc, .slice none 0 0, .slice none 0 0] 30)))
  have X3 := Lib.hid (Var_.new (k := w1.heap.size + 1) (by simp) P2.out (.cells #[.int .u8 1, .string nm, .slice da dn dc, .slice (some ⟨nb, no, none⟩) 1 nc, .slice none 0 0, .slice none 0 0] 30))
  have B3 : Hid (Below w.heap.size w ((w1.alloc (.cells #[.slice none 0 0] 49)).alloc (.cells #[.int .u8 1, .string nm, .slice da dn dc, .slice (some ⟨nb, no, none⟩) 1 nc, .slice none 0 0, .slice none 0 0] 30))) := Lib.hid (B2.out.trans ((Below.refl _ _).alloc B2.out.size _))
  generalize hv3 : (w1.alloc (.cells #[.slice none 0 0] 49)).alloc (.cells #[.int .u8 1, .string nm, .slice da dn dc, .slice (some ⟨nb, no, none⟩) 1 nc, .slice none 0 0, .slice none 0 0] 30) = v3 at *
  have P3D := Lib.hid P3.out.drew_
  have B3D : Hid (Below w.heap.size w v3.drew) := Lib.hid (Below.drew B3.out)
  refine wp_region_held_drew (S := (fun W => Var_ w1.heap.size (w1.heap.size + 1) (.cells #[.int .u8 1, .string nm, .slice da dn dc, .slice (some ⟨nb, no, none⟩) 1 nc, .slice none 0 0, .slice none 0 0] 30) W)) (by kernel_rfl) (X3.out.drew_) (fun hHeld => ?_)
  refine tky 0 (some 22) (v := ?_) rfl (by kernel_rfl) (by kernel_rfl) (by kernel_rfl) (fun _ _ _ h => h) ?_ hHeld ?_
  rotate_left
  focus (intro w hSw; (try dsimp only at hSw); go_simp; (try with_reducible rfl); done)
  go_frame
  refine tky 1 (some 23) (v := ?_) rfl (by kernel_rfl) (by kernel_rfl) (by kernel_rfl) (fun _ _ _ h => h) ?_ hHeld ?_
  rotate_left
  focus (intro w hSw; (try dsimp only at hSw); go_simp; (try with_reducible rfl); done)
  go_frame
  refine tky 2 (some 24) (v := ?_) rfl (by kernel_rfl) (by kernel_rfl) (by kernel_rfl) (fun _ _ _ h => h) ?_ hHeld ?_
  rotate_left
  focus (intro w hSw; (try dsimp only at hSw); go_simp; (try with_reducible rfl); done)
  go_frame
  refine tky 3 (some 25) (v := ?_) rfl (by kernel_rfl) (by kernel_rfl) (by kernel_rfl) (fun _ _ _ h => h) ?_ hHeld ?_
  rotate_left
  focus (intro w hSw; (try dsimp only at hSw); have := hSw.at_ 0; go_simp; (try with_reducible rfl); done)
  go_frame
  refine tky 4 (some 26) (v := ?_) rfl (by kernel_rfl) (by kernel_rfl) (by kernel_rfl) (fun _ _ _ h => h) ?_ hHeld ?_
  rotate_left
  focus (intro w hSw; go_simp; rw [idx_1]; rfl)
  go_frame
  refine tky 5 (some 27) (v := ?_) rfl (by kernel_rfl) (by kernel_rfl) (by kernel_rfl) (fun _ _ _ h => h) ?_ hHeld ?_
  rotate_left
  focus (intro w hSw; (try dsimp only at hSw); go_simp; (try with_reducible rfl); done)
  go_frame
  refine tky 6 (some 28) (v := ?_) rfl (by kernel_rfl) (by kernel_rfl) (by kernel_rfl) (fun _ _ _ h => h) ?_ hHeld ?_
  rotate_left
  focus (intro w hSw; (try dsimp only at hSw); have := hSw.at_ 1; go_simp; (try with_reducible rfl); done)
  go_frame
  refine rcons 7 rfl (by kernel_rfl) (fun K hK => ?_)
  go_simp
  refine hK.out _ _ (hHeld.below P3D.out.1 ((Below.refl _ _).alloc (Nat.le_refl _) _)) (fun hHeld2 => ?_)
  clear hK K hHeld
  have hHeld := hHeld2
  clear hHeld2
  (try go_frame)
  refine rcons 8 rfl (by kernel_rfl) (fun K hK => ?_)
  go_simp
  refine (put_row w1.heap.size v3.drew.heap.size [] [⟨#[101, 110, 117, 109]⟩, nm] v3.drew rfl P3D.out.1 (by simp) (by simp)).mono ?_
  rintro e w4 ⟨rfl, h1, h2, h3⟩
  have P4 := Lib.hid (P3D.out.then_ h1 h2 h3)
  have X4 := Lib.hid (X3.out.drew_.keep h2 h3)
  have B4 : Hid (Below w.heap.size w w4) := Lib.hid (B3D.out.trans (h2.mono hp0))
  clear h1 h2 h3
  (try dsimp only)
  refine hK.out _ _ (X4.out) (fun hHeld2 => ?_)
  clear hK K hHeld
  have hHeld := hHeld2
  clear hHeld2
  (try go_frame)
  refine wpAnyH_done (by kernel_rfl) ?_ _
  have z2 := X4.out.at_ 2
  go_wp2_with fail
  refine (HD.out _ B4.out).mono ?_
  rintro e w5 ⟨⟨u, rfl, hu⟩, hb⟩
  have P5 := Lib.hid (P4.out.below hb)
  have X5 := Lib.hid (X4.out.below P4.out.1 hb)
  have B5 : Hid (Below w.heap.size w w5) := Lib.hid (B4.out.trans (hb.mono B4.out.size))
  have HU := Lib.hid hu
  clear hu hb z2 hHeld
  go_wp2_with fail
  refine (HU.out w1.heap.size _ _ (Below.refl _ _) P5.out.1 (by simp)).mono ?_
  rintro e w6 ⟨rfl, h1, h2, h3⟩
  have P6 := Lib.hid (P5.out.then_ h1 h2 h3)
  have X6 := Lib.hid (X5.out.keep h2 h3)
  have B6 : Hid (Below w.heap.size w w6) := Lib.hid (B5.out.trans (h2.mono hp0))
  have P6D := Lib.hid P6.out.drew_
  have B6D : Hid (Below w.heap.size w w6.drew) := Lib.hid (Below.drew B6.out)
  clear h1 h2 h3
  go_wp2_with fail
  refine wp_region_held_drew (S := (fun W => Var_ w1.heap.size (w1.heap.size + 1) (.cells #[.int .u8 1, .string nm, .slice da dn dc, .slice (some ⟨nb, no, none⟩) 1 nc, .slice none 0 0, .slice none 0 0] 30) W)) (by kernel_rfl) (X6.out.drew_) (fun hHeld => ?_)
  refine tky 0 (some 38) (v := ?_) rfl (by kernel_rfl) (by kernel_rfl) (by kernel_rfl) (fun _ _ _ h => h) ?_ hHeld ?_
  rotate_left
  focus (intro w hSw; (try dsimp only at hSw); go_simp; (try with_reducible rfl); done)
  go_frame
  refine tky 1 (some 39) (v := ?_) rfl (by kernel_rfl) (by kernel_rfl) (by kernel_rfl) (fun _ _ _ h => h) ?_ hHeld ?_
  rotate_left
  focus (intro w hSw; (try dsimp only at hSw); have := hSw.at_ 3; go_simp; (try with_reducible rfl); done)
  go_frame
  refine tky 2 (some 40) (v := ?_) rfl (by kernel_rfl) (by kernel_rfl) (by kernel_rfl) (fun _ _ _ h => h) ?_ hHeld ?_
  rotate_left
  focus (intro w hSw; (try dsimp only at hSw); go_simp; (try with_reducible rfl); done)
  go_frame
  refine tky 3 (some 41) (v := ?_) rfl (by kernel_rfl) (by kernel_rfl) (by kernel_rfl) (fun _ _ _ h => h) ?_ hHeld ?_
  rotate_left
  focus (intro w hSw; (try dsimp only at hSw); go_simp; (try with_reducible rfl); done)
  go_frame
  refine tky 5 (some 43) (v := ?_) rfl (by kernel_rfl) (by kernel_rfl) (by kernel_rfl) (fun _ _ _ h => h) ?_ hHeld ?_
  rotate_left
  focus (intro w hSw; (try dsimp only at hSw); go_simp; (try with_reducible rfl); done)
  go_frame
  refine tky 6 (some 44) (v := ?_) rfl (by kernel_rfl) (by kernel_rfl) (by kernel_rfl) (fun _ _ _ h => h) ?_ hHeld ?_
  rotate_left
  focus (intro w hSw; (try dsimp only at hSw); have := hSw.at_ 4; go_simp; (try with_reducible rfl); done)
  go_frame
  refine tky 7 (some 45) (v := ?_) rfl (by kernel_rfl) (by kernel_rfl) (by kernel_rfl) (fun _ _ _ h => h) ?_ hHeld ?_
  rotate_left
  focus (intro w hSw; (try dsimp only at hSw); go_simp; (try with_reducible rfl); done)
  go_frame
  refine tky 8 (some 46) (v := ?_) rfl (by kernel_rfl) (by kernel_rfl) (by kernel_rfl) (fun _ _ _ h => h) ?_ hHeld ?_
  rotate_left
  focus (intro w hSw; (try dsimp only at hSw); go_simp; (try with_reducible rfl); done)
  go_frame
  refine rcons 4 rfl (by kernel_rfl) (fun K hK => ?_)
  go_simp
  refine (each_one nb no nc s _ _ _ w6.drew (by have := B6D.out.size; omega) ((B6D.out.cell (p := ⟨nb, no, none⟩) hnb).trans HN.out)).mono ?_
  rintro e w7 ⟨xb, ve, rfl, hx0, hof, hd, hx, hb⟩
  have P7 := Lib.hid (P6D.out.below hb)
  have X7 := Lib.hid (X6.out.drew_.below P6D.out.1 hb)
  have B7 : Hid (Below w.heap.size w w7) := Lib.hid (B6D.out.trans (hb.mono B6D.out.size))
  have HOF := Lib.hid hof
  have SD := Lib.hid (Safe.fresh P6D.out.1 hb (Nat.le_refl _) (cell_lt hd))
  have SX := Lib.hid (Safe.fresh P6D.out.1 hb hx0 (cell_lt hx))
  have HDc := Lib.hid hd
  have HXc := Lib.hid hx
  have HB67 : Hid (Below w6.heap.size w6.drew w7) := Lib.hid hb
  clear hof hd hx hb hx0
  (try dsimp only)
  refine hK.out _ _ (X7.out) (fun hHeld2 => ?_)
  clear hK K hHeld
  have hHeld := hHeld2
  clear hHeld2
  (try go_frame)
  refine rcons 9 rfl (by kernel_rfl) (fun K hK => ?_)
  go_simp
  refine (each_none_in none 0 _ _ _ w7).mono ?_
  rintro e w8 ⟨rfl, hb⟩
  have P8 := Lib.hid (P7.out.below hb)
  have X8 := Lib.hid (X7.out.below P7.out.1 hb)
  have HB8 := Lib.hid hb
  have HOF8 := Lib.hid (HOF.out.below hb)
  clear hb
  (try dsimp only)
  refine hK.out _ _ (X8.out) (fun hHeld2 => ?_)
  clear hK K hHeld
  have hHeld := hHeld2
  clear hHeld2
  (try go_frame)
  refine rcons 10 rfl (by kernel_rfl) (fun K hK => ?_)
  rw [if_pos]
  rotate_left
  focus kernel_rfl
  (refine wp_app_none _ _ rfl w6.drew.heap.size ve _ rfl HOF8.out rfl ?_)
  (try dsimp only)
  refine hK.out _ _ (X8.out) (fun hHeld2 => ?_)
  clear hK K hHeld
  have hHeld := hHeld2
  clear hHeld2
  (try go_frame)
  refine tky 11 (some 8) (v := ?_) rfl (by kernel_rfl) (by kernel_rfl) (by kernel_rfl) (fun _ _ _ h => h) ?_ hHeld ?_
  rotate_left
  focus (intro w hSw; (try dsimp only at hSw); go_simp; (try with_reducible rfl); done)
  go_frame
  refine wpAnyH_done (by kernel_rfl) ?_ _
  have z5 := X8.out.at_ 5
  clear hHeld
  go_wp2_with fail
  refine (each_none_fd none 0 _ _ _ w8).mono ?_
  rintro e w9 ⟨rfl, hb⟩
  have P9 := Lib.hid (P8.out.below hb)
  have X9 := Lib.hid (X8.out.below P8.out.1 hb)
  have B9 : Hid (Below w.heap.size w w9) := Lib.hid (B7.out.trans ((HB8.out.trans (hb.mono HB8.out.size)).mono B7.out.size))
  have HB9 : Hid (Below w7.heap.size w7 w9) := Lib.hid (HB8.out.trans (hb.mono HB8.out.size))
  have HOF9 := Lib.hid (HOF8.out.below hb)
  clear hb z5
  go_wp2_with (refine wpList_app_none rfl _ _ rfl w6.drew.heap.size ve _ rfl HOF9.out rfl ?_)
  obtain ⟨gb, gc, rfl, hg0, hg1, hg2⟩ := OwnF.one HOF9.out
  have hg0' : w6.heap.size ≤ gb := hg0
  have sB : Safe w1.heap.size gb w9 := Safe.fresh P6.out.1 (Below.trans (Below.drew (Below.refl _ _)) (HB67.out.trans (HB9.out.mono HB67.out.size))) hg0' hg1
  have sd : Safe w1.heap.size w6.drew.heap.size w9 := SD.out.keep (PKept.of_below (pr_lt P7.out.1) HB9.out) HB9.out.size
  have sx : Safe w1.heap.size xb w9 := SX.out.keep (PKept.of_below (pr_lt P7.out.1) HB9.out) HB9.out.size
  refine (between_one w1.heap.size gb 0 gc w6.drew.heap.size xb _ ⟨#[123]⟩ ⟨#[125]⟩ s w9 P9.out.1 (by simp) sB sd sx hg2 ((HB9.out.cell (p := ⟨w6.drew.heap.size, 0, none⟩) SD.out.1).trans HDc.out) ((HB9.out.cell (p := ⟨xb, 0, none⟩) SX.out.1).trans HXc.out)).mono ?_
  rintro e w10 ⟨rfl, h1, h2, h3⟩
  have P10 := Lib.hid (P9.out.then_ h1 h2 h3)
  have B10 : Hid (Below w.heap.size w w10) := Lib.hid (B9.out.trans (h2.mono hp0))
  clear h1 h2 h3 sB sd sx hg0 hg0' hg1 hg2
  go_wp2_with fail
  rw [rounds_succ]
  go_wp2_with fail
  refine (ptext_go w1.heap.size _ t _ P10.out.1 HS).mono ?_
  rintro e w11 ⟨rfl, hb⟩
  have HB := Lib.hid hb
  clear hb
  go_wp2_with fail
  go_ret2
  exact ⟨rfl, B10.out.trans (HB.out.mono B10.out.size)⟩
end Go.Proofs.YtfagaflgdlomiaaGreatDoor
namespace Go.Proofs.YtfagaflgdlomiaaGreatDoor
open Go.RowKit

/-- A number of 64 bits. -/
def R (n : Int) : Prop := -9223372036854775808 ≤ n ∧ n ≤ 9223372036854775807
/-- A number that may be, or 0. -/
def val (n : Int) : Int := if -9223372036854775808 ≤ n ∧ n ≤ 9223372036854775807 then n else 0
/-- The error's number. -/
def err (n : Int) : Int := if -9223372036854775808 ≤ n ∧ n ≤ 9223372036854775807 then 0 else 20
theorem val_in {n : Int} (h : R n) : val n = n := if_pos h
theorem err_in {n : Int} (h : R n) : err n = 0 := if_pos h
theorem err_out {n : Int} (h : ¬ R n) : err n = 20 := if_neg h
def far (n : Int) : Int := if n < 0 then -n else n
end Go.Proofs.YtfagaflgdlomiaaGreatDoor
namespace Go.Proofs.YtfagaflgdlomiaaGreatDoor
open Go.RowKit Go.Lib

def isDig (c : UInt8) : Bool := decide (48 ≤ c.toNat ∧ c.toNat ≤ 57)
def allDig (l : List UInt8) : Bool := l.all isDig
/-- Are they digits, one at least? -/
def digitsB (l : List UInt8) : Bool := l.all isDig && !l.isEmpty
/-- A digit's value. -/
def dv (c : UInt8) : Nat := c.toNat - 48
/-- The number of digits. -/
def numFrom (a : Nat) (l : List UInt8) : Nat := l.foldl (fun a c => a * 10 + dv c) a
def num (l : List UInt8) : Nat := numFrom 0 l
/-- Is there a sign? -/
def below (l : List UInt8) : Bool := match l with | c :: _ => c == 45 | [] => false
/-- What stands behind the sign. -/
def body (l : List UInt8) : List UInt8 := if below l then l.tail else l
/-- Digits without a nought ahead. -/
def okDigits (l : List UInt8) : Bool := digitsB l && !(l.head? == some 48 && decide (1 < l.length))
def signed (l : List UInt8) : Int := if below l then -(num (body l) : Int) else num (body l)
def rdV (l : List UInt8) : Int := if okDigits (body l) then val (signed l) else 0
def rdE (l : List UInt8) : Int := if okDigits (body l) then err (signed l) else 21
theorem numFrom_cons (a : Nat) (c : UInt8) (r : List UInt8) : numFrom a (c :: r) = numFrom (a * 10 + dv c) r := by unfold numFrom; rw [List.foldl_cons]
theorem numFrom_nil (a : Nat) : numFrom a [] = a := by unfold numFrom; rw [List.foldl_nil]
theorem num_one (c : UInt8) : num [c] = dv c := by rw [num, numFrom_cons, numFrom_nil]; omega
theorem numFrom_ge : ∀ (l : List UInt8) (a : Nat), a ≤ numFrom a l
  | [], a => by rw [numFrom_nil]; exact Nat.le_refl a
  | c :: r, a => by rw [numFrom_cons]; exact Nat.le_trans (by omega) (numFrom_ge r (a * 10 + dv c))
theorem numFrom_append (l m : List UInt8) : ∀ a, numFrom a (l ++ m) = numFrom (numFrom a l) m := by
  induction l with
  | nil => intro a; rw [List.nil_append, numFrom_nil]
  | cons c r ih => intro a; rw [List.cons_append, numFrom_cons, numFrom_cons]; exact ih _
theorem num_snoc (l : List UInt8) (c : UInt8) : num (l ++ [c]) = num l * 10 + dv c := by
  unfold num; rw [numFrom_append, numFrom_cons, numFrom_nil]
theorem numFrom_take_le (l : List UInt8) (k : Nat) : num (l.take k) ≤ num l := by
  have h := numFrom_ge (l.drop k) (num (l.take k))
  have e : num l = numFrom (num (l.take k)) (l.drop k) := by
    unfold num; rw [← numFrom_append, List.take_append_drop]
  rw [e]; exact h
theorem hasPrefix_dash (l : List UInt8) : Lib.hasPrefix l [45] = below l := by
  cases l with
  | nil => rfl
  | cons c r =>
    show ([45] : List UInt8).isPrefixOf (c :: r) = (c == 45)
    simp only [List.isPrefixOf, Bool.and_true]
    rw [Bool.eq_iff_iff]; simp only [beq_iff_eq]; exact eq_comm
theorem trimPrefix_dash (l : List UInt8) : Lib.trimPrefix l [45] = body l := by
  unfold Lib.trimPrefix body
  rw [hasPrefix_dash]
  cases l <;> rfl
theorem dig_iff (c : UInt8) : ([48, 49, 50, 51, 52, 53, 54, 55, 56, 57] : List UInt8).contains c = isDig c := by
  have h : ∀ n : Fin 256, ([48, 49, 50, 51, 52, 53, 54, 55, 56, 57] : List UInt8).contains (UInt8.ofNat n.val) = isDig (UInt8.ofNat n.val) := by decide +kernel
  have := h ⟨c.toNat, c.toNat_lt⟩
  simpa using this
theorem dropWhile_all {p : UInt8 → Bool} {l : List UInt8} (h : l.all p = true) : l.dropWhile p = [] := by
  induction l with
  | nil => rfl
  | cons c r ih =>
    simp only [List.all_cons, Bool.and_eq_true] at h
    rw [List.dropWhile_cons, if_pos h.1]; exact ih h.2
theorem all_of_dropWhile {p : UInt8 → Bool} {l : List UInt8} (h : l.dropWhile p = []) : l.all p = true := by
  induction l with
  | nil => rfl
  | cons c r ih =>
    rw [List.dropWhile_cons] at h
    split at h
    · rename_i hc
      simp only [List.all_cons, Bool.and_eq_true]
      exact ⟨hc, ih h⟩
    · cases h
theorem all_reverse (p : UInt8 → Bool) (l : List UInt8) : l.reverse.all p = l.all p := by simp
/-- 'strings.Trim(s, set) == ""': are all bytes in the set? -/
theorem trimS_nil (l cs : List UInt8) : Lib.trimS l cs = [] ↔ l.all (cs.contains ·) = true := by
  unfold Lib.trimS Lib.trimLeftS Lib.trimRightS
  constructor
  · intro h
    have h1 := all_of_dropWhile h
    rw [all_reverse] at h1
    -- what is left by the trimming from the right has a last byte outside the set, unless it is empty
    rw [← all_reverse]
    cases hd : (l.reverse.dropWhile (cs.contains ·)) with
    | nil => exact all_of_dropWhile hd
    | cons c r =>
      rw [hd] at h1
      have hc : ¬ cs.contains c = true := by
        have := List.head_dropWhile_not (p := (cs.contains ·)) (l := l.reverse) (by rw [hd]; simp)
        simp only [hd, List.head_cons] at this
        exact fun e => by rw [this] at e; cases e
      simp only [List.all_cons, Bool.and_eq_true] at h1
      exact absurd h1.1 hc
  · intro h
    rw [← all_reverse] at h
    rw [dropWhile_all h]; rfl
theorem trim_digits (l : List UInt8) : Lib.trimS l [48, 49, 50, 51, 52, 53, 54, 55, 56, 57] = [] ↔ l.all isDig = true := by
  rw [trimS_nil, show (([48, 49, 50, 51, 52, 53, 54, 55, 56, 57] : List UInt8).contains ·) = isDig from funext dig_iff]
theorem parseM_cons (M a : Nat) (c : UInt8) (r : List UInt8) (hc : 48 ≤ c.toNat ∧ c.toNat ≤ 57) : Lib.parseUintM M a (c :: r) =
    if 1844674407370955162 ≤ a then .range else if M < a * 10 + (c.toNat - 48) then .range else Lib.parseUintM M (a * 10 + (c.toNat - 48)) r := by
  simp only [Lib.parseUintM, hc, and_self, if_true]
theorem parse_digits (M : Nat) (hM : M ≤ 18446744073709551615) (l : List UInt8) : ∀ (a : Nat), l.all isDig = true → a ≤ M →
    Lib.parseUintM M a l = if numFrom a l ≤ M then .ok (numFrom a l) else .range := by
  induction l with
  | nil => intro a _ ha; rw [numFrom_nil, if_pos ha, Lib.parseUintM]
  | cons c r ih =>
    intro a h ha
    simp only [List.all_cons, Bool.and_eq_true] at h
    obtain ⟨hc, hr⟩ := h
    simp only [isDig, decide_eq_true_eq] at hc
    have hge := numFrom_ge r (a * 10 + dv c)
    rw [parseM_cons _ _ _ _ hc, numFrom_cons]
    rw [show c.toNat - 48 = dv c from rfl]
    by_cases h1 : 1844674407370955162 ≤ a
    · rw [if_pos h1, if_neg (by omega)]
    · rw [if_neg h1]
      by_cases h2 : M < a * 10 + dv c
      · rw [if_pos h2, if_neg (by omega)]
      · rw [if_neg h2]
        exact ih _ hr (by omega)
theorem most64 : 2 ^ 64 - 1 = 18446744073709551615 := by decide
theorem parse_ok (l : List UInt8) (h : digitsB l = true) (hn : num l ≤ 18446744073709551615) : Lib.parseUintB 64 l = .ok (num l) := by
  simp only [digitsB, Bool.and_eq_true, Bool.not_eq_true', List.isEmpty_eq_false_iff] at h
  unfold Lib.parseUintB
  rw [if_neg h.2, most64, parse_digits _ (Nat.le_refl _) l 0 h.1 (Nat.zero_le _), if_pos (show numFrom 0 l ≤ _ from hn)]; rfl
theorem parse_range (l : List UInt8) (h : digitsB l = true) (hn : ¬ num l ≤ 18446744073709551615) : Lib.parseUintB 64 l = .range := by
  simp only [digitsB, Bool.and_eq_true, Bool.not_eq_true', List.isEmpty_eq_false_iff] at h
  unfold Lib.parseUintB
  rw [if_neg h.2, most64, parse_digits _ (Nat.le_refl _) l 0 h.1 (Nat.zero_le _), if_neg (show ¬ numFrom 0 l ≤ _ from hn)]
theorem digit_nat {d : Nat} (h : d < 10) : (UInt8.ofNat (48 + d)).toNat = 48 + d := by
  rw [UInt8.toNat_ofNat']; omega
theorem dec_all (u : Nat) : (Lib.decDigits u).all isDig = true ∧ Lib.decDigits u ≠ [] ∧ num (Lib.decDigits u) = u := by
  induction u using Nat.strongRecOn with
  | _ u ih =>
    rw [Lib.decDigits]
    by_cases h : u < 10
    · rw [dif_pos h]
      refine ⟨?_, by simp, ?_⟩
      · simp only [List.all_cons, List.all_nil, isDig, digit_nat h, Bool.and_true, decide_eq_true_eq]; omega
      · rw [num_one, dv, digit_nat h]; omega
    · rw [dif_neg h]
      obtain ⟨h1, h2, h3⟩ := ih (u / 10) (by omega)
      refine ⟨?_, by simp, ?_⟩
      · rw [List.all_append, h1]
        simp only [List.all_cons, List.all_nil, isDig, digit_nat (Nat.mod_lt u (by decide : 10 > 0)), Bool.and_true, Bool.true_and, decide_eq_true_eq]; omega
      · rw [num_snoc, h3, dv, digit_nat (Nat.mod_lt u (by decide : 10 > 0))]; omega
theorem dec_head (u : Nat) (h : 0 < u) : (Lib.decDigits u).head? ≠ some 48 := by
  induction u using Nat.strongRecOn with
  | _ u ih =>
    rw [Lib.decDigits]
    by_cases hu : u < 10
    · rw [dif_pos hu]
      simp only [List.head?_cons, ne_eq, Option.some.injEq]
      intro e
      have := congrArg UInt8.toNat e
      rw [digit_nat hu] at this
      simp at this; omega
    · rw [dif_neg hu, List.head?_append]
      have h1 := ih (u / 10) (by omega) (by omega)
      have h2 := (dec_all (u / 10)).2.1
      cases hd : Lib.decDigits (u / 10) with
      | nil => exact absurd hd h2
      | cons c r => rw [hd] at h1; simpa using h1
theorem dec_ok (u : Nat) : okDigits (Lib.decDigits u) = true := by
  obtain ⟨h1, h2, _⟩ := dec_all u
  unfold okDigits digitsB
  rw [h1]
  have : (Lib.decDigits u).isEmpty = false := by simpa using h2
  rw [this]
  by_cases h : 0 < u
  · have := dec_head u h
    simp [this]
  · obtain rfl : u = 0 := by omega
    decide +kernel
theorem dec_notdash (u : Nat) : below (Lib.decDigits u) = false := by
  obtain ⟨h1, h2, _⟩ := dec_all u
  cases hd : Lib.decDigits u with
  | nil => rfl
  | cons c r =>
    rw [hd] at h1
    simp only [List.all_cons, Bool.and_eq_true, isDig, decide_eq_true_eq] at h1
    show (c == 45) = false
    rw [beq_eq_false_iff_ne]
    rintro rfl
    exact absurd h1.1.1 (by decide)
theorem read_itoa (n : Int) : okDigits (body (Lib.itoa n)) = true ∧ signed (Lib.itoa n) = n := by
  unfold Lib.itoa
  by_cases h : n < 0
  · rw [if_pos h]
    have hb : below (45 :: Lib.decDigits n.natAbs) = true := rfl
    have e : body (45 :: Lib.decDigits n.natAbs) = Lib.decDigits n.natAbs := by unfold body; rw [hb]; rfl
    refine ⟨by rw [e]; exact dec_ok _, ?_⟩
    unfold signed
    rw [hb, e, (dec_all _).2.2]
    simp only [if_true]; omega
  · rw [if_neg h]
    have hb := dec_notdash n.toNat
    have e : body (Lib.decDigits n.toNat) = Lib.decDigits n.toNat := by unfold body; rw [hb]; rfl
    refine ⟨by rw [e]; exact dec_ok _, ?_⟩
    unfold signed
    rw [hb, e, (dec_all _).2.2]
    simp only [Bool.false_eq_true, if_false]; omega
theorem rdV_itoa (n : Int) (h : R n) : rdV (Lib.itoa n) = n := by
  obtain ⟨h1, h2⟩ := read_itoa n
  unfold rdV; rw [if_pos h1, h2, val_in h]
theorem rdE_itoa (n : Int) (h : R n) : rdE (Lib.itoa n) = 0 := by
  obtain ⟨h1, h2⟩ := read_itoa n
  unfold rdE; rw [if_pos h1, h2, err_in h]
theorem ok_dec : ∀ (n : Nat) (l : List UInt8), l.length = n → okDigits l = true → Lib.decDigits (num l) = l ∧ (1 < l.length → 10 ≤ num l) := by
  intro n
  induction n with
  | zero => intro l hl h; rw [List.length_eq_zero_iff.1 hl] at h; exact absurd h (by decide)
  | succ n ih =>
    intro l hl h
    have hne : l ≠ [] := by intro e; rw [e] at hl; simp at hl
    obtain ⟨m, c, rfl⟩ : ∃ m c, l = m ++ [c] := ⟨l.dropLast, l.getLast hne, (List.dropLast_concat_getLast hne).symm⟩
    simp only [okDigits, digitsB, Bool.and_eq_true, List.all_append, List.all_cons, List.all_nil, Bool.and_true] at h
    obtain ⟨⟨⟨hm, hc⟩, _⟩, hz⟩ := h
    simp only [isDig, decide_eq_true_eq] at hc
    have hml : m.length = n := by simpa using hl
    by_cases hm0 : m = []
    · subst hm0
      have e : num ([] ++ [c]) = c.toNat - 48 := num_one c
      rw [e]
      refine ⟨?_, fun h1 => by simp at h1⟩
      rw [Lib.decDigits_one (by omega)]
      simp only [List.nil_append, List.cons.injEq, and_true]
      apply UInt8.toNat_inj.1
      rw [digit_nat (by omega)]; omega
    · have hh : (m ++ [c]).head? = m.head? := by cases m with
        | nil => exact absurd rfl hm0
        | cons a r => rfl
      have hlen : 1 < (m ++ [c]).length := by
        have : 0 < m.length := List.length_pos_iff.2 hm0
        simp; omega
      rw [hh] at hz
      simp only [decide_eq_true hlen, Bool.and_true, Bool.not_eq_true', beq_eq_false_iff_ne, ne_eq] at hz
      have hmok : okDigits m = true := by
        simp only [okDigits, digitsB, hm, Bool.true_and, Bool.and_eq_true, Bool.not_eq_true']
        refine ⟨by simpa using hm0, ?_⟩
        have : (m.head? == some 48) = false := by rw [beq_eq_false_iff_ne]; exact hz
        rw [this]; rfl
      obtain ⟨h1, h2⟩ := ih m hml hmok
      have hpos : 1 ≤ num m := by
        by_cases h1l : 1 < m.length
        · have := h2 h1l; omega
        · have hl1 : m.length = 1 := by have : 0 < m.length := List.length_pos_iff.2 hm0; omega
          obtain ⟨a, rfl⟩ := List.length_eq_one_iff.1 hl1
          simp only [List.all_cons, List.all_nil, Bool.and_true, isDig, decide_eq_true_eq] at hm
          have ha : a.toNat ≠ 48 := by
            intro e
            apply hz
            simp only [List.head?_cons, Option.some.injEq]
            exact UInt8.toNat_inj.1 (by rw [e]; rfl)
          rw [num_one, dv]; omega
      rw [num_snoc, show dv c = c.toNat - 48 from rfl]
      refine ⟨?_, fun _ => by omega⟩
      rw [Lib.decDigits, dif_neg (by omega), show (num m * 10 + (c.toNat - 48)) / 10 = num m by omega, h1, show (num m * 10 + (c.toNat - 48)) % 10 = c.toNat - 48 by omega]
      congr 1
      simp only [List.cons.injEq, and_true]
      apply UInt8.toNat_inj.1
      rw [digit_nat (by omega)]; omega
/-- WHAT IS READ IS WRITTEN AS THE SAME DIGITS, but -0. -/
theorem itoa_read (l : List UInt8) (h : rdE l = 0) : Lib.itoa (rdV l) = l ∨ (l = [45, 48] ∧ rdV l = 0) := by
  unfold rdE at h
  split at h
  · rename_i hok
    have hR : R (signed l) := by
      by_cases hr : R (signed l)
      · exact hr
      · rw [err_out hr] at h; cases h
    unfold rdV
    rw [if_pos hok, val_in hR]
    obtain ⟨h1, h2⟩ := ok_dec _ _ rfl hok
    unfold signed
    cases hb : below l with
    | false =>
      have e : body l = l := by unfold body; rw [hb]; rfl
      rw [e] at h1 ⊢
      left
      simp only [Bool.false_eq_true, if_false]
      rw [Lib.itoa_nonneg, h1]
    | true =>
      have e : l = 45 :: body l := by
        cases l with
        | nil => cases hb
        | cons c r =>
          have : c = 45 := by simpa [below] using hb
          subst this
          unfold body; rw [hb]; rfl
      simp only [if_true]
      by_cases hz : num (body l) = 0
      · right
        have hb2 : body l = [48] := by rw [← h1, hz]; decide +kernel
        rw [hz]
        exact ⟨by rw [e, hb2], rfl⟩
      · left
        rw [Lib.itoa_neg _ (by omega), h1, ← e]
  · cases h
end Go.Proofs.YtfagaflgdlomiaaGreatDoor
namespace Go.Proofs.YtfagaflgdlomiaaGreatDoor
open Go.RowKit
theorem retS {a c : List UInt8} (h : a = c) : Ending.returned (.string ⟨a.toArray⟩) = .returned (.string ⟨c.toArray⟩) := by rw [h]
theorem take_snoc (s : ByteArray) (k : Nat) (h : k < s.size) : s.data.toList.take (k + 1) = s.data.toList.take k ++ [s[k]] := by
  rw [List.take_succ_eq_append_getElem (by simpa using h)]; rfl
theorem all_take_snoc (s : ByteArray) (k : Nat) (h : k < s.size) : (s.data.toList.take (k + 1)).all isDig = ((s.data.toList.take k).all isDig && isDig s[k]) := by
  rw [take_snoc s k h]; simp
theorem all_of_take (l : List UInt8) (k : Nat) (h : (l.take k).all isDig = false) : l.all isDig = false := by
  cases hl : l.all isDig with
  | false => rfl
  | true =>
    rw [List.all_eq_true] at hl
    have : (l.take k).all isDig = true := List.all_eq_true.2 fun x hx => hl x (List.mem_of_mem_take hx)
    rw [this] at h; cases h
theorem dig_of (c : UInt8) : isDig c = true ↔ 48 ≤ (c.toNat : Int) ∧ (c.toNat : Int) ≤ 57 := by
  unfold isDig; rw [decide_eq_true_eq]; omega
theorem dig_not {c : UInt8} (h : ¬ isDig c = true) : (c.toNat : Int) < 48 ∨ 57 < (c.toNat : Int) := by
  rw [dig_of] at h; omega
theorem itoa_small (n : Int) (h0 : 0 ≤ n) (h1 : n < 10) : Lib.itoa n = [UInt8.ofNat (48 + n.toNat)] := by
  obtain ⟨u, rfl⟩ := Int.eq_ofNat_of_zero_le h0
  rw [Lib.itoa_nonneg, Lib.decDigits_one (by omega)]; rfl
theorem itoa_minus (n : Int) (h : n < 0) : Lib.itoa n = 45 :: Lib.itoa (-n) := by
  obtain ⟨u, hu⟩ := Int.eq_ofNat_of_zero_le (show 0 ≤ -n by omega)
  rw [hu, Lib.itoa_nonneg, show n = -(u : Int) by omega, Lib.itoa_neg _ (by omega)]
theorem itoa_pos (n : Int) (h : 10 ≤ n) : Lib.itoa n = Lib.itoa (n / 10) ++ Lib.itoa (n % 10) := by
  obtain ⟨u, rfl⟩ := Int.eq_ofNat_of_zero_le (show 0 ≤ n by omega)
  rw [show (u : Int) / 10 = ((u / 10 : Nat) : Int) by omega, show (u : Int) % 10 = ((u % 10 : Nat) : Int) by omega, Lib.itoa_nonneg, Lib.itoa_nonneg, Lib.itoa_nonneg, Lib.decDigits, dif_neg (by omega), Lib.decDigits_one (Nat.mod_lt _ (by decide))]
theorem itoa_neg10 (n d : Int) (h : n ≤ -10) (hd : d = (-n) % 10) : Lib.itoa n = Lib.itoa (-((-n) / 10)) ++ Lib.itoa d := by
  rw [itoa_minus n (by omega), itoa_minus (-((-n) / 10)) (by omega), hd, Int.neg_neg, List.cons_append, ← itoa_pos (-n) (by omega)]
theorem tdiv10 (n : Int) (h : n < 0) : n.tdiv 10 = -((-n) / 10) := by
  rw [← Int.tdiv_eq_ediv_of_nonneg (by omega), Int.neg_tdiv, Int.neg_neg]
theorem tmod10 (n : Int) (h : n < 0) : n.tmod 10 = -((-n) % 10) := by
  rw [← Int.tmod_eq_emod_of_nonneg (by omega), Int.neg_tmod, Int.neg_neg]
theorem one_digit_fin : ∀ i : Fin 10, (⟨#[48, 49, 50, 51, 52, 53, 54, 55, 56, 57]⟩ : ByteArray).extract i.val (i.val + 1) = ⟨[UInt8.ofNat (48 + i.val)].toArray⟩ := by decide +kernel
theorem one_digit (n : Int) (h0 : 0 ≤ n) (h1 : n < 10) : (⟨#[48, 49, 50, 51, 52, 53, 54, 55, 56, 57]⟩ : ByteArray).extract n.toNat (n + 1).toNat = ⟨(Lib.itoa n).toArray⟩ := by
  rw [itoa_small n h0 h1, show (n + 1).toNat = n.toNat + 1 by omega]
  exact one_digit_fin ⟨n.toNat, by omega⟩
theorem retB {a c : ByteArray} (h : a = c) : Ending.returned (.string a) = .returned (.string c) := by rw [h]
theorem len_itoa {n : Int} (h : R n) : (Lib.itoa n).length ≤ 21 := Lib.itoa_length_le n h.1 h.2
theorem cat (a b : List UInt8) : (⟨a.toArray⟩ : ByteArray) ++ ⟨b.toArray⟩ = ⟨(a ++ b).toArray⟩ := by
  apply ByteArray.ext; simp
/-- So far: the number of the first digits, by its sign. -/
def part (b : Bool) (l : List UInt8) (k : Nat) : Int := if b then -(num (l.take k) : Int) else num (l.take k)
theorem part_all (b : Bool) (l : List UInt8) (k : Nat) (h : l.length ≤ k) : part b l k = if b then -(num l : Int) else num l := by
  unfold part; rw [List.take_of_length_le h]
theorem part_zero (b : Bool) (l : List UInt8) : R (part b l 0) := by
  have e : part b l 0 = 0 := by cases b <;> rfl
  rw [e]; unfold R; omega
theorem part_false_sign (l : List UInt8) (k : Nat) : 0 ≤ part false l k := by unfold part; simp
theorem part_true_sign (l : List UInt8) (k : Nat) : part true l k ≤ 0 := by unfold part; simp
theorem part_false_step (s : ByteArray) (k : Nat) (h : k < s.size) (h0 : 48 ≤ (s[k].toNat : Int)) : part false s.data.toList (k + 1) = part false s.data.toList k * 10 + ((s[k].toNat : Int) - 48) := by
  unfold part; rw [take_snoc s k h, num_snoc, dv]
  have : 48 ≤ s[k].toNat := by omega
  simp; omega
theorem part_true_step (s : ByteArray) (k : Nat) (h : k < s.size) (h0 : 48 ≤ (s[k].toNat : Int)) : part true s.data.toList (k + 1) = part true s.data.toList k * 10 + -((s[k].toNat : Int) - 48) := by
  unfold part; rw [take_snoc s k h, num_snoc, dv]
  have : 48 ≤ s[k].toNat := by omega
  simp; omega
theorem part_le (l : List UInt8) (k : Nat) : (num (l.take k) : Int) ≤ num l := Int.ofNat_le.2 (numFrom_take_le l k)
/-- Once it has run over, it has run over to the end. -/
theorem part_over (b : Bool) (l : List UInt8) (k : Nat) (h : ¬ R (part b l k)) : ¬ R (if b then -(num l : Int) else num l) := by
  have := part_le l k
  unfold part R at *
  cases b <;> simp at * <;> omega
theorem all_at (s : ByteArray) (k : Nat) (h : k < s.size) (ha : digitsB s.data.toList = true) : 48 ≤ (s[k].toNat : Int) ∧ (s[k].toNat : Int) ≤ 57 := by
  simp only [digitsB, Bool.and_eq_true] at ha
  have := List.all_eq_true.1 ha.1 s[k] (by rw [show s[k] = s.data.toList[k]'(by simpa using h) from by simp; rfl]; exact List.getElem_mem _)
  exact (dig_of _).1 this
theorem size_pos_of (s : ByteArray) (h : digitsB s.data.toList = true) : 0 < s.size := by
  simp only [digitsB, Bool.and_eq_true, Bool.not_eq_true', List.isEmpty_eq_false_iff] at h
  rcases Nat.eq_zero_or_pos s.size with h0 | h0
  · exact absurd (List.eq_nil_of_length_eq_zero (by simpa using h0)) h.2
  · exact h0
theorem head_zero (s : ByteArray) (h : 0 < s.size) : (s.data.toList.head? == some 48) = ((s[0].toNat : Int) == 48) := by
  have e : s.data.toList.head? = some s[0] := by
    rw [List.head?_eq_getElem?, List.getElem?_eq_getElem (by simpa using h)]; rfl
  rw [e, Bool.eq_iff_iff]
  simp only [beq_iff_eq, Option.some.injEq]
  constructor
  · intro q; rw [q]; rfl
  · intro q; exact UInt8.toNat_inj.1 (by have : (48 : UInt8).toNat = 48 := rfl; omega)
theorem below_eq (s : ByteArray) (h : 0 < s.size) : below s.data.toList = ((s[0].toNat : Int) == 45) := by
  obtain ⟨c, r, hl⟩ : ∃ c r, s.data.toList = c :: r := by
    cases hl : s.data.toList with
    | nil => have h2 : s.data.toList.length = 0 := by rw [hl]; rfl
             rw [Array.length_toList] at h2; change 0 < s.data.size at h; omega
    | cons c r => exact ⟨c, r, rfl⟩
  have e : s[0] = c := by
    have : s.data.toList[0]? = some s[0] := by rw [List.getElem?_eq_getElem (by simpa using h)]; rfl
    rw [hl] at this; simpa using this.symm
  rw [hl, e, Bool.eq_iff_iff]
  simp only [below, beq_iff_eq]
  constructor
  · intro q; rw [q]; rfl
  · intro q; exact UInt8.toNat_inj.1 (by have : (45 : UInt8).toNat = 45 := rfl; omega)
theorem ok_size (s : ByteArray) (h : digitsB s.data.toList = true) (hp : 0 < s.size) (hz : (s[0].toNat : Int) = 48 → s.size ≤ 1) : okDigits s.data.toList = true := by
  unfold okDigits
  rw [h, head_zero s hp]
  by_cases h0 : (s[0].toNat : Int) = 48
  · have := hz h0
    have hl : decide (1 < s.data.toList.length) = false := by rw [Array.length_toList]; exact decide_eq_false (by change ¬ 1 < s.size; omega)
    rw [hl]; simp
  · have : ((s[0].toNat : Int) == 48) = false := by simpa using h0
    rw [this]; rfl
theorem not_ok_zero (s : ByteArray) (hp : 0 < s.size) (hz : (s[0].toNat : Int) = 48) (h1 : 1 < s.size) : okDigits s.data.toList = false := by
  unfold okDigits
  rw [head_zero s hp, hz]
  have hl : decide (1 < s.data.toList.length) = true := by rw [Array.length_toList]; exact decide_eq_true h1
  rw [hl]; simp
theorem not_ok_dig (l : List UInt8) (h : digitsB l = false) : okDigits l = false := by unfold okDigits; rw [h]; rfl
end Go.Proofs.YtfagaflgdlomiaaGreatDoor
namespace Go.Proofs.YtfagaflgdlomiaaGreatDoor
open Go.Lib
def nameC (c : UInt8) : Bool := decide ((97 ≤ c.toNat ∧ c.toNat ≤ 122) ∨ (65 ≤ c.toNat ∧ c.toNat ≤ 90) ∨ c.toNat = 95 ∨ (48 ≤ c.toNat ∧ c.toNat ≤ 57))
/-- Is a text a name? -/
def nameB : List UInt8 → Bool
  | [] => false
  | c :: r => !isDig c && (c :: r).all nameC
def marksL : List UInt8 := [33, 36, 38, 40, 41, 58, 61, 64, 91, 93, 123, 124, 125]
def markB (l : List UInt8) : Bool := l == [46, 46, 46] || (match l with | [c] => marksL.contains c | _ => false)
def textB (l : List UInt8) : Bool := decide (l.length ≤ 16384) && validD l
/-- A token: its kind, its text, where it stood. -/
structure Tok where
  kind : UInt8
  text : List UInt8
  pos : Int
/-- May a token be? -/
def okT (t : Tok) : Bool :=
  if t.kind = 0 then t.text.isEmpty else if t.kind = 1 then nameB t.text else if t.kind = 2 then okDigits (body t.text) else if t.kind = 3 then textB t.text else if t.kind = 4 then markB t.text else false
def hexD (n : Nat) : UInt8 := if n < 10 then UInt8.ofNat (48 + n) else UInt8.ofNat (87 + n)
def quoteC (c : UInt8) : List UInt8 :=
  if c = 34 ∨ c = 92 then [92, c] else if c = 8 then [92, 98] else if c = 9 then [92, 116] else if c = 10 then [92, 110] else if c = 12 then [92, 102] else if c = 13 then [92, 114]
  else if c.toNat < 32 then [92, 117, 48, 48, hexD (c.toNat / 16), hexD (c.toNat % 16)] else [c]
/-- A text, quoted. -/
def quoteL (l : List UInt8) : List UInt8 := [34] ++ l.flatMap quoteC ++ [34]
def tellT (t : Tok) : List UInt8 := if t.kind = 3 then quoteL t.text else t.text
/-- May tokens be joined? -/
def okTs : List Tok → Bool
  | [] => true
  | [t] => okT t
  | t :: r => okT t && !(t.kind == 0) && okTs r
/-- Their text: the first, and each other one behind a blank (the end has none). -/
def restT : List Tok → List UInt8
  | [] => []
  | t :: r => (if t.kind = 0 then [] else [32]) ++ tellT t ++ restT r
def joinT : List Tok → List UInt8
  | [] => []
  | t :: r => tellT t ++ restT r
/-- Their words: none for the end. -/
def wordsT : List Tok → List (List UInt8)
  | [] => []
  | t :: r => if t.kind = 0 then wordsT r else tellT t :: wordsT r
def joinW : List (List UInt8) → List UInt8
  | [] => []
  | [x] => x
  | x :: y :: r => x ++ [32] ++ joinW (y :: r)
theorem joinW_cons (x : List UInt8) (r : List (List UInt8)) : joinW (x :: r) = x ++ (r.flatMap fun y => 32 :: y) := by
  induction r generalizing x with
  | nil => simp [joinW]
  | cons y r ih => rw [joinW, ih, List.flatMap_cons]; simp
theorem rest_words : ∀ L : List Tok, okTs L = true → restT L = (wordsT L).flatMap fun y => 32 :: y
  | [], _ => rfl
  | [t], h => by
    unfold restT wordsT
    by_cases hk : t.kind = 0
    · rw [if_pos hk, if_pos hk]
      have h' : okT t = true := h
      unfold okT at h'
      rw [if_pos hk] at h'
      have : t.text = [] := List.isEmpty_iff.1 h'
      unfold tellT restT wordsT
      rw [if_neg (by rw [hk]; decide), this]; rfl
    · rw [if_neg hk, if_neg hk]
      simp [restT, wordsT]
  | t :: u :: r, h => by
    have h' : (okT t && !(t.kind == 0) && okTs (u :: r)) = true := by simpa [okTs] using h
    simp only [Bool.and_eq_true, Bool.not_eq_true', beq_eq_false_iff_ne] at h'
    obtain ⟨⟨h1, h2⟩, h3⟩ := h'
    rw [restT, wordsT, if_neg h2, if_neg h2, rest_words (u :: r) h3, List.flatMap_cons]
    simp
theorem join_words (L : List Tok) (h : okTs L = true) : joinT L = joinW (wordsT L) := by
  cases L with
  | nil => rfl
  | cons t r =>
    by_cases hk : t.kind = 0
    · have hr : r = [] := by
        cases r with
        | nil => rfl
        | cons u r =>
          have h' : (okT t && !(t.kind == 0) && okTs (u :: r)) = true := by simpa [okTs] using h
          simp [hk] at h'
      subst hr
      have := rest_words [t] h
      rw [joinT, wordsT, if_pos hk]
      have h' : okT t = true := h
      unfold okT at h'
      rw [if_pos hk] at h'
      have ht : t.text = [] := List.isEmpty_iff.1 h'
      unfold tellT restT wordsT
      rw [if_neg (by rw [hk]; decide), ht]; rfl
    · rw [joinT, wordsT, if_neg hk, joinW_cons]
      congr 1
      cases r with
      | nil => rfl
      | cons u r =>
        have h' : (okT t && !(t.kind == 0) && okTs (u :: r)) = true := by simpa [okTs] using h
        simp only [Bool.and_eq_true] at h'
        exact rest_words (u :: r) h'.2
end Go.Proofs.YtfagaflgdlomiaaGreatDoor
namespace Go.Proofs.YtfagaflgdlomiaaGreatDoor
open Go.RowKit
theorem ib_cases (c : UInt8) : ∀ l : List UInt8, (l.contains c = true ∧ ∃ k : Nat, Lib.indexByte l c = k) ∨ (l.contains c = false ∧ Lib.indexByte l c = -1)
  | [] => Or.inr ⟨rfl, rfl⟩
  | b :: l => by
    rw [Lib.indexByte, List.contains_cons]
    by_cases hb : b = c
    · left; subst hb; exact ⟨by simp, 0, by simp⟩
    · have h1 : (b == c) = false := by simpa using hb
      have h2 : (c == b) = false := by simpa using fun e => hb e.symm
      rw [h1, h2, Bool.false_or]
      rcases ib_cases c l with ⟨g1, k, g2⟩ | ⟨g1, g2⟩
      · left
        refine ⟨g1, k + 1, ?_⟩
        rw [g2]
        have : (((k : Int)) == -1) = false := by rw [beq_eq_false_iff_ne]; omega
        simp only [Bool.false_eq_true, if_false, this]; omega
      · right
        refine ⟨g1, ?_⟩
        rw [g2]; rfl
theorem len_z (s : ByteArray) : s.data.toList.length = s.size := by rw [Array.length_toList]; rfl
theorem empty_z (s : ByteArray) : (0 < s.size ∧ ¬ s.toList = [] ∧ s.toList.isEmpty = false ∧ s.data.toList ≠ []) ∨ (s.size = 0 ∧ s.toList = [] ∧ s.toList.isEmpty = true ∧ s.data.toList = []) := by
  rw [ByteArray.toList_eq]
  have := len_z s
  cases h : s.data.toList with
  | nil => right; rw [h] at this; exact ⟨this.symm, rfl, rfl, rfl⟩
  | cons c r => left; rw [h] at this; exact ⟨by simp at this; omega, by simp, rfl, by simp⟩
def nameMs : List UInt8 := [95, 97, 98, 99, 100, 101, 102, 103, 104, 105, 106, 107, 108, 109, 110, 111, 112, 113, 114, 115, 116, 117, 118, 119, 120, 121, 122, 65, 66, 67, 68, 69, 70, 71, 72, 73, 74, 75, 76, 77, 78, 79, 80, 81, 82, 83, 84, 85, 86, 87, 88, 89, 90, 48, 49, 50, 51, 52, 53, 54, 55, 56, 57]
theorem all256' {f : UInt8 → Bool} (h : ∀ i : Fin 256, f (UInt8.ofNat i.val) = true) (c : UInt8) : f c = true := by
  have := h ⟨c.toNat, UInt8.toNat_lt c⟩
  simpa using this
theorem name_ms (c : UInt8) : nameMs.contains c = nameC c := by
  have := all256' (f := fun c => nameMs.contains c == nameC c) (by decide +kernel) c
  simpa using this
theorem head_z (s : ByteArray) (h : 0 < s.size) : s.data.toList = s[0] :: s.data.toList.drop 1 := by
  have := drop_at s 0 h
  rwa [List.drop_zero] at this
theorem ib_dig (c : UInt8) : Lib.indexByte (⟨#[48, 49, 50, 51, 52, 53, 54, 55, 56, 57]⟩ : ByteArray).data.toList c = if isDig c then ((c.toNat - 48 : Nat) : Int) else -1 := by
  have := all256' (f := fun c => Lib.indexByte (⟨#[48, 49, 50, 51, 52, 53, 54, 55, 56, 57]⟩ : ByteArray).data.toList c == if isDig c then ((c.toNat - 48 : Nat) : Int) else -1) (by decide +kernel) c
  simpa using this
theorem bytes_ext' {a : ByteArray} {l : List UInt8} (h : a.data.toList = l) : a = ⟨l.toArray⟩ := by
  obtain ⟨d⟩ := a
  have : d = l.toArray := by apply Array.ext'; simpa using h
  rw [this]
end Go.Proofs.YtfagaflgdlomiaaGreatDoor
namespace Go.Proofs.YtfagaflgdlomiaaGreatDoor
open Go.RowKit
theorem ix_indexByteString_run (s : ByteArray) (c : Int) (w : World) :
    (callFunc 98 #[.string s, .int .u8 c]).run Tryz.prog w = .ok (.value (.int .i64 (Lib.indexByte s.data.toList c.toNat.toUInt8))) w := by
  rw [run_callFunc_extern Tryz.func98 (by kernel_rfl) (by kernel_rfl) (by kernel_rfl) (e := Extern.BytealgIndexByte.indexByte) (by kernel_rfl), Lib.run_indexByteString]
  rfl
theorem ix_slIndexByte_any (s : ByteArray) (c : Int) (w : World) :
    Calls Tryz.prog 82 #[.string s, .int .u8 c] w fun e w' => e = .returned (.int .i64 (Lib.indexByte s.data.toList c.toNat.toUInt8)) ∧ w = w' := by
  have h := ix_indexByteString_run s c
  generalize Lib.indexByte s.data.toList c.toNat.toUInt8 = r at *
  go_enter Tryz.func82, Tryz.ntmps82
  go_wp2_with fail
  go_ret
  exact ⟨rfl, rfl⟩
theorem ix_index_one (s : ByteArray) (c : UInt8) (w : World) :
    Calls Tryz.prog 110 #[.string s, .string ⟨#[c]⟩] w fun e w' => e = .returned (.int .i64 (Lib.indexByte s.data.toList c)) ∧ w = w' := by
  by_cases h : s.data.toList = [c]
  · have hs : s = ⟨#[c]⟩ := by
      obtain ⟨d⟩ := s
      have : d = #[c] := by apply Array.ext'; simpa using h
      rw [this]
    subst hs
    have e : Lib.indexByte (⟨#[c]⟩ : ByteArray).data.toList c = 0 := by rw [h]; simp [Lib.indexByte]
    rw [e]
    go_enter Tryz.func110, Tryz.ntmps110
    go_wp2_with fail
    go_ret
    exact ⟨rfl, rfl⟩
  · have hb : ([c] == s.toList) = false := by
      rw [beq_eq_false_iff_ne, ByteArray.toList_eq]; exact fun e => h e.symm
    have H := Lib.hid (fun w => ix_slIndexByte_any s (c.toNat : Int) w)
    rw [show ((c.toNat : Int)).toNat.toUInt8 = c by simp] at H
    clear h
    go_enter Tryz.func110, Tryz.ntmps110
    go_wp2_with fail
    refine (H.out _).mono ?_; rintro e w1 ⟨rfl, rfl⟩
    go_wp2_with fail
    go_ret
    exact ⟨rfl, rfl⟩
theorem ix_sindex (s : ByteArray) (c : UInt8) (w : World) :
    Calls Tryz.prog 102 #[.string s, .string ⟨#[c]⟩] w fun e w' => e = .returned (.int .i64 (Lib.indexByte s.data.toList c)) ∧ w = w' := by
  have H := Lib.hid (fun w => ix_index_one s c w)
  generalize Lib.indexByte s.data.toList c = r at *
  go_enter Tryz.func102, Tryz.ntmps102
  go_wp2_with fail
  refine (H.out _).mono ?_; rintro e w1 ⟨rfl, rfl⟩
  go_wp2_with fail
  go_ret
  exact ⟨rfl, rfl⟩
theorem ix_contains (s : ByteArray) (c : UInt8) (w : World) :
    Calls Tryz.prog 89 #[.string s, .string ⟨#[c]⟩] w fun e w' => e = .returned (.bool (s.data.toList.contains c)) ∧ w = w' := by
  have H := fun w => ix_sindex s c w
  rcases ib_cases c s.data.toList with ⟨g1, n, g2⟩ | ⟨g1, g2⟩
  all_goals
    rw [g1]
    rw [g2] at H
    have HI := Lib.hid H
    clear H g1 g2
    go_enter Tryz.func89, Tryz.ntmps89
    go_wp2_with fail
    refine (HI.out _).mono ?_; rintro e w1 ⟨rfl, rfl⟩
    go_wp2_with fail
    go_ret
    first | exact ⟨rfl, rfl⟩ | exact ⟨ret_b (decide_eq_true (p := (0 : Int) ≤ n) (by omega)), rfl⟩
end Go.Proofs.YtfagaflgdlomiaaGreatDoor
namespace Go.Proofs.YtfagaflgdlomiaaGreatDoor
open Go.RowKit
def fr (ms l : List UInt8) : List UInt8 := l.takeWhile (ms.contains ·)
theorem fr_take (ms l : List UInt8) : l.take (fr ms l).length = fr ms l := by
  unfold fr
  induction l with
  | nil => rfl
  | cons a l ih =>
    rw [List.takeWhile_cons]
    split
    · simp only [List.length_cons, List.take_succ_cons]; rw [ih]
    · rfl
set_option maxRecDepth 100000 in
set_option maxHeartbeats 1000000 in
theorem front_any (s ms : ByteArray) (hs : s.size ≤ 1000000) (w : World) :
    Calls Tryz.prog 58 #[.string s, .string ms] w fun e w' => e = .returned (.string ⟨(fr ms.data.toList s.data.toList).toArray⟩) ∧ w = w' := by
  obtain ⟨R, hR⟩ : ∃ R, (fr ms.data.toList s.data.toList).length = R := ⟨_, rfl⟩
  have ht := fr_take ms.data.toList s.data.toList
  rw [hR] at ht
  have HT := Lib.hid ht
  have HR : Hid (0 + (fr ms.data.toList (s.data.toList.drop 0)).length = R) := Lib.hid (by rw [List.drop_zero, Nat.zero_add]; exact hR)
  rw [← ht]
  clear hR ht
  go_enter Tryz.func58, Tryz.ntmps58
  go_wp2_with fail
  go_loop [8] (fun i => ∃ k : Nat, k ≤ s.size ∧ i = .int .i64 k ∧ Hid (k + (fr ms.data.toList (s.data.toList.drop k)).length = R)) (fun i => s.size - (intOf i).toNat)
  case atStart => exact ⟨0, Nat.zero_le _, rfl, HR⟩
  case round =>
    obtain ⟨k, hk, rfl, HK⟩ := hrel
    by_cases hlt : k < s.size
    · have hd := drop_at s k hlt
      have H1 : ∀ w, Calls Tryz.prog 57 #[.string ms, .int .u8 (s[k].toNat : Int)] w fun e w' => e = .returned (.int .i64 (Lib.indexByte ms.data.toList s[k])) ∧ w = w' := fun w => by
        have := Tryz.strings_IndexByte ms (s[k].toNat : Int) w
        rw [show ((s[k].toNat : Int)).toNat.toUInt8 = s[k] by simp] at this
        exact this.mono fun e w' ⟨h1, h2⟩ => ⟨h1, h2.symm⟩
      have hf : fr ms.data.toList (s.data.toList.drop k) = if ms.data.toList.contains s[k] then s[k] :: fr ms.data.toList (s.data.toList.drop (k + 1)) else [] := by
        rw [hd]; unfold fr; rw [List.takeWhile_cons]
      rcases ib_cases s[k] ms.data.toList with ⟨g1, n, g2⟩ | ⟨g1, g2⟩
      · rw [g1] at hf
        rw [g2] at H1
        have HK2 : Hid (k + 1 + (fr ms.data.toList (s.data.toList.drop (k + 1))).length = R) := Lib.hid (by have := HK.out; rw [hf] at this; simp at this; omega)
        have HI := Lib.hid H1
        have hn : ¬ (n : Int) < 0 := by omega
        clear hf H1 g1 g2 hd
        go_wp2_with fail
        refine (HI.out _).mono ?_; rintro e w1 ⟨rfl, rfl⟩
        go_wp2_with fail
        go_round
        case rel => exact ⟨k + 1, by omega, by go_num, HK2⟩
        case measure => simp [intOf]; omega
      · rw [g1] at hf
        rw [g2] at H1
        have HK2 : Hid (k = R) := Lib.hid (by have := HK.out; rw [hf] at this; simpa using this)
        have HI := Lib.hid H1
        have b1 : (k : Int) ≤ s.size := by omega
        have b2 : (0 : Int) ≤ k := by omega
        have HX : Hid (s.extract 0 k = ⟨(s.data.toList.take R).toArray⟩) := Lib.hid (by
          rw [← HK2.out]
          apply ByteArray.ext
          apply Array.ext'
          rw [ByteArray.data_extract, Array.toList_extract, List.extract_eq_take_drop]
          simp)
        clear hf H1 g1 g2 hd
        go_wp2_with fail
        refine (HI.out _).mono ?_; rintro e w1 ⟨rfl, rfl⟩
        go_wp2_with fail
        go_ret
        exact ⟨congrArg (fun z : ByteArray => Ending.returned (Value.string z)) HX.out, rfl⟩
    · have HX : Hid (s = ⟨(s.data.toList.take R).toArray⟩) := Lib.hid (by
        have := HK.out
        rw [List.drop_of_length_le (by rw [Array.length_toList]; exact Nat.le_of_not_lt hlt)] at this
        have hRs : s.size ≤ R := by simp [fr] at this; omega
        rw [List.take_of_length_le (by rw [Array.length_toList]; exact hRs)])
      go_wp2_with fail
      go_ret
      exact ⟨congrArg (fun z : ByteArray => Ending.returned (Value.string z)) HX.out, rfl⟩
end Go.Proofs.YtfagaflgdlomiaaGreatDoor
namespace Go.Proofs.YtfagaflgdlomiaaGreatDoor
open Go.RowKit
theorem fr_all (ms l : List UInt8) : (fr ms l == l) = l.all (ms.contains ·) := by
  unfold fr
  induction l with
  | nil => rfl
  | cons a l ih =>
    rw [List.takeWhile_cons, List.all_cons]
    cases ms.contains a with
    | true => simpa using ih
    | false => rfl
set_option maxRecDepth 100000 in
set_option maxHeartbeats 1000000 in
theorem lname_any (s : ByteArray) (hs : s.size ≤ 1000000) (w : World) :
    Calls Tryz.prog 31 #[.string s] w fun e w' => e = .returned (.bool (nameB s.data.toList)) ∧ w = w' := by
  rcases empty_z s with ⟨h0, h1, h2, h3⟩ | ⟨h0, h1, h2, h3⟩
  · have hr : nameB s.data.toList = (!isDig s[0] && (fr nameMs s.data.toList == s.data.toList)) := by
      rw [fr_all, show (nameMs.contains ·) = nameC from funext name_ms]
      have := head_z s h0
      rw [this]; rfl
    have H1 : ∀ w, Calls Tryz.prog 57 #[.string ⟨#[48, 49, 50, 51, 52, 53, 54, 55, 56, 57]⟩, .int .u8 (s[0].toNat : Int)] w fun e w' => e = .returned (.int .i64 (if isDig s[0] then ((s[0].toNat - 48 : Nat) : Int) else -1)) ∧ w = w' := fun w => by
      have := Tryz.strings_IndexByte ⟨#[48, 49, 50, 51, 52, 53, 54, 55, 56, 57]⟩ (s[0].toNat : Int) w
      rw [show ((s[0].toNat : Int)).toNat.toUInt8 = s[0] by simp, ib_dig] at this
      exact this.mono fun e w' ⟨h1, h2⟩ => ⟨h1, h2.symm⟩
    have H2 := Lib.hid (fun w => front_any s ⟨nameMs.toArray⟩ hs w)
    obtain ⟨r, hr2⟩ : ∃ r, nameB s.data.toList = r := ⟨_, rfl⟩
    rw [hr2]
    rw [hr2] at hr
    obtain ⟨F, hF⟩ : ∃ F : ByteArray, (⟨(fr (⟨nameMs.toArray⟩ : ByteArray).data.toList s.data.toList).toArray⟩ : ByteArray) = F := ⟨_, rfl⟩
    rw [hF] at H2
    have hc : (F.toList == s.toList) = (fr nameMs s.data.toList == s.data.toList) := by rw [← hF, ByteArray.toList_eq, ByteArray.toList_eq]
    rw [← hc] at hr
    have HR := Lib.hid hr
    unfold nameMs at H2
    clear hr hr2 hF hc
    cases hd : isDig s[0] with
    | true =>
      rw [hd] at H1 HR
      simp only [if_true] at H1
      have HI := Lib.hid H1
      have HF : Hid (false = r) := Lib.hid (by rw [HR.out]; rfl)
      clear H1 HR hd
      generalize s[0].toNat - 48 = n at *
      have hn : ¬ (n : Int) < 0 := by omega
      go_enter Tryz.func31, Tryz.ntmps31
      go_wp2_with fail
      refine (HI.out _).mono ?_; rintro e w1 ⟨rfl, rfl⟩
      go_wp2_with fail
      go_ret
      exact ⟨ret_b HF.out, rfl⟩
    | false =>
      rw [hd] at H1 HR
      simp only [Bool.false_eq_true, if_false] at H1
      have HI := Lib.hid H1
      have HF : Hid ((F.toList == s.toList) = r) := Lib.hid (by rw [HR.out]; rfl)
      clear H1 HR hd
      go_enter Tryz.func31, Tryz.ntmps31
      go_wp2_with fail
      refine (HI.out _).mono ?_; rintro e w1 ⟨rfl, rfl⟩
      go_wp2_with fail
      refine (H2.out _).mono ?_; rintro e w1 ⟨rfl, rfl⟩
      go_wp2_with fail
      go_ret
      exact ⟨ret_b HF.out, rfl⟩
  · have hr : nameB s.data.toList = false := by rw [h3]; rfl
    rw [hr]
    clear h0 h3 hr
    go_enter Tryz.func31, Tryz.ntmps31
    go_wp2_with fail
    go_ret
    exact ⟨rfl, rfl⟩
theorem dig_msL (c : UInt8) : ([48, 49, 50, 51, 52, 53, 54, 55, 56, 57] : List UInt8).contains c = isDig c := by
  have := all256' (f := fun c => ([48, 49, 50, 51, 52, 53, 54, 55, 56, 57] : List UInt8).contains c == isDig c) (by decide +kernel) c
  simpa using this
set_option maxRecDepth 100000 in
set_option maxHeartbeats 1000000 in
theorem lnumber_any (s : ByteArray) (hs : s.size ≤ 1000000) (w : World) :
    Calls Tryz.prog 87 #[.string s] w fun e w' => e = .returned (.bool (okDigits (body s.data.toList))) ∧ w = w' := by
  have H1 : ∀ w, Calls Tryz.prog 100 #[.string s, .string ⟨#[45]⟩] w fun e w' => e = .returned (.string ⟨(body s.data.toList).toArray⟩) ∧ w = w' := fun w => by
    have := Tryz.strings_TrimPrefix s ⟨#[45]⟩ w
    rw [show (⟨#[45]⟩ : ByteArray).data.toList = [45] from rfl, trimPrefix_dash] at this
    exact this.mono fun e w' ⟨h1, h2⟩ => ⟨h1, h2.symm⟩
  have hbl : (body s.data.toList).length ≤ s.size := by
    have := len_z s
    unfold body
    split
    · rw [List.length_tail]; omega
    · omega
  obtain ⟨B, hB⟩ : ∃ B : ByteArray, (⟨(body s.data.toList).toArray⟩ : ByteArray) = B := ⟨_, rfl⟩
  have hBl : body s.data.toList = B.data.toList := by rw [← hB]
  rw [hB] at H1
  rw [hBl] at hbl ⊢
  rw [len_z] at hbl
  have HI := Lib.hid H1
  clear H1 hB hBl
  obtain ⟨r, hr⟩ : ∃ r, okDigits B.data.toList = r := ⟨_, rfl⟩
  rw [hr]
  rcases empty_z B with ⟨h0, h1, h2, h3⟩ | ⟨h0, h1, h2, h3⟩
  · have H2 := Lib.hid (fun w => front_any B ⟨#[48, 49, 50, 51, 52, 53, 54, 55, 56, 57]⟩ (by omega) w)
    have hz := head_z B h0
    have hall := fr_all [48, 49, 50, 51, 52, 53, 54, 55, 56, 57] B.data.toList
    rw [show ((([48, 49, 50, 51, 52, 53, 54, 55, 56, 57] : List UInt8)).contains ·) = isDig from funext dig_msL] at hall
    obtain ⟨F, hF⟩ : ∃ F : ByteArray, (⟨(fr (⟨#[48, 49, 50, 51, 52, 53, 54, 55, 56, 57]⟩ : ByteArray).data.toList B.data.toList).toArray⟩ : ByteArray) = F := ⟨_, rfl⟩
    rw [hF] at H2
    have hc : (F.toList == B.toList) = B.data.toList.all isDig := by rw [← hall, ← hF, ByteArray.toList_eq, ByteArray.toList_eq]
    have hne : B.data.toList.isEmpty = false := by rw [hz]; rfl
    have hhd : B.data.toList.head? = some B[0] := by rw [hz]; rfl
    have hone : (B.toList == [48]) = (B[0] == 48 && decide (B.size = 1)) := by
      rw [ByteArray.toList_eq]
      have hl := len_z B
      rw [hz] at hl ⊢
      simp only [List.length_cons] at hl
      rw [Bool.eq_iff_iff]
      simp only [beq_iff_eq, List.cons.injEq, Bool.and_eq_true, decide_eq_true_eq]
      constructor
      · rintro ⟨a, b⟩; rw [b] at hl; exact ⟨a, by simp at hl; omega⟩
      · rintro ⟨a, b⟩; exact ⟨a, List.eq_nil_of_length_eq_zero (by omega)⟩
    unfold okDigits digitsB at hr
    rw [hne, hhd, ← hc, len_z] at hr
    clear hz hall hF hc hne hhd
    cases ha : (F.toList == B.toList) with
    | false =>
      have HF : Hid (false = r) := Lib.hid (by rw [← hr, ha]; rfl)
      clear hr hone
      go_enter Tryz.func87, Tryz.ntmps87
      go_wp2_with fail
      refine (HI.out _).mono ?_; rintro e w1 ⟨rfl, rfl⟩
      go_wp2_with fail
      refine (H2.out _).mono ?_; rintro e w1 ⟨rfl, rfl⟩
      go_wp2_with fail
      go_ret
      exact ⟨ret_b HF.out, rfl⟩
    | true =>
      rw [ha] at hr
      by_cases h48 : B[0] = 48
      · have HF : Hid ((B.toList == [48]) = r) := Lib.hid (by
          rw [← hr, hone, h48]
          have : decide (B.size = 1) = !decide (1 < B.size) := by rw [Bool.eq_iff_iff]; simp; omega
          rw [this]; simp)
        have e1 : ((B[0].toNat : Int) != 48) = false := by rw [h48]; rfl
        have e2 : ((B[0].toNat : Int) == 48) = true := by rw [h48]; rfl
        clear hr hone h48
        go_enter Tryz.func87, Tryz.ntmps87
        go_wp2_with fail
        refine (HI.out _).mono ?_; rintro e w1 ⟨rfl, rfl⟩
        go_wp2_with fail
        refine (H2.out _).mono ?_; rintro e w1 ⟨rfl, rfl⟩
        go_wp2_with fail
        go_ret
        exact ⟨ret_b HF.out, rfl⟩
      · have HF : Hid (true = r) := Lib.hid (by
          rw [← hr]
          have : (some B[0] == some (48 : UInt8)) = false := by simpa using h48
          rw [this]; rfl)
        have e0 : ¬ (B[0].toNat : Int) = 48 := fun e => h48 (UInt8.toNat_inj.1 (by show B[0].toNat = 48; omega))
        have e1 : ((B[0].toNat : Int) != 48) = true := by simpa using e0
        have e2 : ((B[0].toNat : Int) == 48) = false := by simpa using e0
        clear hr hone h48 e0
        go_enter Tryz.func87, Tryz.ntmps87
        go_wp2_with fail
        refine (HI.out _).mono ?_; rintro e w1 ⟨rfl, rfl⟩
        go_wp2_with fail
        refine (H2.out _).mono ?_; rintro e w1 ⟨rfl, rfl⟩
        go_wp2_with fail
        go_ret
        exact ⟨ret_b HF.out, rfl⟩
  · have HF : Hid (false = r) := Lib.hid (by rw [← hr, h3]; rfl)
    clear hr h3 h0
    go_enter Tryz.func87, Tryz.ntmps87
    go_wp2_with fail
    refine (HI.out _).mono ?_; rintro e w1 ⟨rfl, rfl⟩
    go_wp2_with fail
    go_ret
    exact ⟨ret_b HF.out, rfl⟩
end Go.Proofs.YtfagaflgdlomiaaGreatDoor
namespace Go.Proofs.YtfagaflgdlomiaaGreatDoor
open Go.RowKit
/-- The library's tables of UTF-8 hold what their text lays. -/
def EnvU (w : World) : Prop := Lib.Utf8Tabs (Tryz.lays196_ren.g 3) (Tryz.lays196_ren.g 4) w
theorem EnvU.below {w w' : World} (h : EnvU w) (hb : Below w.heap.size w w') : EnvU w' := Utf8Tabs_below h hb
set_option maxRecDepth 100000 in
theorem tcheck_any (s : ByteArray) (hs : s.size ≤ 1000000) (w : World) (hE : EnvU w) :
    Calls Tryz.prog 88 #[.string s] w fun e w' => e = .returned (.int .i64 (chkE s.data.toList)) ∧ Below w.heap.size w w' := by
  unfold chkE
  rw [show s.data.toList.length = s.size from by rw [Array.length_toList]; rfl]
  by_cases h : 16384 < s.size
  · rw [if_pos h]
    clear hE
    go_enter Tryz.func88, Tryz.ntmps88
    go_wp2_with fail
    go_ret
    exact ⟨rfl, Below.refl _ _⟩
  · rw [if_neg h]
    have H1 : Calls Tryz.prog 101 #[.string s] w fun e w' => e = .returned (.bool (Lib.validD s.data.toList)) ∧ Below w.heap.size w w' := Any.utf8_ValidString Tryz.lays196 s w (by omega) hE
    have h2 : s.size ≤ 16384 := by omega
    have HI := Lib.hid H1
    clear h hE H1
    generalize Lib.validD s.data.toList = r at *
    cases r
    all_goals
      go_enter Tryz.func88, Tryz.ntmps88
      go_wp2_with fail
      refine HI.out.mono ?_; rintro e w1 ⟨rfl, hb⟩
      go_wp2_with fail
      go_ret
      exact ⟨rfl, hb⟩
end Go.Proofs.YtfagaflgdlomiaaGreatDoor
namespace Go.Proofs.YtfagaflgdlomiaaGreatDoor
open Go.RowKit
set_option maxRecDepth 100000 in
theorem lcheck_end_y (x : ByteArray) (p : Int) (h1 : x.toList = []) (h2 : x.toList.isEmpty = true) (w : World) :
    Calls Tryz.prog 66 #[.agg #[.int .u8 0, .string x, .int .i64 p]] w fun e w' => e = .returned (.int .i64 (0)) ∧ Below w.heap.size w w' := by
  go_enter Tryz.func66, Tryz.ntmps66
  go_wp2_with fail
  go_ret
  exact ⟨rfl, (Below.refl _ _).alloc (Nat.le_refl _) _⟩
set_option maxRecDepth 100000 in
theorem lcheck_end_n (x : ByteArray) (p : Int) (h1 : ¬ x.toList = []) (h2 : x.toList.isEmpty = false) (w : World) :
    Calls Tryz.prog 66 #[.agg #[.int .u8 0, .string x, .int .i64 p]] w fun e w' => e = .returned (.int .i64 (8)) ∧ Below w.heap.size w w' := by
  go_enter Tryz.func66, Tryz.ntmps66
  go_wp2_with fail
  go_ret
  exact ⟨rfl, (Below.refl _ _).alloc (Nat.le_refl _) _⟩
set_option maxRecDepth 100000 in
theorem lcheck_name (x : ByteArray) (b : Bool) (p : Int) (H : Hid (∀ w, Calls Tryz.prog 31 #[.string x] w fun e w' => e = .returned (.bool b) ∧ Below w.heap.size w w')) (w : World) :
    Calls Tryz.prog 66 #[.agg #[.int .u8 1, .string x, .int .i64 p]] w fun e w' => e = .returned (.int .i64 (if b then 0 else 8)) ∧ Below w.heap.size w w' := by
  cases b
  all_goals
    go_enter Tryz.func66, Tryz.ntmps66
    go_wp2_with fail
    refine (H.out _).mono ?_; rintro e w1 ⟨rfl, hb⟩
    have HW : Below w.heap.size w w1 := ((Below.refl _ _).alloc (Nat.le_refl _) _).trans (hb.mono (by simp))
    clear hb
    go_wp2_with fail
    go_ret
    exact ⟨rfl, HW⟩
set_option maxRecDepth 100000 in
theorem lcheck_int (x : ByteArray) (b : Bool) (p : Int) (H : Hid (∀ w, Calls Tryz.prog 87 #[.string x] w fun e w' => e = .returned (.bool b) ∧ Below w.heap.size w w')) (w : World) :
    Calls Tryz.prog 66 #[.agg #[.int .u8 2, .string x, .int .i64 p]] w fun e w' => e = .returned (.int .i64 (if b then 0 else 8)) ∧ Below w.heap.size w w' := by
  cases b
  all_goals
    go_enter Tryz.func66, Tryz.ntmps66
    go_wp2_with fail
    refine (H.out _).mono ?_; rintro e w1 ⟨rfl, hb⟩
    have HW : Below w.heap.size w w1 := ((Below.refl _ _).alloc (Nat.le_refl _) _).trans (hb.mono (by simp))
    clear hb
    go_wp2_with fail
    go_ret
    exact ⟨rfl, HW⟩
set_option maxRecDepth 100000 in
theorem lcheck_text (x : ByteArray) (c : Int) (p : Int) (w : World) (H : Hid (∀ V, Below w.heap.size w V → Calls Tryz.prog 88 #[.string x] V fun e w' => e = .returned (.int .i64 c) ∧ Below V.heap.size V w')) (hc : c = 0 ∨ c = 4 ∨ c = 10) :
    Calls Tryz.prog 66 #[.agg #[.int .u8 3, .string x, .int .i64 p]] w fun e w' => e = .returned (.int .i64 (if c = 0 then 0 else 8)) ∧ Below w.heap.size w w' := by
  rcases hc with rfl | rfl | rfl
  all_goals
    go_enter Tryz.func66, Tryz.ntmps66
    go_wp2_with fail
    refine (H.out _ (by exact (Below.refl _ _).alloc (Nat.le_refl _) _)).mono ?_; rintro e w1 ⟨rfl, hb⟩
    have HW : Below w.heap.size w w1 := ((Below.refl _ _).alloc (Nat.le_refl _) _).trans (hb.mono (by simp))
    clear hb
    go_wp2_with fail
    go_ret
    exact ⟨rfl, HW⟩
set_option maxRecDepth 100000 in
theorem lcheck_dots (x : ByteArray) (p : Int) (h : (x.toList == [46, 46, 46]) = true) (w : World) :
    Calls Tryz.prog 66 #[.agg #[.int .u8 4, .string x, .int .i64 p]] w fun e w' => e = .returned (.int .i64 (0)) ∧ Below w.heap.size w w' := by
  go_enter Tryz.func66, Tryz.ntmps66
  go_wp2_with fail
  go_ret
  exact ⟨rfl, (Below.refl _ _).alloc (Nat.le_refl _) _⟩
set_option maxRecDepth 100000 in
theorem lcheck_long (x : ByteArray) (p : Int) (h : (x.toList == [46, 46, 46]) = false) (h2 : ((x.size : Int) == 1) = false) (w : World) :
    Calls Tryz.prog 66 #[.agg #[.int .u8 4, .string x, .int .i64 p]] w fun e w' => e = .returned (.int .i64 (8)) ∧ Below w.heap.size w w' := by
  go_enter Tryz.func66, Tryz.ntmps66
  go_wp2_with fail
  go_ret
  exact ⟨rfl, (Below.refl _ _).alloc (Nat.le_refl _) _⟩
set_option maxRecDepth 100000 in
theorem lcheck_mark (x : ByteArray) (b : Bool) (p : Int) (h : (x.toList == [46, 46, 46]) = false) (h2 : ((x.size : Int) == 1) = true) (H : Hid (∀ w, Calls Tryz.prog 89 #[.string ⟨#[33, 36, 38, 40, 41, 58, 61, 64, 91, 93, 123, 124, 125]⟩, .string x] w fun e w' => e = .returned (.bool b) ∧ Below w.heap.size w w')) (w : World) :
    Calls Tryz.prog 66 #[.agg #[.int .u8 4, .string x, .int .i64 p]] w fun e w' => e = .returned (.int .i64 (if b then 0 else 8)) ∧ Below w.heap.size w w' := by
  cases b
  all_goals
    go_enter Tryz.func66, Tryz.ntmps66
    go_wp2_with fail
    refine (H.out _).mono ?_; rintro e w1 ⟨rfl, hb⟩
    have HW : Below w.heap.size w w1 := ((Below.refl _ _).alloc (Nat.le_refl _) _).trans (hb.mono (by simp))
    clear hb
    go_wp2_with fail
    go_ret
    exact ⟨rfl, HW⟩
set_option maxRecDepth 100000 in
theorem lcheck_other (x : ByteArray) (k : Int) (p : Int) (h0 : (k == 0) = false) (h1 : (k == 1) = false) (h2 : (k == 2) = false) (h3 : (k == 3) = false) (h4 : (k == 4) = false) (w : World) :
    Calls Tryz.prog 66 #[.agg #[.int .u8 k, .string x, .int .i64 p]] w fun e w' => e = .returned (.int .i64 (8)) ∧ Below w.heap.size w w' := by
  go_enter Tryz.func66, Tryz.ntmps66
  go_wp2_with fail
  go_ret
  exact ⟨rfl, (Below.refl _ _).alloc (Nat.le_refl _) _⟩
end Go.Proofs.YtfagaflgdlomiaaGreatDoor
namespace Go.Proofs.YtfagaflgdlomiaaGreatDoor
open Go.RowKit
theorem below_same {f : Nat} {args : Array Value} {v : Value} (H : ∀ w, Calls Tryz.prog f args w fun e w' => e = .returned v ∧ w = w') : ∀ w, Calls Tryz.prog f args w fun e w' => e = .returned v ∧ Below w.heap.size w w' :=
  fun w => (H w).mono fun e w' ⟨h1, h2⟩ => ⟨h1, by rw [← h2]; exact Below.refl _ _⟩
theorem lcheck_any (k : UInt8) (x : ByteArray) (p : Int) (hx : x.size ≤ 1000000) (w : World) (hE : EnvU w) :
    Calls Tryz.prog 66 #[.agg #[.int .u8 (k.toNat : Int), .string x, .int .i64 p]] w fun e w' => e = .returned (.int .i64 (if okT ⟨k, x.data.toList, p⟩ then 0 else 8)) ∧ Below w.heap.size w w' := by
  unfold okT
  dsimp only
  by_cases k0 : k = 0
  · subst k0
    rw [if_pos rfl]
    rcases empty_z x with ⟨a0, a1, a2, a3⟩ | ⟨a0, a1, a2, a3⟩
    · have : x.data.toList.isEmpty = false := by cases h : x.data.toList with
        | nil => exact absurd h a3
        | cons _ _ => rfl
      rw [this]
      exact lcheck_end_n x p a1 a2 w
    · rw [a3]
      exact lcheck_end_y x p a1 a2 w
  rw [if_neg k0]
  by_cases k1 : k = 1
  · subst k1
    rw [if_pos rfl]
    exact lcheck_name x _ p (Lib.hid (below_same fun w => lname_any x hx w)) w
  rw [if_neg k1]
  by_cases k2 : k = 2
  · subst k2
    rw [if_pos rfl]
    exact lcheck_int x _ p (Lib.hid (below_same fun w => lnumber_any x hx w)) w
  rw [if_neg k2]
  by_cases k3 : k = 3
  · subst k3
    rw [if_pos rfl]
    have ht : (if textB x.data.toList then (0 : Int) else 8) = if chkE x.data.toList = 0 then 0 else 8 := by
      unfold textB chkE
      by_cases q : 16384 < x.data.toList.length
      · rw [if_pos q, decide_eq_false (by omega)]; rfl
      · rw [if_neg q, decide_eq_true (by omega), Bool.true_and]
        cases Lib.validD x.data.toList <;> rfl
    have ht2 : (Value.int .i64 (if textB x.data.toList then (0 : Int) else 8)) = .int .i64 (if chkE x.data.toList = 0 then 0 else 8) := by rw [ht]
    rw [show (Ending.returned (Value.int .i64 (if textB x.data.toList = true then 0 else 8))) = Ending.returned (Value.int .i64 (if chkE x.data.toList = 0 then 0 else 8)) from by rw [ht]]
    refine lcheck_text x _ p w (Lib.hid fun V hb => tcheck_any x hx V (hE.below hb)) ?_
    unfold chkE
    by_cases q : 16384 < x.data.toList.length
    · rw [if_pos q]; right; left; rfl
    · rw [if_neg q]
      cases Lib.validD x.data.toList
      · right; right; rfl
      · left; rfl
  rw [if_neg k3]
  by_cases k4 : k = 4
  · subst k4
    rw [if_pos rfl]
    have hd : (x.toList == [46, 46, 46]) = (x.data.toList == [46, 46, 46]) := by rw [ByteArray.toList_eq]
    have hl := len_z x
    unfold markB
    cases hq : (x.data.toList == [46, 46, 46]) with
    | true => exact lcheck_dots x p (hd.trans hq) w
    | false =>
      match hm : x.data.toList with
      | [] =>
        rw [hm] at hl
        exact lcheck_long x p (hd.trans hq) (by rw [beq_eq_false_iff_ne]; simp at hl; omega) w
      | [c] =>
        rw [hm] at hl
        have hc := bytes_ext' hm
        refine lcheck_mark x _ p (hd.trans hq) (by rw [beq_iff_eq]; simp at hl; omega) (Lib.hid (below_same fun w => ?_)) w
        have := ix_contains ⟨#[33, 36, 38, 40, 41, 58, 61, 64, 91, 93, 123, 124, 125]⟩ c w
        rw [hc]
        exact this
      | _ :: _ :: _ =>
        rw [hm] at hl
        exact lcheck_long x p (hd.trans hq) (by rw [beq_eq_false_iff_ne]; simp at hl; omega) w
  rw [if_neg k4]
  have ne : ∀ n : Nat, n < 256 → k ≠ UInt8.ofNat n → ((k.toNat : Int) == (n : Int)) = false := by
    intro n hn h
    rw [beq_eq_false_iff_ne]
    intro e
    exact h (UInt8.toNat_inj.1 (by rw [UInt8.toNat_ofNat']; omega))
  exact lcheck_other x _ p (ne 0 (by omega) k0) (ne 1 (by omega) k1) (ne 2 (by omega) k2) (ne 3 (by omega) k3) (ne 4 (by omega) k4) w
end Go.Proofs.YtfagaflgdlomiaaGreatDoor
namespace Go.Proofs.YtfagaflgdlomiaaGreatDoor
open Go.RowKit Go.Lib
theorem all256 {f : UInt8 → Bool} (h : ∀ i : Fin 256, f (UInt8.ofNat i.val) = true) (c : UInt8) : f c = true := by
  have := h ⟨c.toNat, UInt8.toNat_lt c⟩
  simpa using this
theorem byte_cls (c : UInt8) : c = 34 ∨ c = 92 ∨ c = 8 ∨ c = 12 ∨ c = 10 ∨ c = 13 ∨ c = 9 ∨ c = 47 ∨ (c.toNat < 32 ∧ quoteC c = [92, 117, 48, 48, hexD (c.toNat / 16), hexD (c.toNat % 16)] ∧ c.toNat ≠ 8 ∧ c.toNat ≠ 9 ∧ c.toNat ≠ 10 ∧ c.toNat ≠ 12 ∧ c.toNat ≠ 13) ∨ (32 ≤ c.toNat ∧ quoteC c = [c] ∧ c.toNat ≠ 34 ∧ c.toNat ≠ 47 ∧ c.toNat ≠ 92) := by
  by_cases h34 : c = 34
  · simp [h34]
  by_cases h92 : c = 92
  · simp [h92]
  by_cases h8 : c = 8
  · simp [h8]
  by_cases h12 : c = 12
  · simp [h12]
  by_cases h10 : c = 10
  · simp [h10]
  by_cases h13 : c = 13
  · simp [h13]
  by_cases h9 : c = 9
  · simp [h9]
  by_cases h47 : c = 47
  · simp [h47]
  have g34 : c.toNat ≠ 34 := fun e => h34 (UInt8.toNat_inj.1 e)
  have g92 : c.toNat ≠ 92 := fun e => h92 (UInt8.toNat_inj.1 e)
  have g8 : c.toNat ≠ 8 := fun e => h8 (UInt8.toNat_inj.1 e)
  have g12 : c.toNat ≠ 12 := fun e => h12 (UInt8.toNat_inj.1 e)
  have g10 : c.toNat ≠ 10 := fun e => h10 (UInt8.toNat_inj.1 e)
  have g13 : c.toNat ≠ 13 := fun e => h13 (UInt8.toNat_inj.1 e)
  have g9 : c.toNat ≠ 9 := fun e => h9 (UInt8.toNat_inj.1 e)
  have g47 : c.toNat ≠ 47 := fun e => h47 (UInt8.toNat_inj.1 e)
  by_cases h : c.toNat < 32
  · right; right; right; right; right; right; right; right; left
    refine ⟨h, ?_, g8, g9, g10, g12, g13⟩
    unfold quoteC
    rw [if_neg (by simp [h34, h92]), if_neg h8, if_neg h9, if_neg h10, if_neg h12, if_neg h13, if_pos h]
  · right; right; right; right; right; right; right; right; right
    refine ⟨by omega, ?_, g34, g47, g92⟩
    unfold quoteC
    rw [if_neg (by simp [h34, h92]), if_neg h8, if_neg h9, if_neg h10, if_neg h12, if_neg h13, if_neg h]
theorem told_no (c : UInt8) (g8 : c.toNat ≠ 8) (g9 : c.toNat ≠ 9) (g10 : c.toNat ≠ 10) (g12 : c.toNat ≠ 12) (g13 : c.toNat ≠ 13) (g34 : c.toNat ≠ 34) (g47 : c.toNat ≠ 47) (g92 : c.toNat ≠ 92) : Lib.indexByte (⟨#[34, 92, 47, 8, 12, 10, 13, 9]⟩ : ByteArray).data.toList c = -1 := by
  have g := all256 (f := fun c => c.toNat == 8 || c.toNat == 9 || c.toNat == 10 || c.toNat == 12 || c.toNat == 13 || c.toNat == 34 || c.toNat == 47 || c.toNat == 92 || (Lib.indexByte (⟨#[34, 92, 47, 8, 12, 10, 13, 9]⟩ : ByteArray).data.toList c == -1)) (by decide +kernel) c
  simpa [g8, g9, g10, g12, g13, g34, g47, g92] using g
theorem and15 (n : Nat) (h : n < 256) : bits BinOp.and IntKind.u8 (n : Int) 15 = (n : Int) % 16 := by
  have g : ∀ i : Fin 256, bits BinOp.and IntKind.u8 (i.val : Int) 15 = (i.val : Int) % 16 := by decide +kernel
  exact g ⟨n, h⟩
theorem hexd_at (n : Nat) (h : n < (⟨#[48, 49, 50, 51, 52, 53, 54, 55, 56, 57, 97, 98, 99, 100, 101, 102]⟩ : ByteArray).size) : (⟨#[48, 49, 50, 51, 52, 53, 54, 55, 56, 57, 97, 98, 99, 100, 101, 102]⟩ : ByteArray)[n]'h = hexD n := by
  have g : ∀ i : Fin 16, (⟨#[48, 49, 50, 51, 52, 53, 54, 55, 56, 57, 97, 98, 99, 100, 101, 102]⟩ : ByteArray)[i.val]'i.isLt = hexD i.val := by decide +kernel
  exact g ⟨n, h⟩
set_option maxRecDepth 100000 in
set_option maxHeartbeats 8000000 in
theorem quote_any (s : ByteArray) (hs : s.size ≤ 100000) (w : World) :
    Calls Tryz.prog 90 #[.string s] w fun e w' => e = .returned (.string ⟨(quoteL s.data.toList).toArray⟩) ∧ Below w.heap.size w w' := by
  obtain ⟨r, hr⟩ : ∃ r, quoteL s.data.toList = r := ⟨_, rfl⟩
  have HR : Hid ([34] ++ ((s.data.toList.drop 0).flatMap quoteC ++ [34]) = r) := Lib.hid (by rw [List.drop_zero, ← hr]; unfold quoteL; simp)
  rw [hr]
  clear hr
  go_enter Tryz.func90, Tryz.ntmps90
  go_wp2_with fail
  go_loopg [3, 10] s.size (fun k u v wr => ∃ (j : Nat) (out : List UInt8) (ov : Value), ov = u ∧ v = .int .i64 j ∧ k + j = s.size ∧ out.length ≤ 6 * j + 1 ∧ Hid (Own w.heap.size ov out wr) ∧ Hid (out ++ ((s.data.toList.drop j).flatMap quoteC ++ [34]) = r) ∧ Below w.heap.size w wr)
  case atStart => exact ⟨0, [34], _, rfl, rfl, by omega, by simp, Lib.hid (Own.fresh rfl rfl (by decide) w), HR, (Below.refl _ _).alloc (Nat.le_refl _) _⟩
  case round =>
    rename World => wo
    obtain ⟨j, out, ov, rfl, rfl, hk, hout, HO, HJ, hbw⟩ := hrel
    have hsz := hbw.size
    by_cases hlt : j < s.size
    · have hd := drop_at s j hlt
      have HJ1 : (out ++ quoteC s[j]) ++ ((s.data.toList.drop (j + 1)).flatMap quoteC ++ [34]) = r := by
        have := HJ.out
        rw [hd, List.flatMap_cons] at this
        simpa [List.append_assoc] using this
      obtain ⟨g, rfl⟩ : ∃ g, gk = g + 1 := ⟨gk - 1, by omega⟩
      have hc8 : s[j].toNat < 256 := UInt8.toNat_lt _
      have hcls := byte_cls s[j]
      clear hd HJ
      rcases hcls with hx | hx | hx | hx | hx | hx | hx | hx | ⟨hx, hq, g8, g9, g10, g12, g13⟩ | ⟨hx, hq, g34, g47, g92⟩
      · have HJ2 : Hid ((out ++ [92, 34]) ++ ((s.data.toList.drop (j + 1)).flatMap quoteC ++ [34]) = r) := Lib.hid (by rw [hx] at HJ1; exact HJ1)
        have hn : s[j].toNat = 34 := by rw [hx]; rfl
        clear HJ1 hx hc8
        have HI : Hid (∀ w, Calls Tryz.prog 57 #[.string ⟨#[34, 92, 47, 8, 12, 10, 13, 9]⟩, .int .u8 34] w fun e w' => e = .returned (.int .i64 0) ∧ w = w') := Lib.hid (fun w => (Tryz.strings_IndexByte ⟨#[34, 92, 47, 8, 12, 10, 13, 9]⟩ 34 w).mono fun e w' ⟨h1, h2⟩ => ⟨h1, h2.symm⟩)
        go_wp2_with fail
        refine (HI.out _).mono ?_; rintro e w1 ⟨rfl, rfl⟩
        go_wp2_with (at_builtin; refine wpList_push rfl _ _ rfl w.heap.size ov out rfl (HO.out.alloc _) ⟨wo.heap.size, 0, none⟩ 2 [92, 34] rfl (new_bytes wo _ [92, 34]) ?c1 ?c2 ?_)
        case c1 => first | omega | (simp; omega)
        case c2 => first | omega | (simp; omega)
        intro v' w3 hown' hgrow
        have hbw3 : Below w.heap.size w w3 := (hbw.alloc hsz _).grown hgrow (by simp; omega) HO.out.lt
        have HO3 := Lib.hid hown'
        clear hown' hgrow HO
        go_wp2_with fail
        go_roundg g
        case measure => omega
        case rel => exact ⟨j + 1, out ++ [92, 34], _, rfl, by go_num, by omega, by simp; omega, HO3, HJ2, hbw3⟩
      · have HJ2 : Hid ((out ++ [92, 92]) ++ ((s.data.toList.drop (j + 1)).flatMap quoteC ++ [34]) = r) := Lib.hid (by rw [hx] at HJ1; exact HJ1)
        have hn : s[j].toNat = 92 := by rw [hx]; rfl
        clear HJ1 hx hc8
        have HI : Hid (∀ w, Calls Tryz.prog 57 #[.string ⟨#[34, 92, 47, 8, 12, 10, 13, 9]⟩, .int .u8 92] w fun e w' => e = .returned (.int .i64 1) ∧ w = w') := Lib.hid (fun w => (Tryz.strings_IndexByte ⟨#[34, 92, 47, 8, 12, 10, 13, 9]⟩ 92 w).mono fun e w' ⟨h1, h2⟩ => ⟨h1, h2.symm⟩)
        go_wp2_with fail
        refine (HI.out _).mono ?_; rintro e w1 ⟨rfl, rfl⟩
        go_wp2_with (at_builtin; refine wpList_push rfl _ _ rfl w.heap.size ov out rfl (HO.out.alloc _) ⟨wo.heap.size, 0, none⟩ 2 [92, 92] rfl (new_bytes wo _ [92, 92]) ?c1 ?c2 ?_)
        case c1 => first | omega | (simp; omega)
        case c2 => first | omega | (simp; omega)
        intro v' w3 hown' hgrow
        have hbw3 : Below w.heap.size w w3 := (hbw.alloc hsz _).grown hgrow (by simp; omega) HO.out.lt
        have HO3 := Lib.hid hown'
        clear hown' hgrow HO
        go_wp2_with fail
        go_roundg g
        case measure => omega
        case rel => exact ⟨j + 1, out ++ [92, 92], _, rfl, by go_num, by omega, by simp; omega, HO3, HJ2, hbw3⟩
      · have HJ2 : Hid ((out ++ [92, 98]) ++ ((s.data.toList.drop (j + 1)).flatMap quoteC ++ [34]) = r) := Lib.hid (by rw [hx] at HJ1; exact HJ1)
        have hn : s[j].toNat = 8 := by rw [hx]; rfl
        clear HJ1 hx hc8
        have HI : Hid (∀ w, Calls Tryz.prog 57 #[.string ⟨#[34, 92, 47, 8, 12, 10, 13, 9]⟩, .int .u8 8] w fun e w' => e = .returned (.int .i64 3) ∧ w = w') := Lib.hid (fun w => (Tryz.strings_IndexByte ⟨#[34, 92, 47, 8, 12, 10, 13, 9]⟩ 8 w).mono fun e w' ⟨h1, h2⟩ => ⟨h1, h2.symm⟩)
        go_wp2_with fail
        refine (HI.out _).mono ?_; rintro e w1 ⟨rfl, rfl⟩
        go_wp2_with (at_builtin; refine wpList_push rfl _ _ rfl w.heap.size ov out rfl (HO.out.alloc _) ⟨wo.heap.size, 0, none⟩ 2 [92, 98] rfl (new_bytes wo _ [92, 98]) ?c1 ?c2 ?_)
        case c1 => first | omega | (simp; omega)
        case c2 => first | omega | (simp; omega)
        intro v' w3 hown' hgrow
        have hbw3 : Below w.heap.size w w3 := (hbw.alloc hsz _).grown hgrow (by simp; omega) HO.out.lt
        have HO3 := Lib.hid hown'
        clear hown' hgrow HO
        go_wp2_with fail
        go_roundg g
        case measure => omega
        case rel => exact ⟨j + 1, out ++ [92, 98], _, rfl, by go_num, by omega, by simp; omega, HO3, HJ2, hbw3⟩
      · have HJ2 : Hid ((out ++ [92, 102]) ++ ((s.data.toList.drop (j + 1)).flatMap quoteC ++ [34]) = r) := Lib.hid (by rw [hx] at HJ1; exact HJ1)
        have hn : s[j].toNat = 12 := by rw [hx]; rfl
        clear HJ1 hx hc8
        have HI : Hid (∀ w, Calls Tryz.prog 57 #[.string ⟨#[34, 92, 47, 8, 12, 10, 13, 9]⟩, .int .u8 12] w fun e w' => e = .returned (.int .i64 4) ∧ w = w') := Lib.hid (fun w => (Tryz.strings_IndexByte ⟨#[34, 92, 47, 8, 12, 10, 13, 9]⟩ 12 w).mono fun e w' ⟨h1, h2⟩ => ⟨h1, h2.symm⟩)
        go_wp2_with fail
        refine (HI.out _).mono ?_; rintro e w1 ⟨rfl, rfl⟩
        go_wp2_with (at_builtin; refine wpList_push rfl _ _ rfl w.heap.size ov out rfl (HO.out.alloc _) ⟨wo.heap.size, 0, none⟩ 2 [92, 102] rfl (new_bytes wo _ [92, 102]) ?c1 ?c2 ?_)
        case c1 => first | omega | (simp; omega)
        case c2 => first | omega | (simp; omega)
        intro v' w3 hown' hgrow
        have hbw3 : Below w.heap.size w w3 := (hbw.alloc hsz _).grown hgrow (by simp; omega) HO.out.lt
        have HO3 := Lib.hid hown'
        clear hown' hgrow HO
        go_wp2_with fail
        go_roundg g
        case measure => omega
        case rel => exact ⟨j + 1, out ++ [92, 102], _, rfl, by go_num, by omega, by simp; omega, HO3, HJ2, hbw3⟩
      · have HJ2 : Hid ((out ++ [92, 110]) ++ ((s.data.toList.drop (j + 1)).flatMap quoteC ++ [34]) = r) := Lib.hid (by rw [hx] at HJ1; exact HJ1)
        have hn : s[j].toNat = 10 := by rw [hx]; rfl
        clear HJ1 hx hc8
        have HI : Hid (∀ w, Calls Tryz.prog 57 #[.string ⟨#[34, 92, 47, 8, 12, 10, 13, 9]⟩, .int .u8 10] w fun e w' => e = .returned (.int .i64 5) ∧ w = w') := Lib.hid (fun w => (Tryz.strings_IndexByte ⟨#[34, 92, 47, 8, 12, 10, 13, 9]⟩ 10 w).mono fun e w' ⟨h1, h2⟩ => ⟨h1, h2.symm⟩)
        go_wp2_with fail
        refine (HI.out _).mono ?_; rintro e w1 ⟨rfl, rfl⟩
        go_wp2_with (at_builtin; refine wpList_push rfl _ _ rfl w.heap.size ov out rfl (HO.out.alloc _) ⟨wo.heap.size, 0, none⟩ 2 [92, 110] rfl (new_bytes wo _ [92, 110]) ?c1 ?c2 ?_)
        case c1 => first | omega | (simp; omega)
        case c2 => first | omega | (simp; omega)
        intro v' w3 hown' hgrow
        have hbw3 : Below w.heap.size w w3 := (hbw.alloc hsz _).grown hgrow (by simp; omega) HO.out.lt
        have HO3 := Lib.hid hown'
        clear hown' hgrow HO
        go_wp2_with fail
        go_roundg g
        case measure => omega
        case rel => exact ⟨j + 1, out ++ [92, 110], _, rfl, by go_num, by omega, by simp; omega, HO3, HJ2, hbw3⟩
      · have HJ2 : Hid ((out ++ [92, 114]) ++ ((s.data.toList.drop (j + 1)).flatMap quoteC ++ [34]) = r) := Lib.hid (by rw [hx] at HJ1; exact HJ1)
        have hn : s[j].toNat = 13 := by rw [hx]; rfl
        clear HJ1 hx hc8
        have HI : Hid (∀ w, Calls Tryz.prog 57 #[.string ⟨#[34, 92, 47, 8, 12, 10, 13, 9]⟩, .int .u8 13] w fun e w' => e = .returned (.int .i64 6) ∧ w = w') := Lib.hid (fun w => (Tryz.strings_IndexByte ⟨#[34, 92, 47, 8, 12, 10, 13, 9]⟩ 13 w).mono fun e w' ⟨h1, h2⟩ => ⟨h1, h2.symm⟩)
        go_wp2_with fail
        refine (HI.out _).mono ?_; rintro e w1 ⟨rfl, rfl⟩
        go_wp2_with (at_builtin; refine wpList_push rfl _ _ rfl w.heap.size ov out rfl (HO.out.alloc _) ⟨wo.heap.size, 0, none⟩ 2 [92, 114] rfl (new_bytes wo _ [92, 114]) ?c1 ?c2 ?_)
        case c1 => first | omega | (simp; omega)
        case c2 => first | omega | (simp; omega)
        intro v' w3 hown' hgrow
        have hbw3 : Below w.heap.size w w3 := (hbw.alloc hsz _).grown hgrow (by simp; omega) HO.out.lt
        have HO3 := Lib.hid hown'
        clear hown' hgrow HO
        go_wp2_with fail
        go_roundg g
        case measure => omega
        case rel => exact ⟨j + 1, out ++ [92, 114], _, rfl, by go_num, by omega, by simp; omega, HO3, HJ2, hbw3⟩
      · have HJ2 : Hid ((out ++ [92, 116]) ++ ((s.data.toList.drop (j + 1)).flatMap quoteC ++ [34]) = r) := Lib.hid (by rw [hx] at HJ1; exact HJ1)
        have hn : s[j].toNat = 9 := by rw [hx]; rfl
        clear HJ1 hx hc8
        have HI : Hid (∀ w, Calls Tryz.prog 57 #[.string ⟨#[34, 92, 47, 8, 12, 10, 13, 9]⟩, .int .u8 9] w fun e w' => e = .returned (.int .i64 7) ∧ w = w') := Lib.hid (fun w => (Tryz.strings_IndexByte ⟨#[34, 92, 47, 8, 12, 10, 13, 9]⟩ 9 w).mono fun e w' ⟨h1, h2⟩ => ⟨h1, h2.symm⟩)
        go_wp2_with fail
        refine (HI.out _).mono ?_; rintro e w1 ⟨rfl, rfl⟩
        go_wp2_with (at_builtin; refine wpList_push rfl _ _ rfl w.heap.size ov out rfl (HO.out.alloc _) ⟨wo.heap.size, 0, none⟩ 2 [92, 116] rfl (new_bytes wo _ [92, 116]) ?c1 ?c2 ?_)
        case c1 => first | omega | (simp; omega)
        case c2 => first | omega | (simp; omega)
        intro v' w3 hown' hgrow
        have hbw3 : Below w.heap.size w w3 := (hbw.alloc hsz _).grown hgrow (by simp; omega) HO.out.lt
        have HO3 := Lib.hid hown'
        clear hown' hgrow HO
        go_wp2_with fail
        go_roundg g
        case measure => omega
        case rel => exact ⟨j + 1, out ++ [92, 116], _, rfl, by go_num, by omega, by simp; omega, HO3, HJ2, hbw3⟩
      · have HJ2 : Hid ((out ++ [47]) ++ ((s.data.toList.drop (j + 1)).flatMap quoteC ++ [34]) = r) := Lib.hid (by rw [hx] at HJ1; exact HJ1)
        have hn : s[j].toNat = 47 := by rw [hx]; rfl
        clear HJ1 hx hc8
        have HI : Hid (∀ w, Calls Tryz.prog 57 #[.string ⟨#[34, 92, 47, 8, 12, 10, 13, 9]⟩, .int .u8 47] w fun e w' => e = .returned (.int .i64 2) ∧ w = w') := Lib.hid (fun w => (Tryz.strings_IndexByte ⟨#[34, 92, 47, 8, 12, 10, 13, 9]⟩ 47 w).mono fun e w' ⟨h1, h2⟩ => ⟨h1, h2.symm⟩)
        go_wp2_with fail
        refine (HI.out _).mono ?_; rintro e w1 ⟨rfl, rfl⟩
        go_wp2_with (at_builtin; refine wpList_push rfl _ _ rfl w.heap.size ov out rfl (HO.out.alloc _) ⟨wo.heap.size, 0, none⟩ 1 [47] rfl (new_bytes wo _ [47]) ?c1 ?c2 ?_)
        case c1 => first | omega | (simp; omega)
        case c2 => first | omega | (simp; omega)
        intro v' w3 hown' hgrow
        have hbw3 : Below w.heap.size w w3 := (hbw.alloc hsz _).grown hgrow (by simp; omega) HO.out.lt
        have HO3 := Lib.hid hown'
        clear hown' hgrow HO
        go_wp2_with fail
        go_roundg g
        case measure => omega
        case rel => exact ⟨j + 1, out ++ [47], _, rfl, by go_num, by omega, by simp; omega, HO3, HJ2, hbw3⟩
      · have HJ2 : Hid ((out ++ [92, 117, 48, 48, hexD (s[j].toNat / 16), hexD (s[j].toNat % 16)]) ++ ((s.data.toList.drop (j + 1)).flatMap quoteC ++ [34]) = r) := Lib.hid (by rw [hq] at HJ1; exact HJ1)
        have HI : Hid (∀ w, Calls Tryz.prog 57 #[.string ⟨#[34, 92, 47, 8, 12, 10, 13, 9]⟩, .int .u8 (s[j].toNat : Int)] w fun e w' => e = .returned (.int .i64 (-1)) ∧ w = w') := Lib.hid (fun w => by
          have := Tryz.strings_IndexByte ⟨#[34, 92, 47, 8, 12, 10, 13, 9]⟩ (s[j].toNat : Int) w
          rw [show ((s[j].toNat : Int)).toNat.toUInt8 = s[j] by simp, told_no s[j] g8 g9 g10 g12 g13 (by omega) (by omega) (by omega)] at this
          exact this.mono fun e w' ⟨h1, h2⟩ => ⟨h1, h2.symm⟩)
        have n47 : ((s[j].toNat : Int) == 47) = false := by rw [beq_eq_false_iff_ne]; omega
        have m47 : ¬ (s[j].toNat : Int) = 47 := by omega
        have hx2 : (s[j].toNat : Int) < 32 := by omega
        have hx3 : ¬ (32 : Int) ≤ (s[j].toNat : Int) := by omega
        obtain ⟨a, ea⟩ : ∃ a, s[j].toNat / 16 = a := ⟨_, rfl⟩
        obtain ⟨b, eb⟩ : ∃ b, s[j].toNat % 16 = b := ⟨_, rfl⟩
        have la : a < 16 := by omega
        have lb : b < 16 := by omega
        have fa : (s[j].toNat : Int) / 16 = a := by omega
        have fb : (s[j].toNat : Int) % 16 = b := by omega
        have fc : (s[j].toNat : Int).tmod 16 = b := by rw [Int.tmod_eq_emod_of_nonneg (by omega)]; exact fb
        have fd : (s[j].toNat : Int).tdiv 16 = a := by rw [Int.tdiv_eq_ediv_of_nonneg (by omega)]; exact fa
        have fe : bits BinOp.and IntKind.u8 (s[j].toNat : Int) 15 = b := by rw [and15 _ (by omega)]; exact fb
        have la2 : (a : Int) < 16 := by omega
        have lb2 : (b : Int) < 16 := by omega
        have la3 : (0 : Int) ≤ a := by omega
        have lb3 : (0 : Int) ≤ b := by omega
        have va : IntKind.u8.wrap (a : Int) = a := IntWalk.u8_in _ (by omega)
        have vb : IntKind.u8.wrap (b : Int) = b := IntWalk.u8_in _ (by omega)
        rw [ea, eb] at HJ2
        obtain ⟨y1, hy1⟩ : ∃ y, hexD a = y := ⟨_, rfl⟩
        obtain ⟨y2, hy2⟩ : ∃ y, hexD b = y := ⟨_, rfl⟩
        have U1 : ∀ h, ((⟨#[48, 49, 50, 51, 52, 53, 54, 55, 56, 57, 97, 98, 99, 100, 101, 102]⟩ : ByteArray)[a]'h) = y1 := fun h => by rw [← hy1]; exact hexd_at a h
        have U2 : ∀ h, ((⟨#[48, 49, 50, 51, 52, 53, 54, 55, 56, 57, 97, 98, 99, 100, 101, 102]⟩ : ByteArray)[b]'h) = y2 := fun h => by rw [← hy2]; exact hexd_at b h
        rw [hy1, hy2] at HJ2
        clear HJ1 hq g8 g9 g10 g12 g13 ea eb hy1 hy2
        go_wp2_with fail
        refine (HI.out _).mono ?_; rintro e w1 ⟨rfl, rfl⟩
        go_wp2_with fail
        refine wp_region_held_drew (S := fun _ => True) (by kernel_rfl) (trivial) (fun hHeld => ?_)
        refine tky 0 (some 40) (v := ?_) rfl (by kernel_rfl) (by kernel_rfl) (by kernel_rfl) (fun _ _ _ h => h) ?_ hHeld ?_
        rotate_left
        focus (intro w hSw; (try dsimp only at hSw); go_simp; (try with_reducible rfl); done)
        go_frame
        refine tky 1 (some 41) (v := ?_) rfl (by kernel_rfl) (by kernel_rfl) (by kernel_rfl) (fun _ _ _ h => h) ?_ hHeld ?_
        rotate_left
        focus (intro w hSw; (try dsimp only at hSw); go_simp; (try with_reducible rfl); done)
        go_frame
        refine tky 2 (some 42) (v := ?_) rfl (by kernel_rfl) (by kernel_rfl) (by kernel_rfl) (fun _ _ _ h => h) ?_ hHeld ?_
        rotate_left
        focus (intro w hSw; (try dsimp only at hSw); go_simp; (try with_reducible rfl); done)
        go_frame
        refine tky 3 (some 43) (v := ?_) rfl (by kernel_rfl) (by kernel_rfl) (by kernel_rfl) (fun _ _ _ h => h) ?_ hHeld ?_
        rotate_left
        focus (intro w hSw; (try dsimp only at hSw); go_simp; (try with_reducible rfl); done)
        go_frame
        refine tky 4 (some 44) (v := ?_) rfl (by kernel_rfl) (by kernel_rfl) (by kernel_rfl) (fun _ _ _ h => h) ?_ hHeld ?_
        rotate_left
        focus (intro w hSw; (try dsimp only at hSw); go_simp; (try with_reducible rfl); done)
        go_frame
        refine tky 5 (some 45) (v := ?_) rfl (by kernel_rfl) (by kernel_rfl) (by kernel_rfl) (fun _ _ _ h => h) ?_ hHeld ?_
        rotate_left
        focus (intro w hSw; (try dsimp only at hSw); go_simp; (try with_reducible rfl); done)
        go_frame
        refine tky 6 (some 46) (v := ?_) rfl (by kernel_rfl) (by kernel_rfl) (by kernel_rfl) (fun _ _ _ h => h) ?_ hHeld ?_
        rotate_left
        focus (intro w hSw; (try dsimp only at hSw); go_simp; (try with_reducible rfl); done)
        go_frame
        refine rcons 7 rfl (by kernel_rfl) (fun K hK => ?_)
        go_simp
        refine hK.out _ _ (trivial) (fun hHeld2 => ?_)
        clear hK K hHeld
        have hHeld := hHeld2
        clear hHeld2
        (try go_frame)
        refine rcons 8 rfl (by kernel_rfl) (fun K hK => ?_)
        rw [if_pos]
        rotate_left
        focus kernel_rfl
        (refine wp_push _ _ rfl w.heap.size ov out rfl (by exact (HO.out.drew.alloc _)) ⟨wo.heap.size, 0, none⟩ 6 [92, 117, 48, 48, y1, y2] rfl (by exact (new_bytes wo.drew _ [92, 117, 48, 48, y1, y2])) (by show out.length + 6 ≤ _; omega) (by show _ ≤ Array.size _; simp <;> omega) ?_; intro v' w3 hown' hgrow)
        (try dsimp only)
        refine hK.out _ _ (trivial) (fun hHeld2 => ?_)
        clear hK K hHeld
        have hHeld := hHeld2
        clear hHeld2
        (try go_frame)
        refine tky 9 (some 3) (v := ?_) rfl (by kernel_rfl) (by kernel_rfl) (by kernel_rfl) (fun _ _ _ h => h) ?_ hHeld ?_
        rotate_left
        focus (intro w hSw; (try dsimp only at hSw); go_simp; (try with_reducible rfl); done)
        go_frame
        refine wpAnyH_done (by kernel_rfl) ?_ _
        have hbw3 : Below w.heap.size w w3 := Below.grown ((hbw.alloc hsz _).drew) hgrow (by show _ ≤ Array.size _; simp <;> omega) HO.out.lt
        have HO3 := Lib.hid hown'
        clear hown' hgrow HO hHeld
        go_wp2_with fail
        go_roundg g
        case measure => omega
        case rel => exact ⟨j + 1, out ++ [92, 117, 48, 48, y1, y2], _, rfl, by go_num, by omega, by simp; omega, HO3, HJ2, hbw3⟩
      · have HJ2 : Hid ((out ++ [s[j]]) ++ ((s.data.toList.drop (j + 1)).flatMap quoteC ++ [34]) = r) := Lib.hid (by rw [hq] at HJ1; exact HJ1)
        have HI : Hid (∀ w, Calls Tryz.prog 57 #[.string ⟨#[34, 92, 47, 8, 12, 10, 13, 9]⟩, .int .u8 (s[j].toNat : Int)] w fun e w' => e = .returned (.int .i64 (-1)) ∧ w = w') := Lib.hid (fun w => by
          have := Tryz.strings_IndexByte ⟨#[34, 92, 47, 8, 12, 10, 13, 9]⟩ (s[j].toNat : Int) w
          rw [show ((s[j].toNat : Int)).toNat.toUInt8 = s[j] by simp, told_no s[j] (by omega) (by omega) (by omega) (by omega) (by omega) g34 g47 g92] at this
          exact this.mono fun e w' ⟨h1, h2⟩ => ⟨h1, h2.symm⟩)
        have n47 : ((s[j].toNat : Int) == 47) = false := by rw [beq_eq_false_iff_ne]; omega
        have m47 : ¬ (s[j].toNat : Int) = 47 := by omega
        have hx2 : (32 : Int) ≤ (s[j].toNat : Int) := by omega
        clear HJ1 hq g34 g47 g92
        go_wp2_with fail
        refine (HI.out _).mono ?_; rintro e w1 ⟨rfl, rfl⟩
        go_wp2_with (at_builtin; refine wpList_push rfl _ _ rfl w.heap.size ov out rfl (HO.out.alloc _) ⟨wo.heap.size, 0, none⟩ 1 [s[j]] rfl (new_bytes wo _ [s[j]]) ?c1 ?c2 ?_)
        case c1 => first | omega | (simp; omega)
        case c2 => first | omega | (simp; omega)
        intro v' w3 hown' hgrow
        have hbw3 : Below w.heap.size w w3 := (hbw.alloc hsz _).grown hgrow (by simp; omega) HO.out.lt
        have HO3 := Lib.hid hown'
        clear hown' hgrow HO
        go_wp2_with fail
        go_roundg g
        case measure => omega
        case rel => exact ⟨j + 1, out ++ [s[j]], _, rfl, by go_num, by omega, by simp; omega, HO3, HJ2, hbw3⟩
    · have HJ2 : Hid (out ++ [34] = r) := Lib.hid (by
        have := HJ.out
        rw [List.drop_of_length_le (by rw [Array.length_toList]; exact Nat.le_of_not_lt hlt)] at this
        exact this)
      clear HJ
      go_wp2_with (at_builtin; refine wpList_push rfl _ _ rfl w.heap.size ov out rfl (HO.out.alloc _) ⟨wo.heap.size, 0, none⟩ 1 [34] rfl (new_bytes wo _ [34]) ?c1 ?c2 ?_)
      case c1 => first | omega | (simp; omega)
      case c2 => first | omega | (simp; omega)
      intro v' w3 hown' hgrow
      have hbw3 : Below w.heap.size w w3 := (hbw.alloc hsz _).grown hgrow (by simp; omega) HO.out.lt
      have HC := run_convert_own hown'
      clear hown' hgrow HO
      go_wp2_with fail
      go_ret
      exact ⟨congrArg (fun z : List UInt8 => Ending.returned (Value.string ⟨z.toArray⟩)) HJ2.out, hbw3⟩
end Go.Proofs.YtfagaflgdlomiaaGreatDoor
namespace Go.Proofs.YtfagaflgdlomiaaGreatDoor
open Go.RowKit
set_option maxRecDepth 100000 in
theorem jquote_any (x : ByteArray) (hx : x.size ≤ 100000) (w : World) (hE : EnvU w) :
    Calls Tryz.prog 67 #[.string x] w fun e w' => e = .returned (if chkE x.data.toList = 0 then .tuple #[.string ⟨(quoteL x.data.toList).toArray⟩, .int .i64 0] else .tuple #[.string ⟨#[]⟩, .int .i64 (chkE x.data.toList)]) ∧ Below w.heap.size w w' := by
  have H1 := Lib.hid (fun V (hb : Below w.heap.size w V) => tcheck_any x (by omega) V (hE.below hb))
  have H2 := Lib.hid (fun w => quote_any x hx w)
  have hc : chkE x.data.toList = 0 ∨ chkE x.data.toList = 4 ∨ chkE x.data.toList = 10 := by
    unfold chkE
    by_cases q : 16384 < x.data.toList.length
    · rw [if_pos q]; right; left; rfl
    · rw [if_neg q]
      cases Lib.validD x.data.toList
      · right; right; rfl
      · left; rfl
  clear hE
  generalize chkE x.data.toList = c at *
  generalize (⟨(quoteL x.data.toList).toArray⟩ : ByteArray) = q at *
  rcases hc with rfl | rfl | rfl
  · go_enter Tryz.func67, Tryz.ntmps67
    go_wp2_with fail
    refine (H1.out _ (Below.refl _ _)).mono ?_; rintro e w1 ⟨rfl, hb⟩
    have HW := Lib.hid hb
    have hsz := hb.size
    clear hb
    go_wp2_with fail
    refine (H2.out _).mono ?_; rintro e w2 ⟨rfl, hb⟩
    have HW2 := Lib.hid (HW.out.trans (hb.mono hsz))
    clear hb
    go_wp2_with fail
    go_ret2
    exact ⟨rfl, HW2.out⟩
  all_goals
    go_enter Tryz.func67, Tryz.ntmps67
    go_wp2_with fail
    refine (H1.out _ (Below.refl _ _)).mono ?_; rintro e w1 ⟨rfl, hb⟩
    have HW := Lib.hid hb
    clear hb
    go_wp2_with fail
    go_ret2
    exact ⟨rfl, HW.out⟩
end Go.Proofs.YtfagaflgdlomiaaGreatDoor
namespace Go.Proofs.YtfagaflgdlomiaaGreatDoor
open Go.Lib
structure Cel where
  kind : UInt8
  name : List UInt8
  text : List UInt8
  num : Int
  many : Int
/-- May a cell be, but for its name, and for what stands in it? -/
def oneC (c : Cel) : Bool :=
  if c.kind = 0 then c.text.isEmpty && c.num == 0 && c.many == 0
  else if c.kind = 1 then c.text.isEmpty && (c.num == 0 || c.num == 1) && c.many == 0
  else if c.kind = 2 then c.text.isEmpty && c.many == 0
  else if c.kind = 3 then textB c.text && c.num == 0 && c.many == 0
  else if c.kind = 4 ∨ c.kind = 5 then nameB c.text && c.num == 0 && c.many == 0
  else if c.kind = 6 ∨ c.kind = 7 then c.text.isEmpty && c.num == 0 && decide (0 ≤ c.many)
  else false
def nestC (c : Cel) : Bool := c.kind == 6 || c.kind == 7
def amongB (l : List (List UInt8)) (n : List UInt8) : Bool := l.any fun x => x == n
/-- May an item, a member, have that name, behind those that have been? -/
def okN (isL : Bool) (names : List (List UInt8)) (n : List UInt8) : Bool := if isL then n.isEmpty else !n.isEmpty && textB n && !amongB names n
/-- How many cells so many items, members, have. -/
def kidsN (val : List Cel → Option Nat) (isL : Bool) : Nat → List (List UInt8) → List Cel → Option Nat
  | 0, _, _ => some 0
  | _ + 1, _, [] => none
  | n + 1, names, c :: r =>
    if okN isL names c.name then
      match val (c :: r) with
      | none => none
      | some k => (kidsN val isL n (c.name :: names) ((c :: r).drop k)).map (k + ·)
    else none
def headN (kids : Cel → List Cel → Option Nat) : List Cel → Option Nat
  | [] => none
  | c :: r => if oneC c then (if nestC c then (kids c r).map (1 + ·) else some 1) else none
/-- How many cells the value has that begins a list, at most so many in each other. -/
def valN : Nat → List Cel → Option Nat
  | 0 => headN fun _ _ => none
  | d + 1 => headN fun c r => kidsN (valN d) (c.kind == 6) c.many.toNat [] r
theorem kidsN_le (val : List Cel → Option Nat) (hv : ∀ l k, val l = some k → 1 ≤ k ∧ k ≤ l.length) (isL : Bool) : ∀ (n : Nat) (names : List (List UInt8)) (l : List Cel) (k : Nat), kidsN val isL n names l = some k → n ≤ k ∧ k ≤ l.length
  | 0, names, l, k, h => by
    have : k = 0 := (Option.some.inj h).symm
    omega
  | n + 1, names, [], k, h => by cases h
  | n + 1, names, c :: r, k, h => by
    rw [kidsN] at h
    split at h
    · split at h
      · cases h
      · rename_i k1 hk1
        obtain ⟨g1, g2⟩ := hv _ _ hk1
        rw [Option.map_eq_some_iff] at h
        obtain ⟨k2, hk2, rfl⟩ := h
        have := kidsN_le val hv isL n _ _ k2 hk2
        rw [List.length_drop] at this
        omega
    · cases h
theorem headN_cons (kids : Cel → List Cel → Option Nat) (c : Cel) (r : List Cel) : headN kids (c :: r) = if oneC c then (if nestC c then (kids c r).map (1 + ·) else some 1) else none := rfl
theorem valN_zero (l : List Cel) : valN 0 l = headN (fun _ _ => none) l := rfl
theorem valN_more (d : Nat) (l : List Cel) : valN (d + 1) l = headN (fun c r => kidsN (valN d) (c.kind == 6) c.many.toNat [] r) l := rfl
theorem headN_le (kids : Cel → List Cel → Option Nat) (hk : ∀ c r k, kids c r = some k → k ≤ r.length) (l : List Cel) (k : Nat) (h : headN kids l = some k) : 1 ≤ k ∧ k ≤ l.length := by
  cases l with
  | nil => cases h
  | cons c r =>
    rw [headN_cons] at h
    rw [List.length_cons]
    cases h1 : oneC c with
    | false => rw [h1] at h; cases h
    | true =>
      cases h2 : nestC c with
      | false =>
        rw [h1, h2] at h
        have : k = 1 := (Option.some.inj h).symm
        omega
      | true =>
        rw [h1, h2, if_pos rfl, if_pos rfl, Option.map_eq_some_iff] at h
        obtain ⟨k2, hk2, rfl⟩ := h
        have := hk _ _ _ hk2
        omega
theorem valN_le : ∀ (d : Nat) (l : List Cel) (k : Nat), valN d l = some k → 1 ≤ k ∧ k ≤ l.length
  | 0, l, k, h => headN_le _ (fun c r k h => by cases h) l k h
  | d + 1, l, k, h => headN_le _ (fun c r k h => (kidsN_le (valN d) (valN_le d) _ _ _ _ _ h).2) l k h
/-- More may be in each other: the same cells. -/
theorem kidsN_mono (f g : List Cel → Option Nat) (hfg : ∀ l k, f l = some k → g l = some k) (isL : Bool) : ∀ (n : Nat) (names : List (List UInt8)) (l : List Cel) (k : Nat), kidsN f isL n names l = some k → kidsN g isL n names l = some k
  | 0, names, l, k, h => h
  | n + 1, names, [], k, h => h
  | n + 1, names, c :: r, k, h => by
    rw [kidsN] at h ⊢
    split at h
    · rename_i hok
      rw [if_pos hok]
      split at h
      · cases h
      · rename_i k1 hk1
        rw [hfg _ _ hk1]
        rw [Option.map_eq_some_iff] at h
        obtain ⟨k2, hk2, rfl⟩ := h
        show (kidsN g isL n _ _).map _ = _
        rw [kidsN_mono f g hfg isL n _ _ k2 hk2]; rfl
    · cases h
theorem headN_mono (f g : Cel → List Cel → Option Nat) (hfg : ∀ c r k, f c r = some k → g c r = some k) (l : List Cel) (k : Nat) (h : headN f l = some k) : headN g l = some k := by
  cases l with
  | nil => cases h
  | cons c r =>
    rw [headN_cons] at h ⊢
    cases h1 : oneC c with
    | false => rw [h1] at h; cases h
    | true =>
      cases h2 : nestC c with
      | false => rw [h1, h2] at h; exact h
      | true =>
        rw [h1, h2, if_pos rfl, if_pos rfl, Option.map_eq_some_iff] at h
        obtain ⟨k2, hk2, rfl⟩ := h
        rw [if_pos rfl, if_pos rfl, hfg _ _ _ hk2]; rfl
theorem valN_succ : ∀ (d : Nat) (l : List Cel) (k : Nat), valN d l = some k → valN (d + 1) l = some k
  | 0, l, k, h => headN_mono _ _ (fun c r k h => by cases h) l k h
  | d + 1, l, k, h => headN_mono _ _ (fun c r k h => kidsN_mono (valN d) (valN (d + 1)) (valN_succ d) _ _ _ _ _ h) l k h
theorem valN_mono {d e : Nat} (h : d ≤ e) (l : List Cel) (k : Nat) (hv : valN d l = some k) : valN e l = some k := by
  induction h with
  | refl => exact hv
  | step _ ih => exact valN_succ _ _ _ ih
/-- Are cells a value? -/
def mayB (V : List Cel) : Bool := decide (0 < V.length) && decide (V.length ≤ 2048) && (V.headD ⟨0, [0], [], 0, 0⟩).name.isEmpty && (valN 16 V == some V.length)
def plainB (V : List Cel) : Bool := mayB V && V.all fun c => !(c.kind == 4 || c.kind == 5)
/-- Where the value ends that begins at a place; below 0: there is none. -/
def endI (V : List Cel) (at_ d : Nat) : Int := match valN d (V.drop at_) with | none => -1 | some k => ((at_ + k : Nat) : Int)
end Go.Proofs.YtfagaflgdlomiaaGreatDoor
namespace Go.Proofs.YtfagaflgdlomiaaGreatDoor
open Go.RowKit
theorem ret_i {a c : Int} (h : a = c) : Ending.returned (.int .i64 a) = .returned (.int .i64 c) := by rw [h]
theorem below_dN {B : Nat} {w w1 : World} (n : Nat) (h : Below B w w1) : Below B w (w1.drewN n) := h.trans ⟨rfl, rfl, rfl, Nat.le_refl _, fun _ _ => rfl⟩
theorem lt_of_cell {W : World} {b o : Nat} {v : Value} (h : W.cell? ⟨b, o, none⟩ = some v) : b < W.heap.size := by
  rcases Nat.lt_or_ge b W.heap.size with h' | h'
  · exact h'
  · exfalso
    have : W.heap[b]? = none := Array.getElem?_eq_none h'
    simp [World.cell?, this] at h
theorem heap_lt {b : Nat} {W : World} {o : Obj} (h : W.heap[b]? = some o) : b < W.heap.size := (Array.getElem?_eq_some_iff.1 h).1
theorem heap_old {b : Nat} {W : World} {o o' : Obj} (h : W.heap[b]? = some o) : (W.alloc o').heap[b]? = some o := by
  rw [Below.heap_alloc _ _ _ (Array.getElem?_eq_some_iff.1 h).1]; exact h
theorem heap_new (W : World) (o : Obj) (b : Nat) (hb : b = W.heap.size) : (W.alloc o).heap[b]? = some o := by rw [hb]; exact heap_alloc_new W o
/-- A cell's five values. -/
def celCells (c : Cel) : Array Value := #[.int .u8 (c.kind.toNat : Int), .string ⟨c.name.toArray⟩, .string ⟨c.text.toArray⟩, .int .i64 c.num, .int .i64 c.many]
/-- Cells that stand in a row from a place of a block on. -/
def CelRow (b off : Nat) (V : List Cel) (W : World) : Prop := ∀ (k : Nat) (h : k < V.length), W.cell? ⟨b, off + k * 5, none⟩ = some (.int .u8 (V[k].kind.toNat : Int)) ∧ W.cell? ⟨b, off + k * 5 + 1, none⟩ = some (.string ⟨V[k].name.toArray⟩) ∧ W.cell? ⟨b, off + k * 5 + 2, none⟩ = some (.string ⟨V[k].text.toArray⟩) ∧ W.cell? ⟨b, off + k * 5 + 3, none⟩ = some (.int .i64 V[k].num) ∧ W.cell? ⟨b, off + k * 5 + 4, none⟩ = some (.int .i64 V[k].many)
theorem CelRow.below {b off : Nat} {V : List Cel} {w w' : World} {B : Nat} (h : CelRow b off V w) (hb : Below B w w') (hlt : b < B) : CelRow b off V w' := by
  intro k hk
  obtain ⟨h0, h1, h2, h3, h4⟩ := h k hk
  exact ⟨(hb.cell (p := ⟨b, _, none⟩) hlt).trans h0, (hb.cell (p := ⟨b, _, none⟩) hlt).trans h1, (hb.cell (p := ⟨b, _, none⟩) hlt).trans h2, (hb.cell (p := ⟨b, _, none⟩) hlt).trans h3, (hb.cell (p := ⟨b, _, none⟩) hlt).trans h4⟩
theorem CelRow.below' {b off : Nat} {V : List Cel} {w w' : World} (h : CelRow b off V w) (hb : Below w.heap.size w w') : CelRow b off V w' := by
  intro k hk
  exact h.below hb (lt_of_cell (h k hk).1) k hk
theorem CelRow.lt {b off : Nat} {V : List Cel} {w : World} (h : CelRow b off V w) (hV : 0 < V.length) : b < w.heap.size := lt_of_cell (h 0 hV).1
/-- A slice that reads as cells. -/
def CelSl (v : Value) (V : List Cel) (W : World) : Prop := (∃ a cap, v = .slice a 0 cap ∧ V = [] ∧ (a = none → cap = 0)) ∨ ∃ b off cap, v = .slice (some ⟨b, off, none⟩) V.length cap ∧ CelRow b off V W ∧ 0 < V.length
theorem CelSl.below {v : Value} {V : List Cel} {w w' : World} (h : CelSl v V w) (hb : Below w.heap.size w w') : CelSl v V w' := by
  rcases h with h | ⟨b, off, cap, h1, h2, h3⟩
  · exact Or.inl h
  · exact Or.inr ⟨b, off, cap, h1, h2.below' hb, h3⟩
/-- Cells that a statement goes through. -/
def SmallV (V : List Cel) : Prop := V.length ≤ 100000 ∧ ∀ c ∈ V, c.name.length ≤ 100000 ∧ c.text.length ≤ 100000 ∧ R c.num ∧ R c.many
end Go.Proofs.YtfagaflgdlomiaaGreatDoor
namespace Go.Proofs.YtfagaflgdlomiaaGreatDoor
open Go.RowKit
/-- Tokens that stand in a row from a place of a block on. -/
def TokRow (b off : Nat) (L : List Tok) (W : World) : Prop := ∀ (k : Nat) (h : k < L.length), W.cell? ⟨b, off + k * 3, none⟩ = some (.int .u8 (L[k].kind.toNat : Int)) ∧ W.cell? ⟨b, off + k * 3 + 1, none⟩ = some (.string ⟨L[k].text.toArray⟩) ∧ W.cell? ⟨b, off + k * 3 + 2, none⟩ = some (.int .i64 L[k].pos)
theorem TokRow.below {b off : Nat} {L : List Tok} {w w' : World} (h : TokRow b off L w) (hb : Below w.heap.size w w') (hlt : b < w.heap.size) : TokRow b off L w' := by
  intro k hk
  obtain ⟨h1, h2, h3⟩ := h k hk
  exact ⟨(hb.cell (p := ⟨b, _, none⟩) hlt).trans h1, (hb.cell (p := ⟨b, _, none⟩) hlt).trans h2, (hb.cell (p := ⟨b, _, none⟩) hlt).trans h3⟩
theorem TokRow.below' {b off : Nat} {L : List Tok} {w w' : World} (h : TokRow b off L w) (hb : Below w.heap.size w w') : TokRow b off L w' := by
  intro k hk
  exact h.below hb (lt_of_cell (h k hk).1) k hk
/-- A slice that reads as tokens. -/
def TokSl (v : Value) (L : List Tok) (W : World) : Prop := (∃ a cap, v = .slice a 0 cap ∧ L = [] ∧ (a = none → cap = 0)) ∨ ∃ b off cap, v = .slice (some ⟨b, off, none⟩) L.length cap ∧ TokRow b off L W
theorem TokSl.below {v : Value} {L : List Tok} {w w' : World} (h : TokSl v L w) (hb : Below w.heap.size w w') : TokSl v L w' := by
  rcases h with h | ⟨b, off, cap, h1, h2⟩
  · exact Or.inl h
  · exact Or.inr ⟨b, off, cap, h1, h2.below' hb⟩
theorem TokSl.nil (w : World) : TokSl (.slice none 0 0) [] w := Or.inl ⟨_, _, rfl, rfl, fun _ => rfl⟩
end Go.Proofs.YtfagaflgdlomiaaGreatDoor
namespace Go.Proofs.YtfagaflgdlomiaaGreatDoor
open Go.RowKit
theorem quoteC_len (c : UInt8) : (quoteC c).length ≤ 6 := by
  unfold quoteC
  repeat' split
  all_goals simp
theorem quoteL_len (l : List UInt8) : (quoteL l).length ≤ 6 * l.length + 2 := by
  unfold quoteL
  have : (l.flatMap quoteC).length ≤ 6 * l.length := by
    induction l with
    | nil => simp
    | cons c r ih =>
      rw [List.flatMap_cons, List.length_append, List.length_cons]
      have := quoteC_len c
      omega
  simp only [List.length_append, List.length_cons, List.length_nil]
  omega
theorem tellT_len (t : Tok) : (tellT t).length ≤ 6 * t.text.length + 2 := by
  unfold tellT
  split
  · exact quoteL_len _
  · omega
end Go.Proofs.YtfagaflgdlomiaaGreatDoor
namespace Go.Proofs.YtfagaflgdlomiaaGreatDoor
open Go.RowKit
theorem joinW_inter : ∀ l : List (List UInt8), joinW l = Lib.join l [32]
  | [] => rfl
  | [x] => by simp [joinW, Lib.join, List.intercalate]
  | x :: y :: r => by
    rw [joinW, joinW_inter (y :: r)]
    have e : List.intersperse [32] (x :: y :: r) = x :: [32] :: List.intersperse [32] (y :: r) := by simp [List.intersperse]
    unfold Lib.join List.intercalate
    rw [e]
    simp
theorem sjoin_any (B : Nat) (v : Value) (l : List ByteArray) (w : World) (h : OwnS B v l w) (hl : l.length ≤ 1000000) (hs : (joinW (l.map (·.data.toList))).length ≤ 1000000000) :
    Calls Tryz.prog 47 #[v, .string ⟨#[32]⟩] w fun e w' => e = .returned (.string ⟨(joinW (l.map (·.data.toList))).toArray⟩) ∧ Below w.heap.size w w' := by
  rw [joinW_inter] at hs ⊢
  rcases h.cells with ⟨rfl, rfl⟩ | ⟨g, cap, rfl, hg, hc, hcl⟩
  · exact (Tryz.strings_Join_none none 0 ⟨#[32]⟩ w).mono fun e w' ⟨h1, h2⟩ => ⟨h1, by rw [h2]; exact Below.refl _ _⟩
  · exact Tryz.strings_Join g 0 cap l ⟨#[32]⟩ w hcl hg (by omega) hc (by simpa using Nat.le_trans hs (by decide))
end Go.Proofs.YtfagaflgdlomiaaGreatDoor
namespace Go.Proofs.YtfagaflgdlomiaaGreatDoor
open Go.RowKit
theorem okTs_last (L : List Tok) (k : Nat) (h : k < L.length) (hl : ¬ k + 1 < L.length) : okTs (L.drop k) = okT L[k] := by
  rw [List.drop_eq_getElem_cons h, List.drop_of_length_le (by omega)]; rfl
theorem okTs_step (L : List Tok) (k : Nat) (h : k < L.length) (hl : k + 1 < L.length) : okTs (L.drop k) = (okT L[k] && !(L[k].kind == 0) && okTs (L.drop (k + 1))) := by
  rw [List.drop_eq_getElem_cons h]
  rw [List.drop_eq_getElem_cons hl]
  rfl
/-- What Join answers. -/
def joinE (L : List Tok) : Value := if okTs L then .tuple #[.string ⟨(joinT L).toArray⟩, .int .i64 0] else .tuple #[.string ⟨#[]⟩, .int .i64 8]
theorem joinE_no {L : List Tok} (h : okTs L = false) : Ending.returned (.tuple #[.string ⟨#[]⟩, .int .i64 8]) = Ending.returned (joinE L) := by unfold joinE; rw [h]; rfl
theorem joinE_yes {L : List Tok} (h : okTs L = true) : Ending.returned (.tuple #[.string ⟨(joinT L).toArray⟩, .int .i64 0]) = Ending.returned (joinE L) := by unfold joinE; rw [h]; rfl
end Go.Proofs.YtfagaflgdlomiaaGreatDoor
namespace Go.Proofs.YtfagaflgdlomiaaGreatDoor
open Go.RowKit
def wordsB (L : List Tok) : List ByteArray := (wordsT L).map fun l => (⟨l.toArray⟩ : ByteArray)
theorem wordsB_end (t : Tok) (r : List Tok) (h : t.kind = 0) : wordsB (t :: r) = wordsB r := by unfold wordsB; rw [wordsT, if_pos h]
theorem wordsB_word (t : Tok) (r : List Tok) (h : t.kind ≠ 0) : wordsB (t :: r) = ⟨(tellT t).toArray⟩ :: wordsB r := by unfold wordsB; rw [wordsT, if_neg h]; rfl
theorem wordsB_list (L : List Tok) : (wordsB L).map (·.data.toList) = wordsT L := by
  unfold wordsB
  rw [List.map_map]
  exact (List.map_congr_left fun l _ => by simp).trans (List.map_id _)
theorem joinT_len (L : List Tok) (hz : ∀ t ∈ L, t.text.length ≤ 20000) : (joinT L).length ≤ 120003 * L.length := by
  have hr : ∀ L : List Tok, (∀ t ∈ L, t.text.length ≤ 20000) → (restT L).length ≤ 120003 * L.length := by
    intro L
    induction L with
    | nil => intro _; simp [restT]
    | cons t r ih =>
      intro h
      have h1 := h t (List.mem_cons_self ..)
      have h2 := ih fun u hu => h u (List.mem_cons_of_mem _ hu)
      have h3 := tellT_len t
      have h4 : (if t.kind = 0 then ([] : List UInt8) else [32]).length ≤ 1 := by split <;> simp
      rw [restT, List.length_append, List.length_append, List.length_cons]
      omega
  cases L with
  | nil => simp [joinT]
  | cons t r =>
    have h1 := hz t (List.mem_cons_self ..)
    have h2 := hr r fun u hu => hz u (List.mem_cons_of_mem _ hu)
    have h3 := tellT_len t
    rw [joinT, List.length_append, List.length_cons]
    omega
def QuoteDoes (w : World) : Prop := ∀ (x : ByteArray), x.size ≤ 100000 → Lib.validD x.data.toList = true → x.data.toList.length ≤ 16384 → ∀ W : World, Below w.heap.size w W →
    Calls Tryz.prog 67 #[.string x] W fun e w' => e = .returned (.tuple #[.string ⟨(quoteL x.data.toList).toArray⟩, .int .i64 0]) ∧ Below W.heap.size W w'
def CheckDoes (w : World) : Prop := ∀ (k : UInt8) (x : ByteArray) (p : Int), x.size ≤ 100000 → ∀ W : World, Below w.heap.size w W →
    Calls Tryz.prog 66 #[.agg #[.int .u8 (k.toNat : Int), .string x, .int .i64 p]] W fun e w' => e = .returned (.int .i64 (if okT ⟨k, x.data.toList, p⟩ then 0 else 8)) ∧ Below W.heap.size W w'
set_option maxRecDepth 100000 in
set_option maxHeartbeats 1000000 in
theorem ljoin_row (L : List Tok) (b off cap : Nat) (hl : L.length ≤ 3000) (hz : ∀ t ∈ L, t.text.length ≤ 20000) (w : World) (HC : CheckDoes w) (HQQ : QuoteDoes w) (h1 : TokRow b off L w) :
    Calls Tryz.prog 40 #[.slice (some ⟨b, off, none⟩) L.length cap] w fun e w' => e = .returned (joinE L) ∧ Below w.heap.size w w' := by
  have H1 := Lib.hid h1
  have HZ := Lib.hid hz
  have HCC := Lib.hid HC
  have HQT := Lib.hid HQQ
  obtain ⟨r, hr⟩ : ∃ r, okTs L = r := ⟨_, rfl⟩
  have HR0 := Lib.hid hr
  have HR : Hid (okTs (L.drop 0) = r) := Lib.hid hr
  obtain ⟨E, hE⟩ : ∃ E, joinE L = E := ⟨_, rfl⟩
  have HE := Lib.hid hE
  have HW : Hid ([] ++ wordsB (L.drop 0) = wordsB L) := Lib.hid rfl
  rw [hE]
  clear hr hE h1 hz HC HQQ
  go_enter Tryz.func40, Tryz.ntmps40
  go_wp2_with fail
  go_loopw [4, 11] (fun v i wr => ∃ (k : Nat) (out : List ByteArray) (ov : Value), ov = v ∧ k ≤ L.length ∧ i = .int .i64 k ∧ out.length ≤ k ∧ Hid (OwnS w.heap.size ov out wr) ∧ Hid (out ++ wordsB (L.drop k) = wordsB L) ∧ Hid (okTs (L.drop k) = r) ∧ Hid (Below w.heap.size w wr)) (fun v i wr => L.length - (intOf i).toNat)
  case atStart => exact ⟨0, [], _, rfl, Nat.zero_le _, rfl, Nat.le_refl _, Lib.hid (OwnS.nil _ _), HW, HR, Lib.hid (Below.refl _ _)⟩
  case round =>
    rename World => wr
    obtain ⟨k, out, ov, rfl, hk, rfl, hout, HO, HQ, HS, HB⟩ := hrel
    by_cases hlt : k < L.length
    · obtain ⟨a0, a1, a2⟩ := (H1.out.below' HB.out) k hlt
      have hxs := HZ.out L[k] (List.getElem_mem _)
      have hxz : (⟨L[k].text.toArray⟩ : ByteArray).size = L[k].text.length := by show L[k].text.toArray.size = _; simp
      have H2 := Lib.hid (fun W hW => HCC.out L[k].kind ⟨L[k].text.toArray⟩ L[k].pos (by omega) W hW)
      have htt : (⟨L[k].kind, (⟨L[k].text.toArray⟩ : ByteArray).data.toList, L[k].pos⟩ : Tok) = L[k] := by simp
      rw [htt] at H2
      have hsz := HB.out.size
      have hstep := HS.out
      have hlast := okTs_last L k hlt
      have hnext := okTs_step L k hlt
      have hkind : ((L[k].kind.toNat : Int) = 0) ↔ L[k].kind = 0 := by
        constructor
        · intro h; exact UInt8.toNat_inj.1 (by show L[k].kind.toNat = 0; omega)
        · intro h; rw [h]; rfl
      clear hxs hxz htt HS
      cases hm : okT L[k] with
      | false =>
        rw [hm, if_neg Bool.false_ne_true] at H2
        have HF : Hid (Ending.returned (.tuple #[.string ⟨#[]⟩, .int .i64 8]) = Ending.returned E) := Lib.hid (by
          have h0 : okTs (L.drop k) = false := by
            by_cases hk1 : k + 1 < L.length
            · rw [hnext hk1, hm]; rfl
            · rw [hlast hk1, hm]
          rw [← HE.out]
          exact joinE_no (HR0.out.trans (hstep.symm.trans h0)))
        clear hm hnext hlast hstep hkind
        generalize (L[k].kind.toNat : Int) = ka at *
        generalize L[k].pos = pa at *
        generalize (⟨L[k].text.toArray⟩ : ByteArray) = x at *
        go_wp2_with fail
        refine (H2.out _ (HB.out.alloc hsz _)).mono ?_; rintro e w1 ⟨rfl, hb⟩
        have hh : w1.heap[wr.heap.size]? = some (.cells #[.int .u8 ka, .string x, .int .i64 pa] 123 (0, 0)) := (hb.block _ (by simp)).trans (heap_alloc_new wr _)
        have c0 : w1.cell? ⟨wr.heap.size, 0, none⟩ = some (.int .u8 ka) := by rw [Lib.cell_of_heap hh]; rfl
        have c1 : w1.cell? ⟨wr.heap.size, 1, none⟩ = some (.string x) := by rw [Lib.cell_of_heap hh]; rfl
        have c2 : w1.cell? ⟨wr.heap.size, 2, none⟩ = some (.int .i64 pa) := by rw [Lib.cell_of_heap hh]; rfl
        have hbw1 := (HB.out.alloc hsz _).trans (hb.mono (by simp; omega))
        have hsz1 := hbw1.size
        have HB1 := Lib.hid hbw1
        have HO1 := Lib.hid ((HO.out.alloc (.cells #[.int .u8 ka, .string x, .int .i64 pa] 123)).below hb)
        have HH := Lib.hid hh
        clear hb hh hbw1
        go_wp2_with fail
        go_ret2
        exact ⟨HF.out, HB1.out⟩
      | true =>
        rw [hm, if_pos rfl] at H2
        have hdw := List.drop_eq_getElem_cons hlt
        by_cases kk : L[k].kind = 0
        · have q0 : ((L[k].kind.toNat : Int) == 0) = true := beq_iff_eq.2 (hkind.2 kk)
          by_cases hk1 : k + 1 < L.length
          · have HF : Hid (Ending.returned (.tuple #[.string ⟨#[]⟩, .int .i64 8]) = Ending.returned E) := Lib.hid (by
              have h0 : okTs (L.drop k) = false := by rw [hnext hk1, kk]; simp
              rw [← HE.out]
              exact joinE_no (HR0.out.trans (hstep.symm.trans h0)))
            have hki : (k : Int) < (L.length : Int) - 1 := by omega
            clear hm hnext hlast hstep hkind kk hdw
            generalize (L[k].kind.toNat : Int) = ka at *
            generalize L[k].pos = pa at *
            generalize (⟨L[k].text.toArray⟩ : ByteArray) = x at *
            go_wp2_with fail
            refine (H2.out _ (HB.out.alloc hsz _)).mono ?_; rintro e w1 ⟨rfl, hb⟩
            have hh : w1.heap[wr.heap.size]? = some (.cells #[.int .u8 ka, .string x, .int .i64 pa] 123 (0, 0)) := (hb.block _ (by simp)).trans (heap_alloc_new wr _)
            have c0 : w1.cell? ⟨wr.heap.size, 0, none⟩ = some (.int .u8 ka) := by rw [Lib.cell_of_heap hh]; rfl
            have c1 : w1.cell? ⟨wr.heap.size, 1, none⟩ = some (.string x) := by rw [Lib.cell_of_heap hh]; rfl
            have c2 : w1.cell? ⟨wr.heap.size, 2, none⟩ = some (.int .i64 pa) := by rw [Lib.cell_of_heap hh]; rfl
            have hbw1 := (HB.out.alloc hsz _).trans (hb.mono (by simp; omega))
            have hsz1 := hbw1.size
            have HB1 := Lib.hid hbw1
            have HO1 := Lib.hid ((HO.out.alloc (.cells #[.int .u8 ka, .string x, .int .i64 pa] 123)).below hb)
            have HH := Lib.hid hh
            clear hb hh hbw1
            go_wp2_with fail
            go_ret2
            exact ⟨HF.out, HB1.out⟩
          · have HS2 : Hid (okTs (L.drop (k + 1)) = r) := Lib.hid (by
              rw [← hstep, hlast hk1, hm, List.drop_of_length_le (by omega)]; rfl)
            have HQ2 : Hid (out ++ wordsB (L.drop (k + 1)) = wordsB L) := Lib.hid (by
              have := HQ.out
              rw [hdw, wordsB_end _ _ kk] at this
              exact this)
            have hki : ¬ (k : Int) < (L.length : Int) - 1 := by omega
            clear hm hnext hlast hstep hkind kk hdw HQ
            generalize (L[k].kind.toNat : Int) = ka at *
            generalize L[k].pos = pa at *
            generalize (⟨L[k].text.toArray⟩ : ByteArray) = x at *
            go_wp2_with fail
            refine (H2.out _ (HB.out.alloc hsz _)).mono ?_; rintro e w1 ⟨rfl, hb⟩
            have hh : w1.heap[wr.heap.size]? = some (.cells #[.int .u8 ka, .string x, .int .i64 pa] 123 (0, 0)) := (hb.block _ (by simp)).trans (heap_alloc_new wr _)
            have c0 : w1.cell? ⟨wr.heap.size, 0, none⟩ = some (.int .u8 ka) := by rw [Lib.cell_of_heap hh]; rfl
            have c1 : w1.cell? ⟨wr.heap.size, 1, none⟩ = some (.string x) := by rw [Lib.cell_of_heap hh]; rfl
            have c2 : w1.cell? ⟨wr.heap.size, 2, none⟩ = some (.int .i64 pa) := by rw [Lib.cell_of_heap hh]; rfl
            have hbw1 := (HB.out.alloc hsz _).trans (hb.mono (by simp; omega))
            have hsz1 := hbw1.size
            have HB1 := Lib.hid hbw1
            have HO1 := Lib.hid ((HO.out.alloc (.cells #[.int .u8 ka, .string x, .int .i64 pa] 123)).below hb)
            have HH := Lib.hid hh
            clear hb hh hbw1
            go_wp2_with fail
            go_roundw
            case rel => exact ⟨k + 1, out, _, rfl, by omega, by go_num, by omega, HO1, HQ2, HS2, HB1⟩
            case measure => simp [intOf]; omega
        · have q0 : ((L[k].kind.toNat : Int) == 0) = false := beq_eq_false_iff_ne.2 fun h => kk (hkind.1 h)
          have HS2 : Hid (okTs (L.drop (k + 1)) = r) := Lib.hid (by
            by_cases hk1 : k + 1 < L.length
            · rw [← hstep, hnext hk1, hm, beq_eq_false_iff_ne.2 kk]; simp
            · rw [← hstep, hlast hk1, hm, List.drop_of_length_le (by omega)]; rfl)
          have HQ2 : Hid ((out ++ [⟨(tellT L[k]).toArray⟩]) ++ wordsB (L.drop (k + 1)) = wordsB L) := Lib.hid (by
            have := HQ.out
            rw [hdw, wordsB_word _ _ kk] at this
            rw [← this]; simp)
          by_cases k3 : L[k].kind = 3
          · have q3 : ((L[k].kind.toNat : Int) == 3) = true := by rw [k3]; rfl
            have htx : textB L[k].text = true := by
              unfold okT at hm
              rw [k3] at hm
              simpa using hm
            have H5 : Hid (∀ W : World, Below w.heap.size w W → Calls Tryz.prog 67 #[.string ⟨L[k].text.toArray⟩] W fun e w' => e = .returned (.tuple #[.string ⟨(tellT L[k]).toArray⟩, .int .i64 0]) ∧ Below W.heap.size W w') := Lib.hid (by
              unfold textB at htx
              simp only [Bool.and_eq_true, decide_eq_true_eq] at htx
              have ht : tellT L[k] = quoteL L[k].text := by unfold tellT; rw [if_pos k3]
              rw [ht]
              have hq := HQT.out ⟨L[k].text.toArray⟩ (by show L[k].text.toArray.size ≤ _; simp; omega) (by simpa using htx.2) (by simpa using htx.1)
              simpa using hq)
            clear hm hnext hlast hstep hkind kk hdw HQ htx k3
            generalize (⟨(tellT L[k]).toArray⟩ : ByteArray) = tx at *
            generalize (L[k].kind.toNat : Int) = ka at *
            generalize L[k].pos = pa at *
            generalize (⟨L[k].text.toArray⟩ : ByteArray) = x at *
            go_wp2_with fail
            refine (H2.out _ (HB.out.alloc hsz _)).mono ?_; rintro e w1 ⟨rfl, hb⟩
            have hh : w1.heap[wr.heap.size]? = some (.cells #[.int .u8 ka, .string x, .int .i64 pa] 123 (0, 0)) := (hb.block _ (by simp)).trans (heap_alloc_new wr _)
            have c0 : w1.cell? ⟨wr.heap.size, 0, none⟩ = some (.int .u8 ka) := by rw [Lib.cell_of_heap hh]; rfl
            have c1 : w1.cell? ⟨wr.heap.size, 1, none⟩ = some (.string x) := by rw [Lib.cell_of_heap hh]; rfl
            have c2 : w1.cell? ⟨wr.heap.size, 2, none⟩ = some (.int .i64 pa) := by rw [Lib.cell_of_heap hh]; rfl
            have hbw1 := (HB.out.alloc hsz _).trans (hb.mono (by simp; omega))
            have hsz1 := hbw1.size
            have HB1 := Lib.hid hbw1
            have HO1 := Lib.hid ((HO.out.alloc (.cells #[.int .u8 ka, .string x, .int .i64 pa] 123)).below hb)
            have HH := Lib.hid hh
            clear hb hh hbw1
            go_wp2_with fail
            refine (H5.out _ HB1.out).mono ?_; rintro e w2 ⟨rfl, hb⟩
            have HO2 := Lib.hid (HO1.out.below hb)
            have hbw2 := HB1.out.trans (hb.mono hsz1)
            have hsz2 := hbw2.size
            clear hb HO1
            go_wp2_with (at_builtin; refine wpList_pushS rfl _ _ rfl w.heap.size ov out rfl (HO2.out.alloc _) ⟨w2.heap.size, 0, none⟩ 1 tx rfl (new_cell0 w2 _ _) ?c1 ?c2 ?_)
            case c1 => omega
            case c2 => simp; omega
            intro v' w3 hown' hgrow
            have HB3 : Hid (Below w.heap.size w w3) := Lib.hid ((hbw2.alloc hsz2 _).grown hgrow (by simp; omega) HO2.out.lt)
            have HO3 := Lib.hid hown'
            clear hown' hgrow HO2 hbw2
            go_wp2_with fail
            go_roundw
            case rel => exact ⟨k + 1, out ++ [tx], _, rfl, by omega, by go_num, by simp; omega, HO3, HQ2, HS2, HB3⟩
            case measure => simp [intOf]; omega
          · have q3 : ((L[k].kind.toNat : Int) == 3) = false := by
              rw [beq_eq_false_iff_ne]; intro h; exact k3 (UInt8.toNat_inj.1 (by show L[k].kind.toNat = 3; omega))
            have ht : tellT L[k] = L[k].text := by unfold tellT; rw [if_neg k3]
            rw [ht] at HQ2
            clear hm hnext hlast hstep hkind kk hdw HQ k3 ht
            generalize (L[k].kind.toNat : Int) = ka at *
            generalize L[k].pos = pa at *
            generalize (⟨L[k].text.toArray⟩ : ByteArray) = x at *
            go_wp2_with fail
            refine (H2.out _ (HB.out.alloc hsz _)).mono ?_; rintro e w1 ⟨rfl, hb⟩
            have hh : w1.heap[wr.heap.size]? = some (.cells #[.int .u8 ka, .string x, .int .i64 pa] 123 (0, 0)) := (hb.block _ (by simp)).trans (heap_alloc_new wr _)
            have c0 : w1.cell? ⟨wr.heap.size, 0, none⟩ = some (.int .u8 ka) := by rw [Lib.cell_of_heap hh]; rfl
            have c1 : w1.cell? ⟨wr.heap.size, 1, none⟩ = some (.string x) := by rw [Lib.cell_of_heap hh]; rfl
            have c2 : w1.cell? ⟨wr.heap.size, 2, none⟩ = some (.int .i64 pa) := by rw [Lib.cell_of_heap hh]; rfl
            have hbw1 := (HB.out.alloc hsz _).trans (hb.mono (by simp; omega))
            have hsz1 := hbw1.size
            have HB1 := Lib.hid hbw1
            have HO1 := Lib.hid ((HO.out.alloc (.cells #[.int .u8 ka, .string x, .int .i64 pa] 123)).below hb)
            have HH := Lib.hid hh
            clear hb hh hbw1
            go_wp2_with (at_builtin; refine wpList_pushS rfl _ _ rfl w.heap.size ov out rfl (HO1.out.alloc _) ⟨w1.heap.size, 0, none⟩ 1 x rfl (new_cell0 w1 _ _) ?c1 ?c2 ?_)
            case c1 => omega
            case c2 => simp; omega
            intro v' w3 hown' hgrow
            have HB3 : Hid (Below w.heap.size w w3) := Lib.hid ((HB1.out.alloc hsz1 _).grown hgrow (by simp; omega) HO1.out.lt)
            have HO3 := Lib.hid hown'
            clear hown' hgrow HO1
            go_wp2_with fail
            go_roundw
            case rel => exact ⟨k + 1, out ++ [x], _, rfl, by omega, by go_num, by simp; omega, HO3, HQ2, HS2, HB3⟩
            case measure => simp [intOf]; omega
    · have hd : L.drop k = [] := List.drop_of_length_le (by omega)
      have HF : Hid (Ending.returned (.tuple #[.string ⟨(joinT L).toArray⟩, .int .i64 0]) = Ending.returned E) := Lib.hid (by
        have h0 := HS.out
        rw [hd] at h0
        rw [← HE.out]
        exact joinE_yes (HR0.out.trans h0.symm))
      have hok : okTs L = true := by
        have h0 := HS.out
        rw [hd] at h0
        exact HR0.out.trans h0.symm
      have hout' : out = wordsB L := by
        have := HQ.out
        rw [hd] at this
        simpa [wordsB, wordsT] using this
      have hsz := HB.out.size
      have H3 : Hid (Calls Tryz.prog 47 #[ov, .string ⟨#[32]⟩] wr fun e w' => e = .returned (.string ⟨(joinT L).toArray⟩) ∧ Below wr.heap.size wr w') := Lib.hid (by
        have hj : joinW (out.map (·.data.toList)) = joinT L := by rw [hout', wordsB_list, join_words L hok]
        have hjl := joinT_len L HZ.out
        have h := sjoin_any w.heap.size ov out wr HO.out (by omega) (by rw [hj]; omega)
        rw [hj] at h
        exact h)
      clear HS HQ hd hok hout'
      generalize (⟨(joinT L).toArray⟩ : ByteArray) = q at *
      go_wp2_with fail
      refine H3.out.mono ?_; rintro e w1 ⟨rfl, hb⟩
      have HB1 := Lib.hid (HB.out.trans (hb.mono hsz))
      clear hb
      go_wp2_with fail
      go_ret2
      exact ⟨HF.out, HB1.out⟩
set_option maxRecDepth 100000 in
theorem ljoin_none (a : Option Addr) (cap : Nat) (w : World) :
    Calls Tryz.prog 40 #[.slice a 0 cap] w fun e w' => e = .returned (joinE []) ∧ Below w.heap.size w w' := by
  have H3 := Lib.hid (fun w => sjoin_any 0 (.slice none 0 0) [] w (OwnS.nil _ _) (by decide) (by decide))
  go_enter Tryz.func40, Tryz.ntmps40
  go_wp2_with fail
  refine wp_loop_rounds 1 ?_; rw [rounds_succ]
  go_wp2_with fail
  refine (H3.out _).mono ?_; rintro e w1 ⟨rfl, hb⟩
  go_wp2_with fail
  go_ret2
  exact ⟨rfl, hb⟩
theorem ljoin_any (L : List Tok) (u : Value) (hl : L.length ≤ 3000) (hz : ∀ t ∈ L, t.text.length ≤ 20000) (w : World) (hE : EnvU w) (h1 : TokSl u L w) :
    Calls Tryz.prog 40 #[u] w fun e w' => e = .returned (joinE L) ∧ Below w.heap.size w w' := by
  rcases h1 with ⟨a1, c1, rfl, rfl, _⟩ | ⟨b1, o1, c1, rfl, h1⟩
  · exact ljoin_none a1 c1 w
  · refine ljoin_row L b1 o1 c1 hl hz w (fun k x p hx W hW => lcheck_any k x p (by omega) W (hE.below hW)) (fun x hx hv hn W hW => ?_) h1
    refine (jquote_any x hx W (hE.below hW)).mono ?_
    rintro e w' ⟨h2, h3⟩
    refine ⟨?_, h3⟩
    have hc : chkE x.data.toList = 0 := by unfold chkE; rw [if_neg (by omega), hv]; rfl
    rw [h2, if_pos hc]
end Go.Proofs.YtfagaflgdlomiaaGreatDoor
namespace Go.Proofs.YtfagaflgdlomiaaGreatDoor
open Go.Lib
def blankJ (c : UInt8) : Bool := c == 32 || c == 9 || c == 13 || c == 10
def blJ (l : List UInt8) : List UInt8 := l.dropWhile blankJ
/-- A text that has to stand next: what stands behind it. -/
def tkJ (what l : List UInt8) : Option (List UInt8) := if what.isPrefixOf l then some (l.drop what.length) else none
/-- Behind a part of a number that has digits. -/
def partJ (mark sign : UInt8 → Bool) : List UInt8 → Option (List UInt8)
  | [] => none
  | c :: r => if mark c then
      (let r1 := if (r.head?.map sign).getD false then r.tail else r
       if (r1.takeWhile isDig).isEmpty then none else some (r1.dropWhile isDig)) else none
/-- The digits ahead of a point. -/
def wholeJ (l : List UInt8) : List UInt8 := if l.head? == some 48 then [48] else l.takeWhile isDig
def pointJ : List UInt8 → Option (List UInt8) := partJ (fun c => c == 46) (fun _ => false)
def powerJ : List UInt8 → Option (List UInt8) := partJ (fun c => c == 101 || c == 69) (fun c => c == 43 || c == 45)
def numJ (l : List UInt8) : Except Int (Int × List UInt8) :=
  let d := wholeJ (body l)
  if d.isEmpty then .error 40 else
  let l2 := (body l).drop d.length
  let l3 := (pointJ l2).getD l2
  let l4 := (powerJ l3).getD l3
  let t := (if below l then [45] else []) ++ d
  if (pointJ l2).isSome || (powerJ l3).isSome || rdE t != 0 then .error 41 else .ok (rdV t, l4)
def hexJ (c : UInt8) : Option Nat :=
  if 48 ≤ c.toNat ∧ c.toNat ≤ 57 then some (c.toNat - 48) else if 97 ≤ c.toNat ∧ c.toNat ≤ 102 then some (c.toNat - 87)
  else if 65 ≤ c.toNat ∧ c.toNat ≤ 70 then some (c.toNat - 55) else none
/-- So many digits to the base of 16, behind a number. -/
def hexsJ : Nat → Nat → List UInt8 → Option (Nat × List UInt8)
  | 0, n, l => some (n, l)
  | _ + 1, _, [] => none
  | k + 1, n, c :: r => match hexJ c with
    | none => none
    | some d => hexsJ k (n * 16 + d) r
/-- What the letters behind a backslash tell that tell one byte. -/
def letJ (c : UInt8) : Option Nat :=
  if c = 34 then some 34 else if c = 92 then some 92 else if c = 47 then some 47 else if c = 98 then some 8 else if c = 102 then some 12
  else if c = 110 then some 10 else if c = 114 then some 13 else if c = 116 then some 9 else none
/-- Behind a high half: the low one. -/
def lowJ (n : Nat) (l : List UInt8) : Option (Nat × List UInt8) := match tkJ [92, 117] l with
  | none => none
  | some r => match hexsJ 4 0 r with
    | none => none
    | some (m, t) => if m < 56320 ∨ 57343 < m then none else some (65536 + (n - 55296) * 1024 + (m - 56320), t)
def escJ : List UInt8 → Option (Nat × List UInt8)
  | [] => none
  | c :: r => match letJ c with
    | some p => some (p, r)
    | none => if c ≠ 117 then none else match hexsJ 4 0 r with
      | none => none
      | some (n, t) => if 56320 ≤ n ∧ n ≤ 57343 then none else if 55296 ≤ n ∧ n ≤ 56319 then lowJ n t else some (n, t)
/-- Behind the first quote: the code points, and what stands behind the last quote. -/
def strGo : Nat → List UInt8 → Option (List Nat × List UInt8)
  | 0, _ => none
  | _ + 1, [] => none
  | f + 1, c :: r => if c = 34 then some ([], r) else if c.toNat < 32 then none
    else if c = 92 then (match escJ r with
      | none => none
      | some (p, t) => (strGo f t).map fun x => (p :: x.1, x.2))
    else (strGo f ((c :: r).drop (decodeL (c :: r)).2)).map fun x => ((decodeL (c :: r)).1 :: x.1, x.2)
def strJ (l : List UInt8) : Option (List UInt8 × List UInt8) := match tkJ [34] l with
  | none => none
  | some r => (strGo r.length r).map fun x => (x.1.flatMap encN, x.2)
/-- A member's name and the colon: the name, what stands behind. -/
def memJ (nm : List (List UInt8)) (l : List UInt8) : Except Int (List UInt8 × List UInt8) := match strJ l with
  | none => .error 40
  | some (s, t) => if nm.contains s then .error 42 else if s.isEmpty then .error 8 else match tkJ [58] (blJ t) with
    | none => .error 40
    | some r => .ok (s, r)
/-- The items, the members, until the bracket: how many, what stands behind it, the cells. -/
def itemsJ (val : List UInt8 → List UInt8 → List Cel → Except Int (List UInt8 × List Cel)) (isO : Bool) : Nat → Nat → List (List UInt8) → List UInt8 → List Cel → Except Int (Nat × List UInt8 × List Cel)
  | 0, _, _, _, _ => .error 40
  | f + 1, n, nm, l, out => match tkJ [if isO then 125 else 93] l with
    | some r => .ok (n, r, out)
    | none => match (if n = 0 then some l else (tkJ [44] l).map blJ) with
      | none => .error 40
      | some l1 => match (if isO then memJ nm l1 else .ok ([], l1)) with
        | .error e => .error e
        | .ok (s, l2) => match val s l2 out with
          | .error e => .error e
          | .ok (l3, out2) => itemsJ val isO f (n + 1) (if isO then s :: nm else nm) (blJ l3) out2
def begJ (c : UInt8) : Bool := c == 123 || c == 91 || c == 34 || c == 116 || c == 102 || c == 110 || c == 45 || isDig c
def manyAt (k n : Nat) (out : List Cel) : List Cel := out.modify k fun c => { c with many := (n : Int) }
/-- A value that has nothing under it. -/
def leafJ (name : List UInt8) (c : UInt8) (l : List UInt8) (out : List Cel) : Except Int (List UInt8 × List Cel) :=
  if c = 34 then (match strJ l with | none => .error 40 | some (s, t) => .ok (t, out ++ [⟨3, name, s, 0, 0⟩]))
  else if c = 116 then (match tkJ [116, 114, 117, 101] l with | none => .error 40 | some t => .ok (t, out ++ [⟨1, name, [], 1, 0⟩]))
  else if c = 102 then (match tkJ [102, 97, 108, 115, 101] l with | none => .error 40 | some t => .ok (t, out ++ [⟨1, name, [], 0, 0⟩]))
  else if c = 110 then (match tkJ [110, 117, 108, 108] l with | none => .error 40 | some t => .ok (t, out ++ [⟨0, name, [], 0, 0⟩]))
  else (match numJ l with | .error e => .error e | .ok (n, t) => .ok (t, out ++ [⟨2, name, [], n, 0⟩]))
/-- A value: so many brackets more may be opened. -/
def valJ : Nat → List UInt8 → List UInt8 → List Cel → Except Int (List UInt8 × List Cel)
  | d, name, l, out => match blJ l with
    | [] => .error 40
    | c :: r => if !begJ c then .error 40 else if out.length = 2048 then .error 4 else
      if c = 123 ∨ c = 91 then (match d with
        | 0 => .error 30
        | d + 1 => match itemsJ (valJ d) (c == 123) (r.length + 1) 0 [] (blJ r) (out ++ [⟨if c = 123 then 7 else 6, name, [], 0, 0⟩]) with
          | .error e => .error e
          | .ok (n, t, out2) => .ok (t, manyAt out.length n out2))
      else leafJ name c (c :: r) out
/-- What json.Read tells of bytes that are a text. -/
def readJ (l : List UInt8) : Except Int (List Cel) := match valJ 16 [] l [] with
  | .error e => .error e
  | .ok (t, out) => if (blJ t).isEmpty then .ok out else .error 40
end Go.Proofs.YtfagaflgdlomiaaGreatDoor
namespace Go.Proofs.YtfagaflgdlomiaaGreatDoor
open Go.RowKit
/-- All older blocks but one stay. -/
def RK (r : Nat) (W W' : World) : Prop := Below r W W' ∧ ∀ (k : Nat) (o : Obj), W.heap[k]? = some o → k ≠ r → W'.heap[k]? = some o
theorem RK.refl (r : Nat) (W : World) : RK r W W := ⟨Below.refl _ _, fun _ _ h _ => h⟩
theorem RK.trans {r : Nat} {W W' W'' : World} (h : RK r W W') (h' : RK r W' W'') : RK r W W'' := ⟨h.1.trans h'.1, fun k o hk hne => h'.2 k o (h.2 k o hk hne) hne⟩
theorem RK.of_below {r : Nat} {W W' : World} (h : Below W.heap.size W W') (hr : r < W.heap.size) : RK r W W' := ⟨h.mono (Nat.le_of_lt hr), fun k o hk _ => (h.block k (heap_lt hk)).trans hk⟩
theorem pset {b i : Nat} {W : World} {A A' : Array Value} {T : TypeId} (h : W.heap[b]? = some (.cells A T (0, 0))) (v : Value) (hA : A.setIfInBounds i v = A') : (W.setCell ⟨b, i, none⟩ v).heap[b]? = some (.cells A' T (0, 0)) := by
  subst hA
  have hlt : b < W.heap.size := (Array.getElem?_eq_some_iff.1 h).1
  simp only [World.setCell, Array.getElem?_modify]
  simp [h]
theorem RK.set (r i : Nat) (W : World) (v : Value) : RK r W (W.setCell ⟨r, i, none⟩ v) := by
  refine ⟨(Below.refl r W).setCell (p := ⟨r, i, none⟩) (Nat.le_refl _) v, fun k o hk hne => ?_⟩
  rw [Below.heap_setCell _ _ _ _ hne]; exact hk
end Go.Proofs.YtfagaflgdlomiaaGreatDoor
namespace Go.Proofs.YtfagaflgdlomiaaGreatDoor
open Go.RowKit Go.Lib
section
variable {p tb off cap : Nat} {T : List Tok} {fx : Bool} {k : Nat} {op : Int} {v : Value} {W W' : World}
theorem TokRow.rk {L : List Tok} (h : TokRow tb off L W) (hk : RK p W W') (hne : tb ≠ p) : TokRow tb off L W' := by
  intro i hi
  obtain ⟨h1, h2, h3⟩ := h i hi
  have hb : W'.heap[tb]? = W.heap[tb]? := by
    have hlt := lt_of_cell h1
    obtain ⟨o, ho⟩ : ∃ o, W.heap[tb]? = some o := ⟨_, Array.getElem?_eq_getElem hlt⟩
    rw [ho]; exact hk.2 tb o ho hne
  refine ⟨?_, ?_, ?_⟩
  · rw [← h1]; unfold World.cell?; rw [hb]
  · rw [← h2]; unfold World.cell?; rw [hb]
  · rw [← h3]; unfold World.cell?; rw [hb]
end
end Go.Proofs.YtfagaflgdlomiaaGreatDoor
namespace Go.Proofs.YtfagaflgdlomiaaGreatDoor
open Go.Lib
/-- What is left of a text is a text, and no longer. -/
def Cut (l t : List UInt8) : Prop := t.length ≤ l.length ∧ (validD l = true → validD t = true)
theorem Cut.refl (l : List UInt8) : Cut l l := ⟨Nat.le_refl _, id⟩
theorem Cut.trans {l t u : List UInt8} (h : Cut l t) (h' : Cut t u) : Cut l u := ⟨Nat.le_trans h'.1 h.1, fun x => h'.2 (h.2 x)⟩
theorem decode_ascii (c : UInt8) (l : List UInt8) (h : c.toNat < 128) : decodeL (c :: l) = (c.toNat, 1) := by
  have ho : oneB (c :: l) 1 = true := by
    unfold oneB
    rw [decide_eq_true (by simp), List.take_succ_cons, List.take_zero]
    simp only [Bool.true_and, Bool.and_eq_true, beq_iff_eq, numN]
    refine ⟨by simp only [isPt, decide_eq_true_eq]; omega, ?_⟩
    unfold encN
    rw [if_pos h, toN rfl]
  have := decode_one _ 1 ho
  rw [this]; rfl
theorem valid_cons (c : UInt8) (l : List UInt8) (h : c.toNat < 128) : validD (c :: l) = validD l := by
  rw [valid_step _ (by simp)]
  unfold wellB
  rw [decode_ascii c l h]
  rw [decide_eq_false (by intro h1; have := h1.1; simp at this; omega)]
  rfl
theorem cut_cons (c : UInt8) (l : List UInt8) (h : c.toNat < 128) : Cut (c :: l) l := ⟨by simp, fun x => by rw [valid_cons c l h] at x; exact x⟩
theorem cut_drop : ∀ (n : Nat) (l : List UInt8), (∀ c ∈ l.take n, c.toNat < 128) → Cut l (l.drop n)
  | 0, l, _ => by rw [List.drop_zero]; exact Cut.refl _
  | n + 1, [], _ => by rw [List.drop_nil]; exact Cut.refl _
  | n + 1, c :: l, h => by
    rw [List.drop_succ_cons]
    exact (cut_cons c l (h c (by simp))).trans (cut_drop n l fun x hx => h x (by simp [hx]))
theorem cut_while (p : UInt8 → Bool) (hp : ∀ c, p c = true → c.toNat < 128) : ∀ l : List UInt8, Cut l (l.dropWhile p)
  | [] => Cut.refl _
  | c :: l => by
    rw [List.dropWhile_cons]
    by_cases h : p c = true
    · rw [if_pos h]; exact (cut_cons c l (hp c h)).trans (cut_while p hp l)
    · rw [if_neg h]; exact Cut.refl _
theorem blank_ascii (c : UInt8) (h : blankJ c = true) : c.toNat < 128 := by
  unfold blankJ at h
  simp only [Bool.or_eq_true, beq_iff_eq] at h
  rcases h with ((h | h) | h) | h <;> (subst h; decide)
theorem cut_bl (l : List UInt8) : Cut l (blJ l) := cut_while _ blank_ascii l
theorem cut_tk (what l t : List UInt8) (hw : ∀ c ∈ what, c.toNat < 128) (h : tkJ what l = some t) : Cut l t ∧ t.length + what.length = l.length := by
  unfold tkJ at h
  split at h
  · rename_i hp
    injection h with h
    obtain ⟨u, rfl⟩ := List.isPrefixOf_iff_prefix.1 hp
    rw [List.drop_left] at h
    subst h
    refine ⟨?_, by rw [List.length_append]; omega⟩
    have := cut_drop what.length (what ++ u) (by rw [List.take_left]; exact hw)
    rw [List.drop_left] at this
    exact this
  · cases h
end Go.Proofs.YtfagaflgdlomiaaGreatDoor
namespace Go.Proofs.YtfagaflgdlomiaaGreatDoor
open Go.RowKit
/-- A slice that reads as numbers. -/
def IntSl (v : Value) (l : List Nat) (W : World) : Prop := (∃ a cap, v = .slice a 0 cap ∧ l = []) ∨ ∃ b off cap, v = .slice (some ⟨b, off, none⟩) l.length cap ∧ ∀ (j : Nat) (x : Nat), l[j]? = some x → W.cell? ⟨b, off + j, none⟩ = some (.int .i64 (x : Int))
theorem IntSl.below {v : Value} {l : List Nat} {w w' : World} (h : IntSl v l w) (hb : Below w.heap.size w w') : IntSl v l w' := by
  rcases h with h | ⟨b, off, cap, h1, h2⟩
  · exact Or.inl h
  · exact Or.inr ⟨b, off, cap, h1, fun j x hj => (hb.cell (p := ⟨b, _, none⟩) (lt_of_cell (h2 j x hj))).trans (h2 j x hj)⟩
theorem OwnI.sl {B : Nat} {v : Value} {l : List Nat} {w : World} (h : OwnI B v l w) : IntSl v l w := by
  obtain ⟨h1, h2⟩ := h
  rcases h2 with ⟨h2, h3⟩ | ⟨g, cap, cur, hv, hB, hg, hn, hc, hcs, ht⟩
  · exact Or.inl ⟨_, _, h2, List.eq_nil_of_length_eq_zero h3⟩
  · refine Or.inr ⟨g, 0, cap, hv, ?_⟩
    intro j x hj
    rw [Nat.mul_one] at ht
    have hjl : j < l.length := (List.getElem?_eq_some_iff.1 hj).1
    have e : cur.toList[j]? = some (.int .i64 (x : Int)) := by
      have : (cur.toList.take l.length)[j]? = some (.int .i64 (x : Int)) := by rw [ht]; unfold natCells; rw [List.getElem?_map, hj]; rfl
      rw [List.getElem?_take] at this
      simpa [hjl] using this
    rw [Nat.zero_add]
    refine (Lib.cell_of_heap hg j).trans ?_
    simpa using e
theorem OwnI.rk {B r : Nat} {v : Value} {l : List Nat} {w w' : World} (h : OwnI B v l w) (hk : RK r w w') (hr : r < B) : OwnI B v l w' := by
  obtain ⟨h1, h2⟩ := h
  refine ⟨h1, ?_⟩
  rcases h2 with h2 | ⟨g, cap, cur, hv, hB, hg, hrest⟩
  · exact Or.inl h2
  · exact Or.inr ⟨g, cap, cur, hv, hB, hk.2 g _ hg (by omega), hrest⟩
theorem RK.grown {r : Nat} {w W W' : World} {row : Option Nat} (h : RK r w W) (hg : W.grownBy W' row) (hr : ∀ k, row = some k → w.heap.size ≤ k) (hlt : r < w.heap.size) : RK r w W' := by
  have hs := h.1.size
  refine ⟨h.1.grown hg (by omega) (fun k hk => by have := hr k hk; omega), fun k o hk hne => ?_⟩
  have h1 := h.2 k o hk hne
  have hkl := heap_lt hk
  rw [hg.block k (heap_lt h1) (fun e => by have := hr k e.symm; omega)]
  exact h1
end Go.Proofs.YtfagaflgdlomiaaGreatDoor
namespace Go.Proofs.YtfagaflgdlomiaaGreatDoor
open Go.RowKit Go.Lib
abbrev Ex := Except Int (List UInt8)
def tkE (what : List UInt8) (E : Ex) : Ex := match E with
  | .error e => .error e
  | .ok l => match tkJ what l with | none => .error 40 | some t => .ok t
def blE (E : Ex) : Ex := match E with | .error e => .error e | .ok l => .ok (blJ l)
theorem tkE_none {what l : List UInt8} (h : tkJ what l = none) : tkE what (.ok l) = .error 40 := by simp [tkE, h]
theorem tkE_some {what l t : List UInt8} (h : tkJ what l = some t) : tkE what (.ok l) = .ok t := by simp [tkE, h]
/-- What is left is a text. -/
def VaE (E : Ex) : Prop := match E with | .error _ => True | .ok l => validD l = true
theorem VaE.tk {what : List UInt8} {E : Ex} (h : VaE E) (hw : ∀ c ∈ what, c.toNat < 128) : VaE (tkE what E) := by
  cases E with
  | error e => trivial
  | ok l =>
    cases ht : tkJ what l with
    | none => rw [tkE_none ht]; trivial
    | some t => rw [tkE_some ht]; exact (cut_tk what l t hw ht).1.2 h
theorem VaE.bl {E : Ex} (h : VaE E) : VaE (blE E) := by
  cases E with
  | error e => trivial
  | ok l => exact (cut_bl l).2 h
end Go.Proofs.YtfagaflgdlomiaaGreatDoor
namespace Go.Proofs.YtfagaflgdlomiaaGreatDoor
open Go.RowKit
def celFlat : List Cel → List Value
  | [] => []
  | t :: r => .int .u8 (t.kind.toNat : Int) :: .string ⟨t.name.toArray⟩ :: .string ⟨t.text.toArray⟩ :: .int .i64 t.num :: .int .i64 t.many :: celFlat r
theorem celFlat_len : ∀ L : List Cel, (celFlat L).length = L.length * 5
  | [] => rfl
  | t :: r => by rw [celFlat]; simp [celFlat_len r]; omega
theorem celFlat_get : ∀ (L : List Cel) (k : Nat) (h : k < L.length), (celFlat L)[k * 5]? = some (.int .u8 (L[k].kind.toNat : Int)) ∧ (celFlat L)[k * 5 + 1]? = some (.string ⟨L[k].name.toArray⟩) ∧ (celFlat L)[k * 5 + 2]? = some (.string ⟨L[k].text.toArray⟩) ∧ (celFlat L)[k * 5 + 3]? = some (.int .i64 L[k].num) ∧ (celFlat L)[k * 5 + 4]? = some (.int .i64 L[k].many)
  | [], k, h => by simp at h
  | t :: r, 0, h => by simp [celFlat]
  | t :: r, k + 1, h => by
    have ih := celFlat_get r k (by simpa using h)
    rw [show (k + 1) * 5 = k * 5 + 1 + 1 + 1 + 1 + 1 from by omega]
    simp only [celFlat, List.getElem?_cons_succ, List.getElem_cons_succ]
    exact ih
/-- A slice of cells of the call's own. -/
def OwnC (B : Nat) (v : Value) (L : List Cel) (W : World) : Prop := W.ownsRow B 38 5 v L.length (celFlat L)
theorem OwnC.nil (B : Nat) (W : World) : OwnC B (.slice none 0 0) [] W := World.ownsRow_nil W B 38 5
theorem OwnC.lt {B : Nat} {v : Value} {l : List Cel} {w : World} (h : OwnC B v l w) : ∀ k, v.ownBlock = some k → B ≤ k := fun k hk => (World.ownsRow.lt h k hk).1
theorem OwnC.sl {B : Nat} {v : Value} {L : List Cel} {w : World} (h : OwnC B v L w) : CelSl v L w := by
  obtain ⟨h1, h2⟩ := h
  rcases h2 with ⟨rfl, h2⟩ | ⟨g, cap, cur, rfl, hB, hg, hn, hc, hcs, ht⟩
  · exact Or.inl ⟨_, _, rfl, List.eq_nil_of_length_eq_zero h2, fun _ => rfl⟩
  · by_cases h0 : L = []
    · subst h0
      exact Or.inl ⟨_, _, rfl, rfl, fun h => by cases h⟩
    refine Or.inr ⟨g, 0, cap, rfl, ?_, List.length_pos_iff.2 h0⟩
    intro k hk
    obtain ⟨g0, g1, g2, g3, g4⟩ := celFlat_get L k hk
    have F : ∀ j u, (celFlat L)[j]? = some u → w.cell? ⟨g, 0 + j, none⟩ = some u := by
      intro j u hj
      have hjl : j < L.length * 5 := by rw [← celFlat_len]; exact (List.getElem?_eq_some_iff.1 hj).1
      rw [← ht, List.getElem?_take, if_pos hjl] at hj
      rw [Nat.zero_add]
      refine (Lib.cell_of_heap hg j).trans ?_
      simpa using hj
    exact ⟨F _ _ g0, F _ _ g1, F _ _ g2, F _ _ g3, F _ _ g4⟩
end Go.Proofs.YtfagaflgdlomiaaGreatDoor
namespace Go.Proofs.YtfagaflgdlomiaaGreatDoor
open Go.RowKit Go.Lib
/-- All older blocks stay but one, and but a slice's own. -/
def VK (r : Nat) (v : Value) (W W' : World) : Prop := Below r W W' ∧ ∀ (k : Nat) (o : Obj), W.heap[k]? = some o → k ≠ r → v.ownBlock ≠ some k → W'.heap[k]? = some o
theorem VK.refl (r : Nat) (v : Value) (W : World) : VK r v W W := ⟨Below.refl _ _, fun _ _ h _ _ => h⟩
theorem VK.rk {r : Nat} {v : Value} {W W' W'' : World} (h : VK r v W W') (h' : RK r W' W'') : VK r v W W'' := ⟨h.1.trans h'.1, fun k o hk hne hv => h'.2 k o (h.2 k o hk hne hv) hne⟩
theorem VK.trans {r : Nat} {v v1 : Value} {W W' W'' : World} (h : VK r v W W') (h' : VK r v1 W' W'') (ho : ∀ k, v1.ownBlock = some k → v.ownBlock = some k ∨ W.heap.size ≤ k) : VK r v W W'' :=
  ⟨h.1.trans h'.1, fun k o hk hne hv => h'.2 k o (h.2 k o hk hne hv) hne (fun e => by
    rcases ho k e with h1 | h1
    · exact hv h1
    · have := heap_lt hk; omega)⟩
theorem OwnC.below {B : Nat} {v : Value} {l : List Cel} {w w' : World} (h : OwnC B v l w) (hb : Below w.heap.size w w') : OwnC B v l w' := by
  obtain ⟨h1, h2⟩ := h
  refine ⟨h1, ?_⟩
  rcases h2 with h2 | ⟨g, cap, cur, hv, hB, hg, hrest⟩
  · exact Or.inl h2
  · exact Or.inr ⟨g, cap, cur, hv, hB, (hb.block g (heap_lt hg)).trans hg, hrest⟩
theorem OwnC.rk {B r : Nat} {v : Value} {l : List Cel} {w w' : World} (h : OwnC B v l w) (hk : RK r w w') (hr : r < B) : OwnC B v l w' := by
  obtain ⟨h1, h2⟩ := h
  refine ⟨h1, ?_⟩
  rcases h2 with h2 | ⟨g, cap, cur, hv, hB, hg, hrest⟩
  · exact Or.inl h2
  · exact Or.inr ⟨g, cap, cur, hv, hB, hk.2 g _ hg (by omega), hrest⟩
theorem OwnS.rk {B r : Nat} {v : Value} {l : List ByteArray} {w w' : World} (h : OwnS B v l w) (hk : RK r w w') (hr : r < B) : OwnS B v l w' := by
  obtain ⟨h1, h2⟩ := h
  refine ⟨h1, ?_⟩
  rcases h2 with h2 | ⟨g, cap, cur, hv, hB, hg, hrest⟩
  · exact Or.inl h2
  · exact Or.inr ⟨g, cap, cur, hv, hB, hk.2 g _ hg (by omega), hrest⟩
/-- The own block, and the cells of one place. -/
theorem OwnC.form {B : Nat} {v : Value} {L : List Cel} {W : World} (h : OwnC B v L W) (k : Nat) (hk : k < L.length) : ∃ g cap, v = .slice (some ⟨g, 0, none⟩) L.length cap ∧ B ≤ g ∧ g < W.heap.size ∧ (∀ i, W.frozen? ⟨g, i, none⟩ = false) ∧
    W.cell? ⟨g, k * 5, none⟩ = some (.int .u8 (L[k].kind.toNat : Int)) ∧ W.cell? ⟨g, k * 5 + 2, none⟩ = some (.string ⟨L[k].text.toArray⟩) ∧ W.cell? ⟨g, k * 5 + 3, none⟩ = some (.int .i64 L[k].num) ∧ W.cell? ⟨g, k * 5 + 4, none⟩ = some (.int .i64 L[k].many) := by
  obtain ⟨h1, h2⟩ := h
  rcases h2 with ⟨rfl, h2⟩ | ⟨g, cap, cur, rfl, hB, hg, hn, hc, hcs, ht⟩
  · omega
  refine ⟨g, cap, rfl, hB, heap_lt hg, fun i => Lib.frozen_of_heap hg i, ?_⟩
  obtain ⟨g0, g1, g2, g3, g4⟩ := celFlat_get L k hk
  have F : ∀ j u, (celFlat L)[j]? = some u → W.cell? ⟨g, j, none⟩ = some u := by
    intro j u hj
    have hjl : j < L.length * 5 := by rw [← celFlat_len]; exact (List.getElem?_eq_some_iff.1 hj).1
    rw [← ht, List.getElem?_take, if_pos hjl] at hj
    refine (Lib.cell_of_heap hg j).trans ?_
    simpa using hj
  exact ⟨F _ _ g0, F _ _ g2, F _ _ g3, F _ _ g4⟩
theorem OwnC.set {B g i m cap : Nat} {v u : Value} {L L' : List Cel} {W : World} (h : OwnC B v L W) (hv : v = .slice (some ⟨g, 0, none⟩) m cap) (hl : L'.length = L.length) (hf : celFlat L' = (celFlat L).set i u) : OwnC B v L' (W.setCell ⟨g, i, none⟩ u) := by
  obtain ⟨h1, h2⟩ := h
  refine ⟨by rw [hl, hf, List.length_set]; exact h1, ?_⟩
  rcases h2 with ⟨rfl, h2⟩ | ⟨g', cap', cur, hv', hB, hg, hn, hc, hcs, ht⟩
  · cases hv
  · have e : g' = g := by rw [hv] at hv'; injection hv' with hv'; injection hv' with hv'; injection hv' with hv'; exact hv'.symm
    subst e
    refine Or.inr ⟨g', cap', cur.setIfInBounds i u, by rw [hl]; exact hv', hB, pset hg u rfl, by rw [hl]; exact hn, hc, by simp [hcs], ?_⟩
    rw [hl, hf, ← ht]
    simp [List.take_set]
theorem VK.set {r g i m cap : Nat} {v u : Value} {W : World} (hv : v = .slice (some ⟨g, 0, none⟩) m cap) (hr : r < g) : VK r v W (W.setCell ⟨g, i, none⟩ u) := by
  refine ⟨(Below.refl r W).setCell (p := ⟨g, i, none⟩) (Nat.le_of_lt hr) u, fun k o hk hne hvk => ?_⟩
  rw [Below.heap_setCell _ _ _ _ (fun e => hvk (by rw [hv]; simp only [Value.ownBlock]; first | exact congrArg some e | exact congrArg some e.symm))]
  exact hk
section
variable {r : Nat} {s : ByteArray} {w : World} {v0 v : Value} {out : List Cel} {E E' : Ex} {W W' : World}
end
end Go.Proofs.YtfagaflgdlomiaaGreatDoor
namespace Go.Proofs.YtfagaflgdlomiaaGreatDoor
open Go.RowKit Go.Lib
theorem bsz (b : ByteArray) : b.data.toList.length = b.size := by rw [Array.length_toList]; rfl
end Go.Proofs.YtfagaflgdlomiaaGreatDoor
namespace Go.Proofs.YtfagaflgdlomiaaGreatDoor
open Go.RowKit

/-- What a variable holds, it holds behind a call that only makes blocks. -/
theorem var_stays {P : Program} {w w' : World} {n : String} {cs : Array Value} (hv : w.var? P n = some cs) (hb : Below w.heap.size w w') : w'.var? P n = some cs := by
  unfold World.var? at hv
  obtain ⟨g, hg, h2⟩ := Option.bind_eq_some_iff.1 hv
  have hlt : g < w.heap.size := by
    rcases Nat.lt_or_ge g w.heap.size with h | h
    · exact h
    · rw [Array.getElem?_eq_none h] at h2; cases h2
  unfold World.var?
  rw [hg]
  simp only [Option.bind_some]
  rw [hb.block g hlt]; exact h2
/-- What the library's variable holds. -/
structure Env (w : World) : Prop where
  rng : ∃ tp p, w.var? Tryz.prog "strconv.ErrRange" = some #[.iface tp p]
theorem Env.stays {w w' : World} (h : Env w) (hb : Below w.heap.size w w') : Env w' :=
  ⟨let ⟨tp, p, hv⟩ := h.rng; ⟨tp, p, var_stays hv hb⟩⟩
theorem Env.below {B : Nat} {w w' : World} (h : Env w) (hb : Below B w w') (hB : w.heap.size ≤ B) : Env w' := h.stays (hb.mono hB)
end Go.Proofs.YtfagaflgdlomiaaGreatDoor
namespace Go.Proofs.YtfagaflgdlomiaaGreatDoor
open Go.RowKit Go.Lib
def headE (n : Nat) (l : List UInt8) : Ex := if n = 0 then .ok l else blE (tkE [44] (.ok l))
theorem VaE.head {n : Nat} {l : List UInt8} (h : validD l = true) : VaE (headE n l) := by
  unfold headE
  split
  · exact h
  · exact VaE.bl (VaE.tk (E := .ok l) h (by decide))
end Go.Proofs.YtfagaflgdlomiaaGreatDoor
namespace Go.Proofs.YtfagaflgdlomiaaGreatDoor
open Go.RowKit Go.Lib
theorem OwnC.at_ {B g m cap : Nat} {v : Value} {L : List Cel} {W : World} (h : OwnC B v L W) (hv : v = .slice (some ⟨g, 0, none⟩) m cap) (k : Nat) (hk : k < L.length) : (∀ i, W.frozen? ⟨g, i, none⟩ = false) ∧
    W.cell? ⟨g, k * 5, none⟩ = some (.int .u8 (L[k].kind.toNat : Int)) ∧ W.cell? ⟨g, k * 5 + 2, none⟩ = some (.string ⟨L[k].text.toArray⟩) ∧ W.cell? ⟨g, k * 5 + 3, none⟩ = some (.int .i64 L[k].num) := by
  obtain ⟨g', cap', hv', _, _, h1, h2, h3, h4, _⟩ := h.form k hk
  have e : g' = g := by rw [hv] at hv'; injection hv' with hv'; injection hv' with hv'; injection hv' with hv'; exact hv'.symm
  subst e
  exact ⟨h1, h2, h3, h4⟩
end Go.Proofs.YtfagaflgdlomiaaGreatDoor
namespace Go.Proofs.YtfagaflgdlomiaaGreatDoor
open Go.RowKit Go.Lib
theorem acons {P : Program} {ops : Array Oper} {Q : Exit → Act → World → Prop} {md : Region.Mode} {S : World → Prop} (i : Nat) {fuel : Nat} {listed : Array Bool} {a : Act} {w : World} {o : Oper} {rs : List Nat} (ho : ops.toList[i]? = some o)
    (h : ∀ K' : Act → World → Prop, Shut (∀ a w, S w → (S w → wpAnyH P md ops Q S fuel (listed.setIfInBounds i true) a w) → K' a w) → if Region.wanted o (yielded ops a.tmps) = true then Oper.wp P o a w K' Q else K' (a.put o.dst undef) w)
    (hs : AllReadyH P md ops Q S fuel listed a w rs) : AllReadyH P md ops Q S fuel listed a w (i :: rs) :=
  AllReadyH.cons (by rw [← Array.getElem?_toList]; exact ho) h hs
end Go.Proofs.YtfagaflgdlomiaaGreatDoor
namespace Go.Proofs.YtfagaflgdlomiaaGreatDoor
open Go.RowKit Go.Maps
theorem names_keyed : Keyed Tryz.prog 9 := string_keyed Tryz.underlying9
theorem names_zero (w : World) : (zeroValue 3).run Tryz.prog w = .ok (.int .i64 0) w := by kernel_rfl
theorem names_key (x : ByteArray) (h : x.size ≤ maxLen) : keyOf Tryz.prog 9 (.string x) = some (.string x.data.toList) := Go.WideMaps.keyOf_string_mk Tryz.underlying9 h
/-- A map of the call's own that holds 1 at each of some names, and nothing else. -/
def NamesM (bm : Nat) (L : List (List UInt8)) (W : World) : Prop := ∃ (n : Nat) (D : DataW Unit), n ≤ L.length ∧ W.ownsMap Tryz.prog 9 (plainElem Tryz.prog 3) bm n D ∧ IsMap D ∧
  ∀ x : List UInt8, D.atKey (.string x) (.lit (.int .i64 0)) = .lit (.int .i64 (if amongB L x then 1 else 0))
theorem NamesM.made (W : World) : NamesM W.heap.size [] (W.alloc (.map #[] 0)) :=
  ⟨0, .map [], Nat.le_refl _, World.ownsMap_made _ _ _ _, isMap_empty, fun x => rfl⟩
theorem NamesM.lt {bm : Nat} {L : List (List UInt8)} {W : World} (h : NamesM bm L W) : bm < W.heap.size := by
  obtain ⟨n, D, _, h, _⟩ := h; exact h.lt
theorem NamesM.keep {bm : Nat} {L : List (List UInt8)} {W W' : World} (h : NamesM bm L W) (he : W'.heap[bm]? = W.heap[bm]?) : NamesM bm L W' := by
  obtain ⟨n, D, h0, ⟨es, clock, hb, F, hs, hD⟩, h2⟩ := h
  exact ⟨n, D, h0, ⟨es, clock, he.trans hb, F, hs, hD⟩, h2⟩
theorem NamesM.below {bm : Nat} {L : List (List UInt8)} {W W' : World} (h : NamesM bm L W) (hb : Below W.heap.size W W') : NamesM bm L W' := h.keep (hb.block bm h.lt)
theorem NamesM.grown {bm : Nat} {L : List (List UInt8)} {W W' : World} {row : Option Nat} (h : NamesM bm L W) (hb : W.grownBy W' row) (hne : some bm ≠ row) : NamesM bm L W' := h.keep (hb.block bm h.lt hne)
theorem NamesM.lookup {bm : Nat} {L : List (List UInt8)} {W : World} (h : NamesM bm L W) (x : ByteArray) (hx : x.size ≤ maxLen) :
    (Instr.lookup 126 (.map (some bm)) (.string x) false).run Tryz.prog W = .ok (.int .i64 (if amongB L x.data.toList then 1 else 0)) W := by
  obtain ⟨n, D, h0, h1, h2, h3⟩ := h
  obtain ⟨c, hrun, hat, hwc⟩ := h1.lookup_int names_keyed Tryz.underlying126 Tryz.underlying3 (names_zero W) (names_key x hx)
  rw [hrun]
  have := hat.symm.trans (h3 x.data.toList)
  simp only [DataW.lit.injEq, Lit.int.injEq, true_and] at this
  rw [this]
theorem NamesM.update {bm : Nat} {L : List (List UInt8)} {W : World} (h : NamesM bm L W) (x : ByteArray) (hx : x.size ≤ maxLen) (hL : L.length < 1000000) :
    ∃ W', (Instr.mapUpdate 126 (.map (some bm)) (.string x) (.int .i64 1)).run Tryz.prog W = .ok () W' ∧ NamesM bm (x.data.toList :: L) W' ∧ W.grownBy W' (some bm) := by
  obtain ⟨n, D, h0, h1, h2, h3⟩ := h
  obtain ⟨W', hrun, r1, r2⟩ := h1.update (kl := .string x.data.toList) (d := .lit (.int .i64 1)) (ps := []) names_keyed Tryz.underlying126 (by unfold maxLen; omega) (names_key x hx) (plainElem_int Tryz.underlying3 (by decide))
  refine ⟨W', hrun, ⟨n + 1, _, by simp; omega, r1, h2.put _ _, ?_⟩, r2⟩
  intro y
  by_cases hy : y = x.data.toList
  · subst hy
    rw [atKey_put_same h2 (by trivial)]
    have : amongB (x.data.toList :: L) x.data.toList = true := by unfold amongB; simp
    rw [this]; rfl
  · rw [atKey_put_other (fun e => hy (by injection e)), h3 y]
    have : amongB (x.data.toList :: L) y = amongB L y := by
      unfold amongB
      rw [List.any_cons]
      have : (x.data.toList == y) = false := beq_eq_false_iff_ne.2 fun e => hy e.symm
      rw [this, Bool.false_or]
    rw [this]
end Go.Proofs.YtfagaflgdlomiaaGreatDoor
namespace Go.Proofs.YtfagaflgdlomiaaGreatDoor
open Go.RowKit Go.Lib
/-- All older blocks but two stay. -/
def MK (p m : Nat) (W W' : World) : Prop := Below p W W' ∧ ∀ (k : Nat) (o : Obj), W.heap[k]? = some o → k ≠ p → k ≠ m → W'.heap[k]? = some o
theorem MK.of_rk {p m : Nat} {W W' : World} (h : RK p W W') : MK p m W W' := ⟨h.1, fun k o hk h1 _ => h.2 k o hk h1⟩
theorem MK.rk {p m : Nat} {W W' W'' : World} (h : MK p m W W') (h' : RK p W' W'') : MK p m W W'' := ⟨h.1.trans h'.1, fun k o hk h1 h2 => h'.2 k o (h.2 k o hk h1 h2) h1⟩
theorem MK.grown {p m : Nat} {W W' W'' : World} (h : MK p m W W') (hg : W'.grownBy W'' (some m)) (hp : p < m) (hlt : m < W'.heap.size) : MK p m W W'' :=
  ⟨h.1.grown hg (by omega) (fun k hk => by injection hk with hk; omega), fun k o hk h1 h2 => (hg.block k (heap_lt (h.2 k o hk h1 h2)) (fun e => h2 (by injection e))).trans (h.2 k o hk h1 h2)⟩
theorem NamesM.rk {bm p : Nat} {L : List (List UInt8)} {W W' : World} (h : NamesM bm L W) (hk : RK p W W') (hne : bm ≠ p) : NamesM bm L W' := by
  refine h.keep ?_
  have := Array.getElem?_eq_getElem h.lt
  rw [this]
  exact hk.2 bm _ this hne
theorem among_contains (L : List (List UInt8)) (n : List UInt8) : amongB L n = L.contains n := by
  unfold amongB
  induction L with
  | nil => rfl
  | cons a L ih =>
    rw [List.any_cons, List.contains_cons, ih]
    congr 1
    exact BEq.comm
section
variable {p bm : Nat} {w : World} {v0 v : Value} {out : List Cel} {l l' : List UInt8} {op op' : Int} {nm nm' : List (List UInt8)} {W W' : World}
theorem OwnC.mk {B p m : Nat} {v : Value} {L : List Cel} {W W' : World} (h : OwnC B v L W) (hk : MK p m W W') (hp : p < B) (hne : v.ownBlock ≠ some m) : OwnC B v L W' := by
  obtain ⟨h1, h2⟩ := h
  refine ⟨h1, ?_⟩
  rcases h2 with h2 | ⟨g, cap, cur, hv, hB, hg, hrest⟩
  · exact Or.inl h2
  · refine Or.inr ⟨g, cap, cur, hv, hB, hk.2 g _ hg (by omega) (fun e => hne ?_), hrest⟩
    rw [hv, ← e]; rfl
end
end Go.Proofs.YtfagaflgdlomiaaGreatDoor
