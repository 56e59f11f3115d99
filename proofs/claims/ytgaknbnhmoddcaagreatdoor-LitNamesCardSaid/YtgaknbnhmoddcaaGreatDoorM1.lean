/- Walks and plain laws of this proof, joined from smaller texts (1). -/
import Derived.WalkKit
import Derived.WalkSpells
import Derived.Handy
import Derived.Lib.Hide
import Derived.Lib.UnsafeStr
import Derived.Lib.BufferRead
import Derived.Laws.IdiomStrings
import Derived.Laws.AppendOwn
import Derived.OwnWalk
import Derived.Laws.Rows
import Derived.Test.YtgaknbnhmoddcaaGreatDoorRows
import Derived.Laws.EntriesVeiled
import Derived.Laws.Tables
import Derived.Laws.CopyOwn
import Derived.Deep.LoopGhost
import Derived.Laws.StructEq
import Derived.ArgAppend
import Derived.Test.YtgaknbnhmoddcaaGreatDoorShelf
import Derived.Deep.Draws
import Derived.Lib.AppendZerosOnto
import Derived.Laws.IdiomCopy
import Derived.Laws.AppendOwnNone
import Derived.Test.YtgaknbnhmoddcaaGreatDoorK4
set_option linter.unusedSimpArgs false
set_option linter.unusedVariables false
namespace Go.Proofs.YtgaknbnhmoddcaaGreatDoor
open Go.RowKit
theorem u8_info : (Tryz.prog.info? 5).map (fun i => (i.zero, i.size, i.bytes)) = some (some (.int .u8 0), 1, 1) := by kernel_rfl
/-- A slice of bytes that was just laid. -/
theorem Own.fresh {l : List UInt8} {C : Array Value} {k : Nat} (hk : k = l.length) (hC : C.toList = Lib.byteCells l) (hl : l.length ≤ 1000000000) (W : World) : Own W.heap.size (.slice (some ⟨W.heap.size, 0, none⟩) k k) l (W.alloc (.cells C 5)) := by
  have hs : C.size = l.length := by
    have := congrArg List.length hC
    simpa [Lib.byteCells] using this
  refine ⟨by simp [Lib.byteCells], Or.inr ⟨W.heap.size, k, C, by rw [hk], Nat.le_refl _, heap_alloc_new W _, by omega, by unfold maxLen; omega, by omega, ?_⟩⟩
  rw [List.take_of_length_le (by simp; omega)]
  exact hC
/-- 'append(v, x..)' of bytes that stand in a row. -/
theorem wpList_push {ops : Array Oper} {rest : List Oper} {o : Oper} {a : Act} {Q : Exit → Act → World → Prop} {w : World} (hgd : o.guard = none) (s x : Operand)
    (ho : o.op = .call { callee := .builtin .append, args := #[s, x], argTypes := #[23, 23] }) (B : Nat) (v : Value) (l : List UInt8) (hs : a.eval s = v) (hown : Own B v l w)
    (ad : Addr) (c : Nat) (news : List UInt8) (hx : a.eval x = .slice (some ad) news.length c) (hnew : ∀ j (h : j < news.length), w.cell? (ad.add j) = some (.int .u8 (news[j].toNat : Int))) (hlen : l.length + news.length ≤ 1000000000) (hB : B ≤ w.heap.size)
    (h : ∀ v' w', Own B v' (l ++ news) w' → w.grownBy w' v.ownBlock → wpList Tryz.prog ops Q rest (a.put o.dst v') w') : wpList Tryz.prog ops Q (o :: rest) a w := by
  obtain ⟨i0, hi, hz0, hz1, hz2⟩ := info_parts u8_info
  refine wpList_append_own w hgd s x 23 ho B 5 i0 (.int .u8 0) 1 1 Tryz.underlying23 hi hz0 hz1 hz2 rfl (by decide) v l.length (Lib.byteCells l) hs hown ad news.length c (Lib.byteCells news) hx (by simp [Lib.byteCells]) ?_ ?_ (by unfold maxLen; omega) (by omega) hB ?_
  · intro j u hj
    have hl : j < news.length := by
      have := (List.getElem?_eq_some_iff.1 hj).1
      simpa [Lib.byteCells] using this
    rw [hnew j hl]
    unfold Lib.byteCells at hj
    rw [List.getElem?_map, List.getElem?_eq_getElem hl] at hj
    exact hj
  · intro u hu
    unfold Lib.byteCells at hu
    obtain ⟨b, _, rfl⟩ := List.mem_map.1 hu
    rfl
  · intro v' w' h1 h2 _
    refine h v' w' ?_ h2
    unfold Own Lib.byteCells at *
    rw [List.length_append, List.map_append]
    exact h1
end Go.Proofs.YtgaknbnhmoddcaaGreatDoor
namespace Go.Proofs.YtgaknbnhmoddcaaGreatDoor
open Go.RowKit
theorem OwnT.blk {B : Nat} {v : Value} {L : List Tok} {W : World} (h : OwnT B v L W) (k : Nat) (hk : v.ownBlock = some k) : k < W.heap.size := by
  rcases h.2 with h2 | ⟨g, cap, cur, hv, hB, hg, hrest⟩
  · rw [h2.1] at hk; cases hk
  · rw [hv] at hk; injection hk with hk; subst hk; exact heap_lt hg
end Go.Proofs.YtgaknbnhmoddcaaGreatDoor
namespace Go.Proofs.YtgaknbnhmoddcaaGreatDoor
open Go.Lib
/-- Does a text's literal fail so? -/
def failK (l : List UInt8) (fixed : Bool) (e : Int) (a : Nat) : Bool := !(lexT l).isEmpty && (match litP fixed (lexT l) 0 with
  | .error x => x.1 == e && x.2 == a
  | .ok _ => false)
theorem el_var : failK [36, 120] true 180 0 = true := by decide +kernel
theorem el_colon : failK [123, 97, 32, 49, 125] true 180 2 = true := by decide +kernel
theorem el_twice : failK [123, 97, 58, 49, 32, 97, 58, 50, 125] true 42 4 = true := by decide +kernel
theorem el_over : failK [57, 50, 50, 51, 51, 55, 50, 48, 51, 54, 56, 53, 52, 55, 55, 53, 56, 48, 56] true 41 0 = true := by decide +kernel
theorem el_nest : failK [91, 91, 91, 91, 91, 91, 91, 91, 91, 91, 91, 91, 91, 91, 91, 91, 91] true 30 16 = true := by decide +kernel
def exTyp : List UInt8 := [91, 73, 110, 116, 33, 93]
theorem el_typ : (lexT exTyp).length = 5 ∧ (typP (lexT exTyp) 0).toOption = some (4, [73, 110, 116], [2, 1]) := by decide +kernel
def exDirs : List UInt8 := [64, 97, 32, 64, 98, 40, 99, 58, 49, 41]
theorem el_dirs : (!(lexT exDirs).isEmpty && (match dirsP true (lexT exDirs) 0 with | .ok (9, [([97], []), ([98], [([99], v)])]) => celsE v [⟨2, [], [], 1, 0⟩] | _ => false)) = true := by decide +kernel
def exArgs : List UInt8 := [40, 41]
theorem el_args : (lexT exArgs).isEmpty = false ∧ (match argsP true (lexT exArgs) 0 with | .error x => x.1 == 180 && x.2 == 1 | .ok _ => false) = true := by decide +kernel
end Go.Proofs.YtgaknbnhmoddcaaGreatDoor
namespace Go.Proofs.YtgaknbnhmoddcaaGreatDoor
open Go.RowKit
def kindsA : Array Value := #[.func (.func 129) #[] #[], .func (.func 130) #[] #[], .bool false, .func (.func 129) #[] #[], .func (.func 131) #[] #[], .bool false, .func (.func 129) #[] #[], .func (.func 132) #[] #[], .bool false, .func (.func 133) #[] #[], .func (.func 130) #[] #[], .bool false, .func (.func 134) #[] #[], .func (.func 130) #[] #[], .bool false, .func (.func 134) #[] #[], .func (.func 130) #[] #[], .bool false, .func (.func 129) #[] #[], .func (.func 130) #[] #[], .bool true, .func (.func 129) #[] #[], .func (.func 130) #[] #[], .bool true]
end Go.Proofs.YtgaknbnhmoddcaaGreatDoor
namespace Go.Proofs.YtgaknbnhmoddcaaGreatDoor
open Go.RowKit
/-- A slice that reads as texts. -/
def StrSl (v : Value) (l : List ByteArray) (W : World) : Prop := (∃ a cap, v = .slice a 0 cap ∧ l = []) ∨ ∃ b off cap, v = .slice (some ⟨b, off, none⟩) l.length cap ∧ ∀ (j : Nat) x, l[j]? = some x → W.cell? ⟨b, off + j, none⟩ = some (.string x)
theorem OwnS.sl {B : Nat} {v : Value} {l : List ByteArray} {w : World} (h : OwnS B v l w) : StrSl v l w := by
  rcases h.cells with ⟨h1, h2⟩ | ⟨g, cap, h1, h2, h3, h4⟩
  · exact Or.inl ⟨_, _, h1, h2⟩
  · exact Or.inr ⟨g, 0, cap, h1, h4⟩
end Go.Proofs.YtgaknbnhmoddcaaGreatDoor
namespace Go.Proofs.YtgaknbnhmoddcaaGreatDoor
open Go.RowKit
theorem StrSl.below {v : Value} {l : List ByteArray} {w w' : World} (h : StrSl v l w) (hb : Below w.heap.size w w') : StrSl v l w' := by
  rcases h with h | ⟨b, off, cap, h1, h2⟩
  · exact Or.inl h
  · refine Or.inr ⟨b, off, cap, h1, fun j x hj => ?_⟩
    exact (hb.cell (p := ⟨b, _, none⟩) (lt_of_cell (h2 j x hj))).trans (h2 j x hj)
end Go.Proofs.YtgaknbnhmoddcaaGreatDoor
namespace Go.Proofs.YtgaknbnhmoddcaaGreatDoor
open Go.RowKit
/-- What behind's inner function finds: the cells, the kinds, itself, the ends. -/
structure BH (w0 : World) (V : List Cel) (b off cap bv ba bw be g : Nat) (es : Array Value) (W : World) : Prop where
  hv : W.heap[bv]? = some (.cells #[.slice (some ⟨b, off, none⟩) V.length cap] 22 (0, 0))
  ha : W.heap[ba]? = some (.cells kindsA 184 (0, 0))
  hw : W.heap[bw]? = some (.cells #[.func (.func 113) #[] #[.pointer (some ⟨bv, 0, none⟩), .pointer (some ⟨ba, 0, none⟩), .pointer (some ⟨bw, 0, none⟩), .pointer (some ⟨be, 0, none⟩)]] 186 (0, 0))
  he : W.heap[be]? = some (.cells #[.slice (some ⟨g, 0, none⟩) V.length V.length] 131 (0, 0))
  hg : W.heap[g]? = some (.cells es 3 (0, 0))
  size : es.size = V.length
  bel : Below w0.heap.size w0 W
  lv : w0.heap.size ≤ bv
  la : w0.heap.size ≤ ba
  lw : w0.heap.size ≤ bw
  le : w0.heap.size ≤ be
  lg : w0.heap.size ≤ g
  nv : bv ≠ g
  na : ba ≠ g
  nw : bw ≠ g
  ne : be ≠ g
section
variable {w0 : World} {V : List Cel} {b off cap bv ba bw be g : Nat} {es : Array Value} {W W' : World}
theorem BH.below (h : BH w0 V b off cap bv ba bw be g es W) (hb : Below W.heap.size W W') : BH w0 V b off cap bv ba bw be g es W' :=
  { h with
    hv := (hb.block _ (heap_lt h.hv)).trans h.hv
    ha := (hb.block _ (heap_lt h.ha)).trans h.ha
    hw := (hb.block _ (heap_lt h.hw)).trans h.hw
    he := (hb.block _ (heap_lt h.he)).trans h.he
    hg := (hb.block _ (heap_lt h.hg)).trans h.hg
    bel := h.bel.trans (hb.mono h.bel.size) }
theorem BH.alloc (h : BH w0 V b off cap bv ba bw be g es W) (o : Obj) : BH w0 V b off cap bv ba bw be g es (W.alloc o) := h.below ((Below.refl _ _).alloc (Nat.le_refl _) _)
theorem BH.grown (h : BH w0 V b off cap bv ba bw be g es W) (hb : W.grownBy W' (some g)) {es' : Array Value} (hg : W'.heap[g]? = some (.cells es' 3 (0, 0))) (hs : es'.size = es.size) : BH w0 V b off cap bv ba bw be g es' W' :=
  { h with
    hv := (hb.block _ (heap_lt h.hv) (fun e => h.nv (Option.some.inj e))).trans h.hv
    ha := (hb.block _ (heap_lt h.ha) (fun e => h.na (Option.some.inj e))).trans h.ha
    hw := (hb.block _ (heap_lt h.hw) (fun e => h.nw (Option.some.inj e))).trans h.hw
    he := (hb.block _ (heap_lt h.he) (fun e => h.ne (Option.some.inj e))).trans h.he
    hg := hg
    size := hs.trans h.size
    bel := h.bel.grown hb h.bel.size (fun k hk => by have := Option.some.inj hk; have := h.lg; omega) }
end
end Go.Proofs.YtgaknbnhmoddcaaGreatDoor
namespace Go.Proofs.YtgaknbnhmoddcaaGreatDoor
open Go.RowKit
theorem BH.other {w0 : World} {V : List Cel} {b off cap bv ba bw be g r : Nat} {es : Array Value} {W W' : World} (h : BH w0 V b off cap bv ba bw be g es W) (hb : W.grownBy W' (some r)) (hr : w0.heap.size ≤ r) (hM : bv < r ∧ ba < r ∧ bw < r ∧ be < r ∧ g < r) : BH w0 V b off cap bv ba bw be g es W' :=
  { h with
    hv := (hb.block _ (heap_lt h.hv) (fun e => by have := Option.some.inj e; omega)).trans h.hv
    ha := (hb.block _ (heap_lt h.ha) (fun e => by have := Option.some.inj e; omega)).trans h.ha
    hw := (hb.block _ (heap_lt h.hw) (fun e => by have := Option.some.inj e; omega)).trans h.hw
    he := (hb.block _ (heap_lt h.he) (fun e => by have := Option.some.inj e; omega)).trans h.he
    hg := (hb.block _ (heap_lt h.hg) (fun e => by have := Option.some.inj e; omega)).trans h.hg
    bel := h.bel.grown hb h.bel.size (fun k hk => by have := Option.some.inj hk; omega) }
end Go.Proofs.YtgaknbnhmoddcaaGreatDoor
namespace Go.Proofs.YtgaknbnhmoddcaaGreatDoor
open Go.RowKit
def eqC (a c : Cel) : Bool := a.kind == c.kind && (a.name == c.name && (a.text == c.text && (a.num == c.num && a.many == c.many)))
def sameV : List Cel → List Cel → Bool
  | [], [] => true
  | a :: r, c :: s => eqC a c && sameV r s
  | _, _ => false
theorem sameV_len : ∀ (L M : List Cel), L.length ≠ M.length → sameV L M = false
  | [], [], h => absurd rfl h
  | [], _ :: _, _ => rfl
  | _ :: _, [], _ => rfl
  | t :: r, u :: s, h => by
    rw [sameV, sameV_len r s (by simpa using h), Bool.and_false]
theorem eqC_iff (a c : Cel) : eqC a c = true ↔ a = c := by
  obtain ⟨k, n, t, i, m⟩ := a
  obtain ⟨k', n', t', i', m'⟩ := c
  unfold eqC
  simp
theorem sameV_iff : ∀ (L M : List Cel), sameV L M = true ↔ L = M
  | [], [] => by simp [sameV]
  | [], _ :: _ => by simp [sameV]
  | _ :: _, [] => by simp [sameV]
  | t :: r, u :: s => by
    rw [sameV, Bool.and_eq_true, eqC_iff, sameV_iff r s]; simp
theorem sameV_drop (L M : List Cel) (k : Nat) (h : k < L.length) (h' : k < M.length) : sameV (L.drop k) (M.drop k) = (eqC L[k] M[k] && sameV (L.drop (k + 1)) (M.drop (k + 1))) := by
  rw [List.drop_eq_getElem_cons h, List.drop_eq_getElem_cons h', sameV]
theorem eqC_no (a c : Cel) (h : ¬ (a.kind.toNat : Int) = (c.kind.toNat : Int) ∨ ¬ a.name = c.name ∨ ¬ a.text = c.text ∨ ¬ a.num = c.num ∨ ¬ a.many = c.many) : eqC a c = false := by
  rw [Bool.eq_false_iff]
  intro e
  have := (eqC_iff a c).1 e
  subst this
  simp at h
set_option maxRecDepth 100000 in
theorem rsame03_len (v1 v2 : Option Addr) (c1 c2 : Nat) (n m : Nat) (hn : n ≤ 100000) (hm : m ≤ 100000) (hne : n ≠ m) (w : World) :
    Calls Tryz.prog 20 #[.slice v1 n c1, .slice v2 m c2] w fun e w' => e = .returned (.bool false) ∧ Below w.heap.size w w' := by
  have h1 : ((n : Int) != (m : Int)) = true := by rw [bne_iff_ne]; omega
  clear hne
  go_enter Tryz.func20, Tryz.ntmps20
  go_wp2_with fail
  go_ret
  exact ⟨rfl, Below.refl _ _⟩
set_option maxRecDepth 100000 in
set_option maxHeartbeats 1000000 in
theorem rsame03_row (L M : List Cel) (b1 o1 c1 b2 o2 c2 : Nat) (hl : L.length ≤ 100000) (hlm : L.length = M.length) (w : World) (h1 : CelRow b1 o1 L w) (h2 : CelRow b2 o2 M w) :
    Calls Tryz.prog 20 #[.slice (some ⟨b1, o1, none⟩) L.length c1, .slice (some ⟨b2, o2, none⟩) L.length c2] w fun e w' => e = .returned (.bool (sameV L M)) ∧ Below w.heap.size w w' := by
  have H1 := Lib.hid h1
  have H2 := Lib.hid h2
  have HM := Lib.hid hlm
  obtain ⟨r, hr⟩ : ∃ r, sameV L M = r := ⟨_, rfl⟩
  have HR : Hid (sameV (L.drop 0) (M.drop 0) = r) := Lib.hid hr
  rw [hr]
  clear hr h1 h2 hlm
  have hnn : ((L.length : Int) != (L.length : Int)) = false := by rw [bne_eq_false_iff_eq]
  have hg : Tryz.prog.eqGuardType Tryz.prog.depth 63 = false := by kernel_rfl
  go_enter Tryz.func20, Tryz.ntmps20
  go_wp2_with fail
  go_loopw [5] (fun i wr => ∃ k : Nat, k ≤ L.length ∧ i = .int .i64 k ∧ Hid (sameV (L.drop k) (M.drop k) = r) ∧ Hid (Below w.heap.size w wr)) (fun i wr => L.length - (intOf i).toNat)
  case atStart => exact ⟨0, Nat.zero_le _, rfl, HR, Lib.hid (Below.refl _ _)⟩
  case round =>
    rename World => wr
    obtain ⟨k, hk, rfl, HS, HB⟩ := hrel
    by_cases hlt : k < L.length
    · have hltm : k < M.length := by rw [← HM.out]; exact hlt
      obtain ⟨a0, a1, a2, a3, a4⟩ := (H1.out.below' HB.out) k hlt
      obtain ⟨d0, d1, d2, d3, d4⟩ := (H2.out.below' HB.out) k hltm
      have hstep := HS.out
      rw [sameV_drop _ _ k hlt hltm] at hstep
      have HNO : Hid ((¬ (L[k].kind.toNat : Int) = (M[k].kind.toNat : Int) ∨ ¬ L[k].name = M[k].name ∨ ¬ L[k].text = M[k].text ∨ ¬ L[k].num = M[k].num ∨ ¬ L[k].many = M[k].many) → false = r) := Lib.hid fun h => by rw [← hstep, eqC_no _ _ h]; rfl
      have HYES : Hid ((L[k].kind.toNat : Int) = (M[k].kind.toNat : Int) → L[k].name = M[k].name → L[k].text = M[k].text → L[k].num = M[k].num → L[k].many = M[k].many → sameV (L.drop (k + 1)) (M.drop (k + 1)) = r) := Lib.hid fun h1 h2 h3 h4 h5 => by
        have : eqC L[k] M[k] = true := by
          unfold eqC
          rw [beq_iff_eq.2 (UInt8.toNat_inj.1 (by omega)), beq_iff_eq.2 h2, beq_iff_eq.2 h3, beq_iff_eq.2 h4, beq_iff_eq.2 h5]; rfl
        rw [← hstep, this, Bool.true_and]
      have hx1 : (⟨L[k].name.toArray⟩ : ByteArray).toList = L[k].name := by rw [ByteArray.toList_eq]
      have hx2 : (⟨M[k].name.toArray⟩ : ByteArray).toList = M[k].name := by rw [ByteArray.toList_eq]
      have hy1 : (⟨L[k].text.toArray⟩ : ByteArray).toList = L[k].text := by rw [ByteArray.toList_eq]
      have hy2 : (⟨M[k].text.toArray⟩ : ByteArray).toList = M[k].text := by rw [ByteArray.toList_eq]
      rw [← hx1, ← hx2, ← hy1, ← hy2] at HNO HYES
      clear hstep hx1 hx2 hy1 hy2
      generalize (L[k].kind.toNat : Int) = ka at *
      generalize (M[k].kind.toNat : Int) = kb at *
      generalize L[k].num = na at *
      generalize M[k].num = nb at *
      generalize L[k].many = ma at *
      generalize M[k].many = mb at *
      generalize (⟨L[k].name.toArray⟩ : ByteArray) = x at *
      generalize (⟨M[k].name.toArray⟩ : ByteArray) = x' at *
      generalize (⟨L[k].text.toArray⟩ : ByteArray) = y at *
      generalize (⟨M[k].text.toArray⟩ : ByteArray) = y' at *
      by_cases e0 : ka = kb
      · by_cases e1 : x.toList = x'.toList
        · by_cases e2 : y.toList = y'.toList
          · by_cases e3 : na = nb
            · by_cases e4 : ma = mb
              · have HEQ := HYES.out e0 e1 e2 e3 e4
                subst e0 e3 e4
                clear HYES HNO
                have HF := Lib.hid HEQ
                clear HEQ HS
                go_wp2_with fail
                go_quiet (fail)
                go_wp2_with fail
                go_roundw
                case rel => exact ⟨k + 1, by omega, by go_num, HF, Lib.hid (below_dN _ HB.out)⟩
                case measure => simp [intOf]; omega
              · have HN := Lib.hid (HNO.out (Or.inr (Or.inr (Or.inr (Or.inr e4)))))
                subst e0 e3
                clear HYES HNO
                clear HS
                go_wp2_with fail
                go_quiet (fail)
                go_wp2_with fail
                go_ret
                exact ⟨ret_b HN.out, below_dN _ HB.out⟩
            · have HN := Lib.hid (HNO.out (Or.inr (Or.inr (Or.inr (Or.inl e3)))))
              subst e0
              clear HYES HNO
              clear HS
              go_wp2_with fail
              go_quiet (fail)
              go_wp2_with fail
              go_ret
              exact ⟨ret_b HN.out, below_dN _ HB.out⟩
          · have HN := Lib.hid (HNO.out (Or.inr (Or.inr (Or.inl e2))))
            subst e0
            clear HYES HNO
            clear HS
            go_wp2_with fail
            go_quiet (fail)
            go_wp2_with fail
            go_ret
            exact ⟨ret_b HN.out, below_dN _ HB.out⟩
        · have HN := Lib.hid (HNO.out (Or.inr (Or.inl e1)))
          subst e0
          clear HYES HNO
          clear HS
          go_wp2_with fail
          go_quiet (fail)
          go_wp2_with fail
          go_ret
          exact ⟨ret_b HN.out, below_dN _ HB.out⟩
      · have HN := Lib.hid (HNO.out (Or.inl e0))
        clear HYES HNO
        clear HS
        go_wp2_with fail
        go_quiet (fail)
        go_wp2_with fail
        go_ret
        exact ⟨ret_b HN.out, below_dN _ HB.out⟩
    · have HF : Hid (true = r) := Lib.hid (by
        have hm : M.length = L.length := HM.out.symm
        rw [← HS.out, List.drop_of_length_le (by omega), List.drop_of_length_le (by omega)]; rfl)
      clear HS
      go_wp2_with fail
      go_ret
      exact ⟨ret_b HF.out, HB.out⟩
set_option maxRecDepth 100000 in
theorem rsame03_none (a v : Option Addr) (c1 c2 : Nat) (w : World) :
    Calls Tryz.prog 20 #[.slice a 0 c1, .slice v 0 c2] w fun e w' => e = .returned (.bool true) ∧ Below w.heap.size w w' := by
  go_enter Tryz.func20, Tryz.ntmps20
  go_wp2_with fail
  refine wp_loop_rounds 1 ?_; rw [rounds_succ]
  go_wp2_with fail
  go_ret
  exact ⟨rfl, Below.refl _ _⟩
theorem rsame03_any (L M : List Cel) (u v : Value) (hl : L.length ≤ 100000) (hm : M.length ≤ 100000) (w : World) (h1 : CelSl u L w) (h2 : CelSl v M w) :
    Calls Tryz.prog 20 #[u, v] w fun e w' => e = .returned (.bool (sameV L M)) ∧ Below w.heap.size w w' := by
  by_cases hlm : L.length = M.length
  · rcases h1 with ⟨a1, c1, rfl, rfl, _⟩ | ⟨b1, o1, c1, rfl, h1, p1⟩
    · obtain rfl : M = [] := List.eq_nil_of_length_eq_zero hlm.symm
      rcases h2 with ⟨a2, c2, rfl, _, _⟩ | ⟨b2, o2, c2, rfl, h2, p2⟩
      · exact rsame03_none a1 a2 c1 c2 w
      · exact rsame03_none a1 _ c1 c2 w
    · rcases h2 with ⟨a2, c2, rfl, rfl, _⟩ | ⟨b2, o2, c2, rfl, h2, p2⟩
      · obtain rfl : L = [] := List.eq_nil_of_length_eq_zero hlm
        exact rsame03_none _ a2 c1 c2 w
      · rw [← hlm]
        exact rsame03_row L M b1 o1 c1 b2 o2 c2 hl hlm w h1 h2
  · rw [sameV_len _ _ hlm]
    rcases h1 with ⟨a1, c1, rfl, rfl, _⟩ | ⟨b1, o1, c1, rfl, h1, p1⟩
    · rcases h2 with ⟨a2, c2, rfl, rfl, _⟩ | ⟨b2, o2, c2, rfl, h2, p2⟩
      · exact absurd rfl hlm
      · exact rsame03_len a1 _ _ _ 0 _ (by omega) hm hlm w
    · rcases h2 with ⟨a2, c2, rfl, rfl, _⟩ | ⟨b2, o2, c2, rfl, h2, p2⟩
      · exact rsame03_len _ a2 _ _ _ 0 hl (by omega) hlm w
      · exact rsame03_len _ _ _ _ _ _ hl hm hlm w
end Go.Proofs.YtgaknbnhmoddcaaGreatDoor
namespace Go.Proofs.YtgaknbnhmoddcaaGreatDoor
open Go.RowKit
theorem tell_ge (t : Tok) : t.text.length ≤ (tellT t).length := by
  unfold tellT
  split
  · have := quote_ge t.text; omega
  · exact Nat.le_refl _
/-- What a text's tokens are. -/
theorem lexed (l : List UInt8) (L : List Tok) (hl : l.length ≤ 1024) (h : lex0 l = .ok L) : OkK L ∧ 0 < L.length ∧ L.length ≤ 2000 ∧ ∀ t ∈ L, t.text.length ≤ 100000 := by
  unfold lex0 at h
  rw [if_neg (by omega)] at h
  split at h
  · cases h
  obtain ⟨M, e, m1, m2, m3, m4, m5⟩ := lex_ok 1024 0 l [] L (by omega) h
  rw [List.nil_append] at m1
  subst m1
  have hok : OkK (M ++ [e]) := by
    intro t ht
    rcases List.mem_append.1 ht with ht | ht
    · exact ⟨(m4 t ht).1, (m4 t ht).2.2⟩
    · rw [List.mem_singleton.1 ht]
      have h1 : e.kind = 0 ∧ e.text = [] := by unfold kt at m2; simpa using m2
      refine ⟨by unfold okT; rw [h1.1, h1.2]; rfl, ?_⟩
      rw [tell_end e m2]; exact Nat.zero_le _
  refine ⟨hok, by simp, by simp; omega, fun t ht => ?_⟩
  have h1 := tell_ge t
  have h2 := (hok t ht).2
  omega
/-- What the laws' value answers: the greater one of two errors, the first being none. -/
def Val18 (R : Except ErrP (Nat × List Cel)) (G : List Cel → Value → World → Prop) (x : Ending) (W' : World) : Prop := match R with
  | .error e => x = .returned (.tuple #[.slice none 0 0, .int .i64 e.2, .int .i64 e.1])
  | .ok (k', y) => ∃ a n c, x = .returned (.tuple #[.slice a n c, .int .i64 k', .int .i64 0]) ∧ G y (.slice a n c) W'
set_option maxRecDepth 100000 in
theorem value18_any (s : ByteArray) (hs : s.size ≤ 1000) (L : List Tok) (h : lex0 s.data.toList = .ok L) (fx : Bool) (he : ∀ e, litP fx L 0 = .error e → 0 ≤ e.1) (w : World) (hE : EnvU w) (hE2 : Env w) :
    Calls Tryz.prog 60 #[.string s, .bool fx] w fun x w' => Val18 (litP fx L 0) (CelG w.heap.size) x w' ∧ Below w.heap.size w w' := by
  obtain ⟨h1, h2, h3, h4⟩ := lexed _ L (by rw [bsz]; omega) h
  have HX := Lib.hid (lex_row s (by omega) L h h2 w hE)
  have HV : Hid (∀ (g cap : Nat) (W : World), Below w.heap.size w W → TokRow g 0 L W → g < W.heap.size → Calls Tryz.prog 25 #[.slice (some ⟨g, 0, none⟩) L.length cap, .int .i64 0, .bool fx] W fun x w' => ReadV (litP fx L 0) (CelG (W.heap.size + 4)) x w' ∧ Below W.heap.size W w') := Lib.hid fun g cap W hW hr hg => by
    have := value_ok (cap := cap) fx W hr hg ⟨by omega, h4⟩ h2 (hE2.below hW (Nat.le_refl _))
    simpa using this
  have HE := Lib.hid he
  clear h he hE hE2 h1 h2 h4
  generalize litP fx L 0 = R at HV HE ⊢
  go_enter Tryz.func60, Tryz.ntmps60
  go_wp2_with fail
  refine HX.out.mono ?_; rintro x w1 ⟨⟨g, cap, rfl, ho⟩, hb⟩
  have hr1 : TokRow g 0 L w1 := by
    rcases ho.sl with ⟨ua, uc, hu2, hL, _⟩ | ⟨b2, off, cap2, hu2, hr⟩
    · subst hL; intro i hi; simp at hi
    · injection hu2 with e1 e2 e3
      injection e1 with e1
      injection e1 with e1 e2
      subst e1; subst e2
      exact hr
  have HR1 := Lib.hid hr1
  have hg1 : g < w1.heap.size := by
    rcases ho.2 with ⟨e1, _⟩ | ⟨g2, cap2, cur, e1, _, hg, _⟩
    · cases e1
    · injection e1 with e1
      injection e1 with e1
      injection e1 with e1
      subst e1
      exact heap_lt hg
  have HB1 := Lib.hid hb
  clear hb ho hr1
  go_wp2_with fail
  refine (HV.out g cap w1 HB1.out HR1.out hg1).mono ?_; rintro x w2 ⟨hx, hb⟩
  have HB2 : Hid (Below w.heap.size w w2) := Lib.hid (HB1.out.trans (hb.mono HB1.out.size))
  have hz1 := HB1.out.size
  cases R with
  | error e =>
    have hx2 : x = .returned (.tuple #[.slice none 0 0, .int .i64 e.2, .int .i64 e.1]) := hx
    have hm : max 0 e.1 = e.1 := Int.max_eq_right (HE.out e rfl)
    clear hx hb
    subst hx2
    go_wp2_with fail
    go_ret3
    exact ⟨by show _ = _; simp [hm], HB2.out⟩
  | ok y =>
    obtain ⟨k', out⟩ := y
    obtain ⟨a, n, c, hx2, hg⟩ : ∃ a n c, x = .returned (.tuple #[.slice a n c, .int .i64 k', .int .i64 0]) ∧ CelG (w1.heap.size + 4) out (.slice a n c) w2 := hx
    have HG : Hid (CelG w.heap.size out (.slice a n c) w2) := Lib.hid ⟨hg.1, hg.2.less (by omega)⟩
    clear hb hg
    subst hx2
    go_wp2_with fail
    go_ret3
    exact ⟨⟨a, n, c, by first | rfl | simp, HG.out⟩, HB2.out⟩
end Go.Proofs.YtgaknbnhmoddcaaGreatDoor
namespace Go.Proofs.YtgaknbnhmoddcaaGreatDoor
open Go.RowKit
theorem cel_fresh {M : List Cel} {C : Array Value} {k : Nat} (hk : k = M.length) (hC : C.toList = celFlat M) (h0 : 0 < M.length) (W : World) : CelSl (.slice (some ⟨W.heap.size, 0, none⟩) k k) M (W.alloc (.cells C 63)) := by
  refine Or.inr ⟨W.heap.size, 0, k, by rw [hk], fun j hj => ?_, h0⟩
  obtain ⟨g0, g1, g2, g3, g4⟩ := celFlat_get M j hj
  have hh : (W.alloc (.cells C 63)).heap[W.heap.size]? = some (.cells C 63 (0, 0)) := heap_alloc_new W _
  rw [← hC] at g0 g1 g2 g3 g4
  rw [Array.getElem?_toList] at g0 g1 g2 g3 g4
  simp only [Nat.zero_add]
  exact ⟨(Lib.cell_of_heap hh _).trans g0, (Lib.cell_of_heap hh _).trans g1, (Lib.cell_of_heap hh _).trans g2, (Lib.cell_of_heap hh _).trans g3, (Lib.cell_of_heap hh _).trans g4⟩
theorem okLit_parts {l : List UInt8} {fx : Bool} {a : Nat} {w : List Cel} (h : okLit (lexT l) fx a w = true) : lex0 l = .ok (lexT l) ∧ litP fx (lexT l) 0 = .ok (a, w) := by
  unfold okLit at h
  simp only [Bool.and_eq_true, Bool.not_eq_true'] at h
  obtain ⟨h1, h2⟩ := h
  refine ⟨lexT_ok l (fun e => by rw [e] at h1; cases h1), ?_⟩
  cases hp : litP fx (lexT l) 0 with
  | error e => rw [hp] at h2; cases h2
  | ok x =>
    rw [hp] at h2
    simp only [Bool.and_eq_true, beq_iff_eq] at h2
    obtain ⟨x1, x2⟩ := x
    have := celsE_eq _ _ h2.2
    simp only at h2 this
    rw [h2.1, this]
set_option maxRecDepth 100000 in
set_option maxHeartbeats 2000000 in
theorem lalive18 (w : World) (hE : EnvU w) (hE2 : Env w) : Calls Tryz.prog 29 #[] w fun e w' => e = .returned (.bool true) ∧ Below w.heap.size w w' := by
  obtain ⟨h1, h2⟩ := okLit_parts el_alive
  have HV := Lib.hid (value18_any ⟨#[91, 36, 120, 44, 123, 97, 58, 82, 69, 68, 125, 93, 32, 122]⟩ (by decide) (lexT exAlive) h1 false (by rw [h2]; intro e h; cases h) w hE hE2)
  rw [h2] at HV
  have HS : Hid (∀ (u v : Value) (W : World), CelSl u [⟨6, [], [], 0, 2⟩, ⟨5, [], [120], 0, 0⟩, ⟨7, [], [], 0, 1⟩, ⟨4, [97], [82, 69, 68], 0, 0⟩] W → CelSl v [⟨6, [], [], 0, 2⟩, ⟨5, [], [120], 0, 0⟩, ⟨7, [], [], 0, 1⟩, ⟨4, [97], [82, 69, 68], 0, 0⟩] W → Calls Tryz.prog 20 #[u, v] W fun e w' => e = .returned (.bool true) ∧ Below W.heap.size W w') := Lib.hid fun u v W h3 h4 => by
    have := rsame03_any [⟨6, [], [], 0, 2⟩, ⟨5, [], [120], 0, 0⟩, ⟨7, [], [], 0, 1⟩, ⟨4, [97], [82, 69, 68], 0, 0⟩] [⟨6, [], [], 0, 2⟩, ⟨5, [], [120], 0, 0⟩, ⟨7, [], [], 0, 1⟩, ⟨4, [97], [82, 69, 68], 0, 0⟩] u v (by decide) (by decide) W h3 h4
    rw [(sameV_iff _ _).2 rfl] at this
    exact this
  clear hE hE2 h1 h2
  go_enter Tryz.func29, Tryz.ntmps29
  go_wp2_with fail
  refine HV.out.mono ?_; rintro x w1 ⟨⟨a, n, c, rfl, hg⟩, hb⟩
  have HG := Lib.hid hg.2.sl
  have HB1 := Lib.hid hb
  clear hg hb
  go_wp2_with fail
  refine (HS.out _ _ _ (HG.out.below ((Below.refl _ _).alloc (Nat.le_refl _) _)) (cel_fresh (k := 4) rfl rfl (by decide) w1)).mono ?_; rintro e w2 ⟨rfl, hb⟩
  have HB2 : Hid (Below w.heap.size w w2) := Lib.hid ((HB1.out.alloc HB1.out.size _).trans (hb.mono (Nat.le_trans HB1.out.size (by simp))))
  clear hb
  go_wp2_with fail
  go_ret
  exact ⟨rfl, HB2.out⟩
end Go.Proofs.YtgaknbnhmoddcaaGreatDoor
namespace Go.Proofs.YtgaknbnhmoddcaaGreatDoor
open Go.RowKit Go.Lib
theorem OwnT.rk {p B : Nat} {v : Value} {L : List Tok} {W W' : World} (h : OwnT B v L W) (hk : RK p W W') (hp : p < B) : OwnT B v L W' := by
  obtain ⟨h1, h2⟩ := h
  refine ⟨h1, ?_⟩
  rcases h2 with h2 | ⟨g, cap, cur, hv, hB, hg, hrest⟩
  · exact Or.inl h2
  · exact Or.inr ⟨g, cap, cur, hv, hB, hk.2 g _ hg (by omega), hrest⟩
theorem OwnT.formU {B : Nat} {v : Value} {L : List Tok} {W : World} (h : OwnT B v L W) (hL : 0 < L.length) : ∃ g n cap, v = .slice (some ⟨g, 0, none⟩) n cap ∧ n = L.length ∧ B ≤ g ∧ n ≤ cap := by
  obtain ⟨h1, h2⟩ := h
  rcases h2 with ⟨_, h2⟩ | ⟨g, cap, cur, hv, hB, hg, hn, hrest⟩
  · omega
  · exact ⟨g, _, cap, hv, rfl, hB, hn⟩
/-- The putter holds tokens. -/
def PutS (p : Nat) (v : Value) (L : List Tok) (W : World) : Prop := W.heap[p]? = some (.cells #[v] 78 (0, 0)) ∧ OwnT (p + 1) v L W
theorem PutS.lt {p : Nat} {v : Value} {L : List Tok} {W : World} (h : PutS p v L W) : p < W.heap.size := heap_lt h.1
theorem PutS.below {p : Nat} {v : Value} {L : List Tok} {W W' : World} (h : PutS p v L W) (hb : Below W.heap.size W W') : PutS p v L W' := ⟨(hb.block p h.lt).trans h.1, h.2.below hb⟩
theorem PutS.cell {p : Nat} {v : Value} {L : List Tok} {W : World} (h : PutS p v L W) : W.cell? ⟨p, 0, none⟩ = some v := Lib.cell_of_heap h.1 0
end Go.Proofs.YtgaknbnhmoddcaaGreatDoor
namespace Go.Proofs.YtgaknbnhmoddcaaGreatDoor
open Go.RowKit
/-- What a variable holds, it holds behind a call that only makes blocks. -/
theorem var_stays_w {P : Program} {w w' : World} {n : String} {cs : Array Value} (hv : w.var? P n = some cs) (hb : Below w.heap.size w w') : w'.var? P n = some cs := by
  unfold World.var? at hv
  obtain ⟨g, hg, h2⟩ := Option.bind_eq_some_iff.1 hv
  have hlt : g < w.heap.size := by
    rcases Nat.lt_or_ge g w.heap.size with h | h
    · exact h
    · rw [Array.getElem?_eq_none h] at h2; cases h2
  unfold World.var?
  rw [hg]
  simp only [Option.bind_some]
  rw [hb.block g hlt]; exact h2
/-- What the library's table of powers holds. -/
def EnvT (w : World) : Prop := Lib.TabIs Tryz.prog w "internal/strconv.uint64pow10" .u64 Lib.pow10Tab
theorem EnvT.stays {w w' : World} (h : EnvT w) (hb : Below w.heap.size w w') : EnvT w' := var_stays_w h hb
end Go.Proofs.YtgaknbnhmoddcaaGreatDoor
namespace Go.Proofs.YtgaknbnhmoddcaaGreatDoor
open Go.RowKit
theorem PutS.rk {p q : Nat} {v : Value} {L : List Tok} {W W' : World} (h : PutS q v L W) (hb : Below W.heap.size W W') : PutS q v L W' := h.below hb
theorem CelRow.rk {b off p : Nat} {V : List Cel} {W W' : World} (h : CelRow b off V W) (hk : RK p W W') (hne : b ≠ p) : CelRow b off V W' := by
  intro i hi
  obtain ⟨h0, h1, h2, h3, h4⟩ := h i hi
  have hb : W'.heap[b]? = W.heap[b]? := by
    have hlt := lt_of_cell h0
    obtain ⟨o, ho⟩ : ∃ o, W.heap[b]? = some o := ⟨_, Array.getElem?_eq_getElem hlt⟩
    rw [ho]; exact hk.2 b o ho hne
  refine ⟨?_, ?_, ?_, ?_, ?_⟩
  · rw [← h0]; unfold World.cell?; rw [hb]
  · rw [← h1]; unfold World.cell?; rw [hb]
  · rw [← h2]; unfold World.cell?; rw [hb]
  · rw [← h3]; unfold World.cell?; rw [hb]
  · rw [← h4]; unfold World.cell?; rw [hb]
end Go.Proofs.YtgaknbnhmoddcaaGreatDoor
namespace Go.Proofs.YtgaknbnhmoddcaaGreatDoor
open Go.RowKit
theorem lex_row18 (s : ByteArray) (hs : s.size ≤ 1000000) (L : List Tok) (h : lex0 s.data.toList = .ok L) (h0 : 0 < L.length) (w : World) (hE : EnvU w) :
    Calls Tryz.prog 21 #[.string s] w fun e w' => (∃ g cap, e = .returned (.tuple #[.slice (some ⟨g, 0, none⟩) L.length cap, .int .i64 0, .int .i64 0]) ∧ L.length ≤ cap ∧ TokRow g 0 L w' ∧ g < w'.heap.size) ∧ Below w.heap.size w w' := by
  refine (lex_row s hs L h h0 w hE).mono ?_
  rintro e w' ⟨⟨g, cap, rfl, ho⟩, hb⟩
  refine ⟨⟨g, cap, rfl, ?_, ?_, ?_⟩, hb⟩
  · obtain ⟨g2, n2, c2, e1, e2, _, e3⟩ := ho.formU h0
    injection e1 with e1 e4 e5
    omega
  · rcases ho.sl with ⟨ua, uc, hu2, hL, _⟩ | ⟨b2, off, cap2, hu2, hr⟩
    · rw [hL] at h0; simp at h0
    · injection hu2 with e1 e2 e3
      injection e1 with e1
      injection e1 with e1 e2
      subst e1; subst e2
      exact hr
  · rcases ho.2 with ⟨e1, _⟩ | ⟨g2, cap2, cur, e1, _, hg, _⟩
    · cases e1
    · injection e1 with e1
      injection e1 with e1
      injection e1 with e1
      subst e1
      exact heap_lt hg
end Go.Proofs.YtgaknbnhmoddcaaGreatDoor
namespace Go.Proofs.YtgaknbnhmoddcaaGreatDoor
open Go.RowKit Go.Lib
theorem arg_info : (Tryz.prog.info? 65).map (fun i => (i.zero, i.size, i.bytes)) = some (some (.agg #[.string ⟨#[]⟩, .slice none 0 0]), 2, 40) := by kernel_rfl
theorem dir_info : (Tryz.prog.info? 61).map (fun i => (i.zero, i.size, i.bytes)) = some (some (.agg #[.string ⟨#[]⟩, .slice none 0 0]), 2, 40) := by kernel_rfl
/-- The cells of names with slices behind them. -/
def xFlat {α : Type} : List (List UInt8 × α) → List Value → List Value
  | (n, _) :: r, u :: us => .string ⟨n.toArray⟩ :: u :: xFlat r us
  | _, _ => []
theorem xFlat_len {α : Type} : ∀ (L : List (List UInt8 × α)) (U : List Value), U.length = L.length → (xFlat L U).length = L.length * 2
  | [], U, h => by cases U <;> simp [xFlat]
  | (n, x) :: r, [], h => by simp at h
  | (n, x) :: r, u :: us, h => by
    have := xFlat_len r us (by simpa using h)
    simp only [xFlat, List.length_cons, this]; omega
theorem xFlat_app {α : Type} : ∀ (L M : List (List UInt8 × α)) (U V : List Value), U.length = L.length → xFlat (L ++ M) (U ++ V) = xFlat L U ++ xFlat M V
  | [], M, [], V, _ => by simp [xFlat]
  | [], M, u :: us, V, h => by simp at h
  | (n, x) :: r, M, [], V, h => by simp at h
  | (n, x) :: r, M, u :: us, V, h => by simp only [List.cons_append, xFlat, xFlat_app r M us V (by simpa using h)]
/-- A row of names with slices behind them, the call's own; whatever is behind each is meant by Own. -/
def OwnX {α : Type} (T : TypeId) (Own : Value → α → World → Prop) (B : Nat) (v : Value) (L : List (List UInt8 × α)) (W : World) : Prop :=
  ∃ U : List Value, U.length = L.length ∧ W.ownsRow B T 2 v L.length (xFlat L U) ∧ ∀ (i : Nat) (h : i < L.length) (h' : i < U.length), (∃ a n c, U[i] = .slice a n c) ∧ Own U[i] L[i].2 W
section
variable {α : Type} {T : TypeId} {Own : Value → α → World → Prop} {B : Nat} {v : Value} {L : List (List UInt8 × α)} {W W' : World}
theorem OwnX.nil (W : World) : OwnX T Own B (.slice none 0 0) [] W := ⟨[], rfl, World.ownsRow_nil W B T 2, fun i h => by simp at h⟩
theorem OwnX.form (h : OwnX T Own B v L W) : ∃ a c, v = .slice a L.length c := by
  obtain ⟨U, h1, h2, h3⟩ := h
  rcases h2.2 with ⟨e, e2⟩ | ⟨g, cap, cur, e, _⟩
  · exact ⟨none, 0, by rw [e, e2]⟩
  · exact ⟨_, _, e⟩
theorem OwnX.blk (h : OwnX T Own B v L W) (k : Nat) (hk : v.ownBlock = some k) : B ≤ k ∧ k < W.heap.size := by
  obtain ⟨U, h1, h2, h3⟩ := h
  exact World.ownsRow.lt h2 k hk
/-- What is kept where all blocks from B on stay that were there. -/
def Kp (B : Nat) (W W' : World) : Prop := ∀ (k : Nat) (o : Obj), B ≤ k → W.heap[k]? = some o → W'.heap[k]? = some o
theorem Kp.rk {p : Nat} (h : RK p W W') (hp : p < B) : Kp B W W' := fun k o hk ho => h.2 k o ho (by omega)
theorem Kp.mk {p m : Nat} (h : MK p m W W') (hp : p < B) (hm : m < B) : Kp B W W' := fun k o hk ho => h.2 k o ho (by omega) (by omega)
theorem Kp.below (h : Below W.heap.size W W') : Kp B W W' := fun k o hk ho => (h.block k (heap_lt ho)).trans ho
theorem Kp.trans {W'' : World} (h : Kp B W W') (h' : Kp B W' W'') : Kp B W W'' := fun k o hk ho => h' k o hk (h k o hk ho)
theorem OwnC.kp {B : Nat} {v : Value} {L : List Cel} {W W' : World} (h : OwnC B v L W) (hk : Kp B W W') : OwnC B v L W' := by
  obtain ⟨h1, h2⟩ := h
  refine ⟨h1, ?_⟩
  rcases h2 with h2 | ⟨g, cap, cur, hv, hB, hg, hrest⟩
  · exact Or.inl h2
  · exact Or.inr ⟨g, cap, cur, hv, hB, hk g _ hB hg, hrest⟩
theorem OwnX.kp (h : OwnX T Own B v L W) (hk : Kp B W W') (hO : ∀ u x, Own u x W → Own u x W') : OwnX T Own B v L W' := by
  obtain ⟨U, h1, h2, h3⟩ := h
  refine ⟨U, h1, ⟨h2.1, ?_⟩, fun i hi hi' => ⟨(h3 i hi hi').1, hO _ _ (h3 i hi hi').2⟩⟩
  rcases h2.2 with h2 | ⟨g, cap, cur, hv, hB, hg, hrest⟩
  · exact Or.inl h2
  · exact Or.inr ⟨g, cap, cur, hv, hB, hk g _ hB hg, hrest⟩
/-- A row whose type is another one's: it stays where that one grows. -/
theorem OwnC.grownX {B : Nat} {v : Value} {L : List Cel} {W W' : World} {r : Option Nat} (h : OwnC B v L W) (hg : W.grownBy W' r) (hr : ∀ k, r = some k → ∃ cs, W.heap[k]? = some (.cells cs T (0, 0))) (hT : T ≠ 63) : OwnC B v L W' := by
  obtain ⟨h1, h2⟩ := h
  refine ⟨h1, ?_⟩
  rcases h2 with h2 | ⟨g, cap, cur, hv, hB, hgg, hrest⟩
  · exact Or.inl h2
  · refine Or.inr ⟨g, cap, cur, hv, hB, (hg.block g (heap_lt hgg) (fun e => ?_)).trans hgg, hrest⟩
    obtain ⟨cs, hcs⟩ := hr g e.symm
    rw [hgg] at hcs
    injection hcs with hcs
    injection hcs with _ hcs _
    exact hT hcs.symm
theorem OwnX.grownX {T2 : TypeId} {r : Option Nat} (h : OwnX T Own B v L W) (hg : W.grownBy W' r) (hr : ∀ k, r = some k → ∃ cs, W.heap[k]? = some (.cells cs T2 (0, 0))) (hT : T2 ≠ T) (hO : ∀ u x, Own u x W → Own u x W') : OwnX T Own B v L W' := by
  obtain ⟨U, h1, h2, h3⟩ := h
  refine ⟨U, h1, ⟨h2.1, ?_⟩, fun i hi hi' => ⟨(h3 i hi hi').1, hO _ _ (h3 i hi hi').2⟩⟩
  rcases h2.2 with h2 | ⟨g, cap, cur, hv, hB, hgg, hrest⟩
  · exact Or.inl h2
  · refine Or.inr ⟨g, cap, cur, hv, hB, (hg.block g (heap_lt hgg) (fun e => ?_)).trans hgg, hrest⟩
    obtain ⟨cs, hcs⟩ := hr g e.symm
    rw [hgg] at hcs
    injection hcs with hcs
    injection hcs with _ hcs _
    exact hT hcs.symm
theorem OwnX.row (h : OwnX T Own B v L W) (k : Nat) (hk : v.ownBlock = some k) : ∃ cs, W.heap[k]? = some (.cells cs T (0, 0)) := by
  obtain ⟨U, h1, h2, h3⟩ := h
  rcases h2.2 with ⟨e, e2⟩ | ⟨g, cap, cur, e, _, hg, _⟩
  · rw [e] at hk; cases hk
  · rw [e] at hk
    injection hk with hk
    subst hk
    exact ⟨_, hg⟩
end
abbrev OwnA (B : Nat) : Value → List (List UInt8 × List Cel) → World → Prop := OwnX 65 (OwnC B) B
abbrev OwnD (B : Nat) : Value → List (List UInt8 × List (List UInt8 × List Cel)) → World → Prop := OwnX 61 (OwnA B) B
theorem OwnA.kp {B : Nat} {v : Value} {L : List (List UInt8 × List Cel)} {W W' : World} (h : OwnA B v L W) (hk : Kp B W W') : OwnA B v L W' := OwnX.kp h hk fun u x hx => hx.kp hk
theorem OwnD.kp {B : Nat} {v : Value} {L : List (List UInt8 × List (List UInt8 × List Cel))} {W W' : World} (h : OwnD B v L W) (hk : Kp B W W') : OwnD B v L W' := OwnX.kp h hk fun u x hx => OwnA.kp hx hk
/-- 'append(v, x)' of one more. -/
theorem wpList_pushA {ops : Array Oper} {rest : List Oper} {o : Oper} {a : Act} {Q : Exit → Act → World → Prop} {w : World} (hgd : o.guard = none) (s x : Operand)
    (ho : o.op = .call { callee := .builtin .append, args := #[s, x], argTypes := #[26, 26] }) (B : Nat) (v : Value) (L : List (List UInt8 × List Cel)) (hs : a.eval s = v) (hown : OwnA B v L w)
    (g c : Nat) (n : ByteArray) (u : Value) (y : List Cel) (hx : a.eval x = .slice (some ⟨g, 0, none⟩) 1 c) (hnew : w.heap[g]? = some (.cells #[.string n, u] 65 (0, 0))) (hu : ∃ a n c, u = .slice a n c) (hy : OwnC B u y w) (hlen : L.length + 1 ≤ 1000000) (hB : B ≤ w.heap.size)
    (h : ∀ v' w', OwnA B v' (L ++ [(n.data.toList, y)]) w' → w.grownBy w' v.ownBlock → (v'.ownBlock = v.ownBlock ∨ v'.ownBlock = some w.heap.size) → wpList Tryz.prog ops Q rest (a.put o.dst v') w') : wpList Tryz.prog ops Q (o :: rest) a w := by
  obtain ⟨i0, hi, hz0, hz1, hz2⟩ := info_parts arg_info
  have hrow := fun k (hk : v.ownBlock = some k) => OwnX.row hown k hk
  obtain ⟨U, hU, hrw, heach⟩ := hown
  obtain ⟨ua, un, uc, rfl⟩ := hu
  refine wpList_append_own_at w hgd s x 26 ho B 65 i0 (.agg #[.string ⟨#[]⟩, .slice none 0 0]) 2 40 Tryz.underlying26 hi hz0 hz1 hz2 rfl (by decide) v L.length (xFlat L U) hs hrw ⟨g, 0, none⟩ 1 c (xFlat [(n.data.toList, y)] [.slice ua un uc]) hx rfl ?_ ?_ (by unfold maxLen; omega) (by omega) hB ?_
  · intro j u hj
    rw [addr_add, Nat.zero_add, Lib.cell_of_heap hnew]
    match j, hj with
    | 0, hj => simpa [xFlat] using hj
    | 1, hj => simpa [xFlat] using hj
    | j + 2, hj => simp [xFlat] at hj
  · intro u hu
    simp only [xFlat, List.mem_cons, List.not_mem_nil, or_false] at hu
    rcases hu with rfl | rfl
    · rfl
    · rfl
  · intro v' w' h1 hg _ h4
    refine h v' w' ⟨U ++ [.slice ua un uc], by simp [hU], ?_, ?_⟩ hg h4
    · rw [List.length_append, xFlat_app _ _ _ _ hU]
      exact h1
    · intro i hi hi'
      by_cases hlt : i < L.length
      · obtain ⟨e1, hx⟩ := heach i hlt (by omega)
        rw [List.getElem_append_left hlt, List.getElem_append_left (by omega)]
        exact ⟨e1, hx.grownX hg hrow (by decide)⟩
      · have hie : i = L.length := by simp at hi; omega
        subst hie
        have hx := hy
        refine ⟨⟨ua, un, uc, ?_⟩, ?_⟩
        · rw [List.getElem_append_right (by omega)]
          simp [hU]
        · have e2 : (U ++ [Value.slice ua un uc])[L.length]'hi' = .slice ua un uc := by
            rw [List.getElem_append_right (by omega)]; simp [hU]
          have e3 : (L ++ [(n.data.toList, y)])[L.length]'hi = (n.data.toList, y) := by
            rw [List.getElem_append_right (by omega)]; simp
          rw [e2, e3]
          exact hx.grownX hg hrow (by decide)
/-- 'append(v, x)' of one more. -/
theorem wpList_pushD {ops : Array Oper} {rest : List Oper} {o : Oper} {a : Act} {Q : Exit → Act → World → Prop} {w : World} (hgd : o.guard = none) (s x : Operand)
    (ho : o.op = .call { callee := .builtin .append, args := #[s, x], argTypes := #[27, 27] }) (B : Nat) (v : Value) (L : List (List UInt8 × List (List UInt8 × List Cel))) (hs : a.eval s = v) (hown : OwnD B v L w)
    (g c : Nat) (n : ByteArray) (u : Value) (y : List (List UInt8 × List Cel)) (hx : a.eval x = .slice (some ⟨g, 0, none⟩) 1 c) (hnew : w.heap[g]? = some (.cells #[.string n, u] 61 (0, 0))) (hu : ∃ a n c, u = .slice a n c) (hy : OwnA B u y w) (hlen : L.length + 1 ≤ 1000000) (hB : B ≤ w.heap.size)
    (h : ∀ v' w', OwnD B v' (L ++ [(n.data.toList, y)]) w' → w.grownBy w' v.ownBlock → (v'.ownBlock = v.ownBlock ∨ v'.ownBlock = some w.heap.size) → wpList Tryz.prog ops Q rest (a.put o.dst v') w') : wpList Tryz.prog ops Q (o :: rest) a w := by
  obtain ⟨i0, hi, hz0, hz1, hz2⟩ := info_parts dir_info
  have hrow := fun k (hk : v.ownBlock = some k) => OwnX.row hown k hk
  obtain ⟨U, hU, hrw, heach⟩ := hown
  obtain ⟨ua, un, uc, rfl⟩ := hu
  refine wpList_append_own_at w hgd s x 27 ho B 61 i0 (.agg #[.string ⟨#[]⟩, .slice none 0 0]) 2 40 Tryz.underlying27 hi hz0 hz1 hz2 rfl (by decide) v L.length (xFlat L U) hs hrw ⟨g, 0, none⟩ 1 c (xFlat [(n.data.toList, y)] [.slice ua un uc]) hx rfl ?_ ?_ (by unfold maxLen; omega) (by omega) hB ?_
  · intro j u hj
    rw [addr_add, Nat.zero_add, Lib.cell_of_heap hnew]
    match j, hj with
    | 0, hj => simpa [xFlat] using hj
    | 1, hj => simpa [xFlat] using hj
    | j + 2, hj => simp [xFlat] at hj
  · intro u hu
    simp only [xFlat, List.mem_cons, List.not_mem_nil, or_false] at hu
    rcases hu with rfl | rfl
    · rfl
    · rfl
  · intro v' w' h1 hg _ h4
    refine h v' w' ⟨U ++ [.slice ua un uc], by simp [hU], ?_, ?_⟩ hg h4
    · rw [List.length_append, xFlat_app _ _ _ _ hU]
      exact h1
    · intro i hi hi'
      by_cases hlt : i < L.length
      · obtain ⟨e1, hx⟩ := heach i hlt (by omega)
        rw [List.getElem_append_left hlt, List.getElem_append_left (by omega)]
        exact ⟨e1, OwnX.grownX hx hg hrow (by decide) fun u2 x2 hx2 => hx2.grownX hg hrow (by decide)⟩
      · have hie : i = L.length := by simp at hi; omega
        subst hie
        have hx := hy
        refine ⟨⟨ua, un, uc, ?_⟩, ?_⟩
        · rw [List.getElem_append_right (by omega)]
          simp [hU]
        · have e2 : (U ++ [Value.slice ua un uc])[L.length]'hi' = .slice ua un uc := by
            rw [List.getElem_append_right (by omega)]; simp [hU]
          have e3 : (L ++ [(n.data.toList, y)])[L.length]'hi = (n.data.toList, y) := by
            rw [List.getElem_append_right (by omega)]; simp
          rw [e2, e3]
          exact OwnX.grownX hx hg hrow (by decide) fun u2 x2 hx2 => hx2.grownX hg hrow (by decide)
end Go.Proofs.YtgaknbnhmoddcaaGreatDoor
namespace Go.Proofs.YtgaknbnhmoddcaaGreatDoor
open Go.RowKit Go.Lib
theorem OwnC.up {B B' : Nat} {v : Value} {L : List Cel} {W : World} (h : OwnC B v L W) (hb : ∀ j, v.ownBlock = some j → B' ≤ j) : OwnC B' v L W := by
  obtain ⟨h1, h2⟩ := h
  refine ⟨h1, ?_⟩
  rcases h2 with h2 | ⟨g, cap, cur, hv, hB, hrest⟩
  · exact Or.inl h2
  · exact Or.inr ⟨g, cap, cur, hv, hb g (by rw [hv]; rfl), hrest⟩
theorem OwnX.chg {α : Type} {T : TypeId} {Own Own' : Value → α → World → Prop} {B B' : Nat} {v : Value} {L : List (List UInt8 × α)} {W : World} (h : OwnX T Own B v L W) (hB : B' ≤ B) (hO : ∀ u x, Own u x W → Own' u x W) : OwnX T Own' B' v L W := by
  obtain ⟨U, h1, h2, h3⟩ := h
  refine ⟨U, h1, ⟨h2.1, ?_⟩, fun i hi hi' => ⟨(h3 i hi hi').1, hO _ _ (h3 i hi hi').2⟩⟩
  rcases h2.2 with h2 | ⟨g, cap, cur, hv, hB2, hrest⟩
  · exact Or.inl h2
  · exact Or.inr ⟨g, cap, cur, hv, by omega, hrest⟩
theorem OwnA.less {B B' : Nat} {v : Value} {L : List (List UInt8 × List Cel)} {W : World} (h : OwnA B v L W) (hB : B' ≤ B) : OwnA B' v L W := OwnX.chg h hB fun u x hx => hx.less hB
theorem OwnD.less {B B' : Nat} {v : Value} {L : List (List UInt8 × List (List UInt8 × List Cel))} {W : World} (h : OwnD B v L W) (hB : B' ≤ B) : OwnD B' v L W := OwnX.chg h hB fun u x hx => OwnA.less hx hB
theorem OwnC.setT {B A i : Nat} {v u : Value} {L : List Cel} {W : World} {cs : Array Value} {T : TypeId} (h : OwnC B v L W) (hA : W.heap[A]? = some (.cells cs T (0, 0))) (hT : T ≠ 63) : OwnC B v L (W.setCell ⟨A, i, none⟩ u) := by
  obtain ⟨h1, h2⟩ := h
  refine ⟨h1, ?_⟩
  rcases h2 with h2 | ⟨g, cap, cur, hv, hB, hgg, hrest⟩
  · exact Or.inl h2
  · refine Or.inr ⟨g, cap, cur, hv, hB, (Below.heap_setCell _ _ _ _ (fun e => ?_)).trans hgg, hrest⟩
    have e2 : g = A := e
    rw [e2, hA] at hgg
    injection hgg with hcs
    injection hcs with _ hcs _
    exact hT hcs
theorem OwnX.setT {α : Type} {T : TypeId} {Own : Value → α → World → Prop} {B A i : Nat} {v u : Value} {L : List (List UInt8 × α)} {W : World} (h : OwnX T Own B v L W) (hA : v.ownBlock ≠ some A) (hO : ∀ u2 x, Own u2 x W → Own u2 x (W.setCell ⟨A, i, none⟩ u)) : OwnX T Own B v L (W.setCell ⟨A, i, none⟩ u) := by
  obtain ⟨U, h1, h2, h3⟩ := h
  refine ⟨U, h1, ⟨h2.1, ?_⟩, fun i hi hi' => ⟨(h3 i hi hi').1, hO _ _ (h3 i hi hi').2⟩⟩
  rcases h2.2 with h2 | ⟨g, cap, cur, hv, hB, hgg, hrest⟩
  · exact Or.inl h2
  · exact Or.inr ⟨g, cap, cur, hv, hB, (Below.heap_setCell _ _ _ _ (fun e => hA (by rw [hv]; show some g = some A; rw [show g = A from e]))).trans hgg, hrest⟩
theorem RK.mkNew {p m : Nat} {w W W' : World} (h : RK p w W) (hm : MK p m W W') (hn : w.heap.size ≤ m) : RK p w W' := ⟨h.1.trans hm.1, fun k o hk hne => hm.2 k o (h.2 k o hk hne) hne (by have := heap_lt hk; omega)⟩
theorem RK.setNew {p A i : Nat} {u : Value} {w W : World} (h : RK p w W) (hp : p ≤ A) (hn : w.heap.size ≤ A) : RK p w (W.setCell ⟨A, i, none⟩ u) := ⟨h.1.setCell (p := ⟨A, i, none⟩) hp u, fun k o hk hne => by
  rw [Below.heap_setCell _ _ _ _ (by show k ≠ A; have := heap_lt hk; omega)]; exact h.2 k o hk hne⟩
theorem LS.grown_ {p tb off cap : Nat} {T : List Tok} {fx : Bool} {k : Nat} {op : Int} {v : Value} {W W' : World} {r : Option Nat} (h : LS p tb off cap T fx k op v W) (hg : W.grownBy W' r) (hr : ∀ j, r = some j → p < j) : LS p tb off cap T fx k op v W' := by
  have htb := h.2.2.1
  have hlt := h.lt
  exact h.same (hg.block p hlt (fun e => by have := hr p e.symm; omega)) (hg.block tb (by omega) (fun e => by have := hr tb e.symm; omega))
/-- What a reader's step leaves that makes a row; so many brackets are open as before. -/
def DoO {α : Type} (p tb off cap : Nat) (T : List Tok) (fx : Bool) (op : Int) (R : Except ErrP (Nat × α)) (G : α → Value → World → Prop) (W : World) (x : Ending) (W' : World) : Prop := match R with
  | .error e => x = .panicked (stopP e) ∧ Below p W W'
  | .ok (k', y) => ∃ a n c v, x = .returned (.slice a n c) ∧ G y (.slice a n c) W' ∧ LS p tb off cap T fx k' op v W' ∧ RK p W W'
theorem DoO.to {α : Type} {p tb off cap : Nat} {T : List Tok} {fx : Bool} {op : Int} {R : Except ErrP (Nat × α)} {G G' : α → Value → World → Prop} {W W' : World} {x : Ending} (h : DoO p tb off cap T fx op R G W x W') (hG : ∀ y u, G y u W' → G' y u W') : DoV p tb off cap T fx R G' W x W' := by
  cases R with
  | error e => exact h
  | ok y =>
    obtain ⟨k', y⟩ := y
    obtain ⟨a, n, c, v, h1, h2, h3, h4⟩ := h
    exact ⟨a, n, c, op, v, h1, hG _ _ h2, h3, h4⟩
theorem argG_end {fixed : Bool} {T : List Tok} {f : Nat} {nm : List (List UInt8)} {a : Nat} {acc : List (List UInt8 × List Cel)} (h0 : acc.isEmpty = false) (h : mrkP T a [41] = true) : argG fixed T (f + 1) nm a acc = .ok (a + 1, acc) := by
  unfold argG
  rw [h0, h]; rfl
theorem argG_go {fixed : Bool} {T : List Tok} {f : Nat} {nm : List (List UInt8)} {a : Nat} {acc : List (List UInt8 × List Cel)} (h : acc.isEmpty = true ∨ mrkP T a [41] = false) : argG fixed T (f + 1) nm a acc = match memP nm T a with
    | .error e => .error e
    | .ok (s, a1) => match litP fixed T a1 with
      | .error e => .error e
      | .ok (a2, v) => argG fixed T f (s :: nm) a2 (acc ++ [(s, v)]) := by
  conv => lhs; unfold argG
  rw [if_neg (by rcases h with h | h <;> rw [h] <;> simp)]
  rfl
theorem lit_on (fixed : Bool) (T : List Tok) (a m : Nat) (v : List Cel) (h : litP fixed T a = .ok (m, v)) : a < m ∧ m ≤ T.length := val_on fixed T 16 _ _ _ _ _ h
theorem sl_form {B : Nat} {v : Value} {L : List Cel} {W : World} (h : OwnC B v L W) : ∃ a n c, v = .slice a n c := by
  rcases h.2 with ⟨e1, _⟩ | ⟨g, cap, cur, e1, _⟩
  · exact ⟨_, _, _, e1⟩
  · exact ⟨_, _, _, e1⟩
end Go.Proofs.YtgaknbnhmoddcaaGreatDoor
namespace Go.Proofs.YtgaknbnhmoddcaaGreatDoor
open Go.RowKit Go.Lib
set_option maxRecDepth 100000 in
theorem l_args_none {p tb off cap : Nat} {T : List Tok} {fx : Bool} {k : Nat} {v : Value} (W : World) (h : LS p tb off cap T fx k 0 v W) (hk : k ≤ 100000) (hm : mrkP T k [40] = false) :
    Calls Tryz.prog 57 #[.pointer (some ⟨p, 0, none⟩)] W (DoO p tb off cap T fx 0 (.ok (k, [])) (fun L u W' => L.length ≤ 100000 ∧ OwnA W.heap.size u L W') W) := by
  have HM := Lib.hid (l_mark_not (what := ⟨#[40]⟩) hm W h hk)
  clear h
  go_enter Tryz.func57, Tryz.ntmps57
  go_wp2_with fail
  refine HM.out.mono ?_; rintro x w1 ⟨rfl, hst, hrk⟩
  have HL := Lib.hid hst
  have HK := Lib.hid hrk
  clear hst hrk
  go_wp2_with fail
  go_returns
  exact ⟨none, 0, 0, v, rfl, ⟨Nat.zero_le _, OwnX.nil _⟩, HL.out, HK.out⟩
set_option maxRecDepth 100000 in
set_option maxHeartbeats 8000000 in
theorem l_args_go {p tb off cap : Nat} {T : List Tok} {fx : Bool} {k : Nat} {v : Value} (W : World) (h : LS p tb off cap T fx k 0 v W) (hm : mrkP T k [40] = true) (hE : ∀ W', Below p W W' → Env W') :
    Calls Tryz.prog 57 #[.pointer (some ⟨p, 0, none⟩)] W (DoO p tb off cap T fx 0 (argG fx T (T.length + 1) [] (k + 1) []) (fun L u W' => L.length ≤ 100000 ∧ OwnA W.heap.size u L W') W) := by
  have hT8 := h.2.2.2.1.1
  have hkT := mrk_lt hm
  have HM := Lib.hid (l_mark_yes (what := ⟨#[40]⟩) hm W h (by omega))
  have HEE := Lib.hid hE
  have hpl := h.lt
  obtain ⟨Z, hZ⟩ : ∃ Z, argG fx T (T.length + 1) [] (k + 1) [] = Z := ⟨_, rfl⟩
  have HZ0 := Lib.hid hZ
  rw [hZ]
  have hmm := @run_makeMap Tryz.prog
  clear h hm hE hZ
  go_enter Tryz.func57, Tryz.ntmps57
  go_wp2_with fail
  refine HM.out.mono ?_; rintro x w1 ⟨rfl, hst, hrk⟩
  obtain ⟨bm, hbm⟩ : ∃ bm, w1.heap.size = bm := ⟨_, rfl⟩
  obtain ⟨w2, hw2⟩ : ∃ w2, w1.alloc (.map #[] 0) = w2 := ⟨_, rfl⟩
  have hb2 : Below w1.heap.size w1 w2 := by rw [← hw2]; exact (Below.refl _ _).alloc (Nat.le_refl _) _
  have HL2 := Lib.hid (hst.below hb2)
  have HN2 : Hid (NamesM bm [] w2) := Lib.hid (by rw [← hw2, ← hbm]; exact NamesM.made w1)
  have HR2 := Lib.hid (hrk.trans (RK.of_below hb2 hst.lt))
  have hbW : W.heap.size ≤ bm := by rw [← hbm]; exact hrk.1.size
  have hpb : p < bm := by omega
  have HW2 := Lib.hid hw2
  have HBM := Lib.hid hbm
  clear hst hrk hb2 hw2 hbm
  go_wp2_with fail
  try rw [HW2.out]
  try simp only [HBM.out]
  go_loopg [2, 4] (T.length + 1) (fun gk lv av wr => ∃ (nm : List (List UInt8)) (k1 : Nat) (acc : List (List UInt8 × List Cel)) (v1 : Value) (la : Option Addr) (lc : Nat), lv = .slice la acc.length lc ∧ k1 ≤ T.length ∧ T.length + 1 < gk + k1 ∧ nm.length ≤ acc.length ∧ acc.length ≤ k1 ∧ Hid (OwnA (bm + 1) (.slice la acc.length lc) acc wr) ∧ Hid (LS p tb off cap T fx k1 0 v1 wr) ∧ Hid (NamesM bm nm wr) ∧ Hid (RK p W wr) ∧ Hid (argG fx T gk nm k1 acc = Z))
  case atStart => exact ⟨[], k + 1, [], v, none, 0, rfl, by omega, by omega, Nat.le_refl _, by simp, Lib.hid (OwnX.nil _), HL2, HN2, HR2, HZ0⟩
  case round =>
    clear HL2 HN2 HR2 HZ0 hmm HM HW2
    rename World => wr
    obtain ⟨nm, k1, acc, v1, la, lc, rfl, hkT1, hg, hnm, hac, HOA, HLS, HNM, HRK, HQ⟩ := hrel
    obtain ⟨g, rfl⟩ : ∃ g, gk = g + 1 := ⟨gk - 1, by omega⟩
    obtain ⟨ln, hln⟩ : ∃ ln, acc.length = ln := ⟨_, rfl⟩
    rw [hln] at HOA ⊢
    have hln9 : ln ≤ 100000 := by omega
    cases he : acc.isEmpty with
    | true =>
      have hl0 : ln = 0 := by rw [← hln]; simpa using he
      have hq := HQ.out
      rw [argG_go (Or.inl he)] at hq
      have HQ := Lib.hid hq
      subst hl0
      clear hq
      go_wp2_with fail
      cases hna : namP nm T k1 with
      | error e =>
        have hme : memP nm T k1 = .error e := by unfold memP; rw [hna]
        have HZ : Hid (.error e = Z) := Lib.hid (by have := HQ.out; simp only [hme] at this; exact this)
        refine (l_name_not bm nm hna _ HLS.out (by omega) HNM.out hpb (by omega)).mono ?_; rintro x w4 ⟨rfl, hb⟩
        have HB4 := Lib.hid (HRK.out.1.trans hb)
        clear hb hna hme HQ
        go_wp2_with fail
        refine ⟨rfl, ?_⟩
        rw [← HZ.out]
        exact ⟨rfl, HB4.out⟩
      | ok s =>
        have hk2 := (nam_lt hna).1
        have hme : memP nm T k1 = if mrkP T (k1 + 1) [58] then .ok (s, k1 + 2) else .error (180, k1 + 1) := by unfold memP; rw [hna]
        refine (l_name_yes bm nm hna _ HLS.out (by omega) HNM.out hpb (by omega)).mono ?_; rintro x w4 ⟨rfl, hst, hnm4, hmk⟩
        have HO4 := Lib.hid (HOA.out.kp (Kp.mk hmk (by omega) (Nat.lt_succ_self bm)))
        have HR4 := Lib.hid (HRK.out.mkNew hmk hbW)
        obtain ⟨sb, hsb⟩ : ∃ sb : ByteArray, (⟨s.toArray⟩ : ByteArray) = sb := ⟨_, rfl⟩
        have hsl : sb.data.toList = s := by rw [← hsb]
        rw [hsb]
        obtain ⟨A, hA⟩ : ∃ A, w4.heap.size = A := ⟨_, rfl⟩
        obtain ⟨w5, hw5⟩ : ∃ w5, w4.alloc (.cells #[.string sb, .slice none 0 0] 65 (0, 0)) = w5 := ⟨_, rfl⟩
        have hb5 : Below w4.heap.size w4 w5 := by rw [← hw5]; exact (Below.refl _ _).alloc (Nat.le_refl _) _
        have HA5 : Hid (w5.heap[A]? = some (.cells #[.string sb, .slice none 0 0] 65 (0, 0))) := Lib.hid (by rw [← hw5, ← hA]; exact heap_alloc_last _ _)
        have HL5 := Lib.hid (hst.below hb5)
        have HN5 := Lib.hid (hnm4.below hb5)
        have HO5 := Lib.hid (HO4.out.kp (Kp.below hb5))
        have HR5 := Lib.hid (HR4.out.trans (RK.of_below hb5 hst.lt))
        have hbA : bm < A := by rw [← hA]; exact hnm4.lt
        have hoA : ∀ j, (Value.slice la 0 lc).ownBlock = some j → j < A := fun j hj => by rw [← hA]; exact (HO4.out.blk j hj).2
        have HW5 := Lib.hid hw5
        have HA_ := Lib.hid hA
        clear hst hnm4 hmk hna hsb hb5 hw5 hA
        go_wp2_with fail
        rw [HW5.out, HA_.out]
        clear HW5 HA_
        cases hc : mrkP T (k1 + 1) [58] with
        | false =>
          rw [hc] at hme
          have HZ : Hid (.error (180, k1 + 1) = Z) := Lib.hid (by have := HQ.out; simp only [hme, Bool.false_eq_true, if_false] at this; exact this)
          refine (l_must_not (what := ⟨#[58]⟩) hc _ HL5.out (by omega)).mono ?_; rintro x w6 ⟨rfl, hb⟩
          have HB6 := Lib.hid (HR5.out.1.trans hb)
          clear hb hc hme HQ
          go_wp2_with fail
          refine ⟨rfl, ?_⟩
          rw [← HZ.out]
          exact ⟨rfl, HB6.out⟩
        | true =>
          have hcT := mrk_lt hc
          rw [hc] at hme
          simp only [if_true, hme] at HQ
          refine (l_must_yes (what := ⟨#[58]⟩) hc _ HL5.out (by omega)).mono ?_; rintro x w6 ⟨rfl, hst, hrk6⟩
          have HL6 : Hid (LS p tb off cap T fx (k1 + 2) 0 v1 w6) := Lib.hid hst
          have HN6 := Lib.hid (HN5.out.rk hrk6 (by omega))
          have HO6 := Lib.hid (HO5.out.kp (Kp.rk hrk6 (by omega)))
          have HR6 := Lib.hid (HR5.out.trans hrk6)
          have HA6 := Lib.hid (hrk6.2 A _ HA5.out (by omega))
          have hA6 := heap_lt HA6.out
          clear hst hrk6 hc hme
          go_wp2_with fail
          have HLT := Lib.hid (l_literal w6 HL6.out (by omega) (fun W' hb => HEE.out W' (HR6.out.1.trans hb)))
          cases hx : litP fx T (k1 + 2) with
          | error e =>
            rw [hx] at HLT
            have HZ : Hid (.error e = Z) := Lib.hid (by have := HQ.out; simp only [hx] at this; exact this)
            clear hx HQ
            refine HLT.out.mono ?_; rintro x w7 hx7
            obtain ⟨hxe, hbb⟩ : x = .panicked (stopP e) ∧ Below p w6 w7 := hx7
            have HBB := Lib.hid (HR6.out.1.trans hbb)
            clear hbb
            subst hxe
            go_wp2_with fail
            refine ⟨rfl, ?_⟩
            rw [← HZ.out]
            exact ⟨rfl, HBB.out⟩
          | ok y =>
            obtain ⟨k4, out4⟩ := y
            obtain ⟨hk4, hk4T⟩ := lit_on fx T _ _ _ hx
            have HQ4 : Hid (argG fx T g (s :: nm) k4 (acc ++ [(s, out4)]) = Z) := Lib.hid (by have := HQ.out; simp only [hx] at this; exact this)
            rw [hx] at HLT
            clear hx HQ
            refine HLT.out.mono ?_; rintro x w7 hx7
            obtain ⟨hl4, v4, hxe, hls7, hoc7, hrk7, hob7⟩ : out4.length ≤ 2048 ∧ ∃ v, x = .returned v ∧ LS p tb off cap T fx k4 0 v w7 ∧ OwnC (p + 1) v out4 w7 ∧ RK p w6 w7 ∧ ∀ j, v.ownBlock = some j → w6.heap.size ≤ j := hx7
            obtain ⟨a4, n4, c4, rfl⟩ := sl_form hoc7
            have HC7 : Hid (OwnC (bm + 1) (.slice a4 n4 c4) out4 w7) := Lib.hid (hoc7.up fun j hj => by have := hob7 j hj; omega)
            have HL7 := Lib.hid hls7
            have HN7 := Lib.hid (HN6.out.rk hrk7 (by omega))
            have HO7 := Lib.hid (HO6.out.kp (Kp.rk hrk7 (by omega)))
            have HR7 := Lib.hid (HR6.out.trans hrk7)
            have HA7 := Lib.hid (hrk7.2 A _ HA6.out (by omega))
            clear hls7 hoc7 hrk7 hob7 HLT HA5 HA6
            subst hxe
            obtain ⟨w8, hw8⟩ : ∃ w8, w7.setCell ⟨A, 1, none⟩ (.slice a4 n4 c4) = w8 := ⟨_, rfl⟩
            have hAp : A ≠ p := by omega
            have HA8 : Hid (w8.heap[A]? = some (.cells #[.string sb, .slice a4 n4 c4] 65 (0, 0))) := Lib.hid (by rw [← hw8]; exact pset HA7.out _ rfl)
            have HL8 : Hid (LS p tb off cap T fx k4 0 (.slice a4 n4 c4) w8) := Lib.hid (by
              have := HL7.out.2.2.1
              rw [← hw8]
              exact HL7.out.same (Below.heap_setCell _ _ _ _ (by show p ≠ A; omega)) (Below.heap_setCell _ _ _ _ (by show tb ≠ A; omega)))
            have HN8 : Hid (NamesM bm (s :: nm) w8) := Lib.hid (by rw [← hw8]; exact HN7.out.keep (Below.heap_setCell _ _ _ _ (by show bm ≠ A; omega)))
            have HC8 : Hid (OwnC (bm + 1) (.slice a4 n4 c4) out4 w8) := Lib.hid (by rw [← hw8]; exact HC7.out.setT HA7.out (by decide))
            have HO8 : Hid (OwnA (bm + 1) (.slice la 0 lc) acc w8) := Lib.hid (by rw [← hw8]; exact OwnX.setT HO7.out (fun e => by have := hoA A e; omega) fun u2 x hx => hx.setT HA7.out (by decide))
            have HR8 : Hid (RK p W w8) := Lib.hid (by rw [← hw8]; exact HR7.out.setNew (by omega) (by omega))
            have HW8 := Lib.hid hw8
            obtain ⟨w9, hw9⟩ : ∃ w9, w8.alloc (.cells #[.string sb, .slice a4 n4 c4] 65 (0, 0)) = w9 := ⟨_, rfl⟩
            have hb9 : Below w8.heap.size w8 w9 := by rw [← hw9]; exact (Below.refl _ _).alloc (Nat.le_refl _) _
            have HL9 := Lib.hid (HL8.out.below hb9)
            have HN9 := Lib.hid (HN8.out.below hb9)
            have HC9 := Lib.hid (HC8.out.kp (Kp.below hb9))
            have HO9 := Lib.hid (HO8.out.kp (Kp.below hb9))
            have HR9 := Lib.hid (HR8.out.trans (RK.of_below hb9 HL8.out.lt))
            have HNEW : Hid (w9.heap[w8.heap.size]? = some (.cells #[.string sb, .slice a4 n4 c4] 65 (0, 0))) := Lib.hid (by rw [← hw9]; exact heap_alloc_last _ _)
            have hsz9 : bm + 1 ≤ w9.heap.size := HN9.out.lt
            have HW9 := Lib.hid hw9
            have s1 : w7.frozen? ⟨A, 1, none⟩ = false := Lib.frozen_of_heap HA7.out 1
            have d0 : w7.cell? ⟨A, 0, none⟩ = some (.string sb) := by rw [Lib.cell_of_heap HA7.out]; rfl
            have d1 : w7.cell? ⟨A, 1, none⟩ = some (.slice none 0 0) := by rw [Lib.cell_of_heap HA7.out]; rfl
            have d2 : w8.cell? ⟨A, 0, none⟩ = some (.string sb) := by rw [Lib.cell_of_heap HA8.out]; rfl
            have d3 : w8.cell? ⟨A, 1, none⟩ = some (.slice a4 n4 c4) := by rw [Lib.cell_of_heap HA8.out]; rfl
            clear hb9 hw9 hw8 HA7 HA8 HL7 HN7 HO7 HC7 HR7
            have hs87 : w8.heap.size = w7.heap.size := by rw [← HW8.out]; simp
            rw [hs87] at HNEW
            have HSL := Lib.hid hsl
            clear hsl
            go_wp2_with (at_builtin; refine wpList_pushA rfl _ _ rfl (bm + 1) (.slice la 0 lc) acc rfl (by rw [HW8.out, HW9.out]; exact HO9.out) w7.heap.size 1 sb (.slice a4 n4 c4) out4 rfl (by rw [HW8.out, HW9.out]; exact HNEW.out) ⟨_, _, _, rfl⟩ (by rw [HW8.out, HW9.out]; exact HC9.out) (by omega) (by rw [HW8.out, HW9.out]; exact hsz9) ?_)
            intro v' w10 hown' hgrow hat
            rw [HW8.out, HW9.out] at hgrow
            rw [HSL.out] at hown'
            have hob : ∀ j, (Value.slice la 0 lc).ownBlock = some j → bm + 1 ≤ j := fun j hj => (HO9.out.blk j hj).1
            have HL10 := Lib.hid (HL9.out.grown_ hgrow (fun j hj => by have := hob j hj; omega))
            have HN10 := Lib.hid (HN9.out.grown hgrow (fun e => by have := hob bm e.symm; omega))
            have HR10 := Lib.hid (RK.grown HR9.out hgrow (fun j hj => by have := hob j hj; omega) hpl)
            obtain ⟨la', lc', hv'⟩ := OwnX.form hown'
            subst hv'
            have HO10 : Hid (OwnA (bm + 1) (.slice la' (acc ++ [(s, out4)]).length lc') (acc ++ [(s, out4)]) w10) := Lib.hid hown'
            have hlen : (acc ++ [(s, out4)]).length = acc.length + 1 := by simp
            clear hown' hgrow hat hob d0 d1 d2 d3 s1
            go_wp2_with fail
            go_roundg g
            case measure => omega
            case rel => exact ⟨s :: nm, k4, acc ++ [(s, out4)], _, la', lc', rfl, hk4T, by omega, by rw [hlen]; simp; omega, by rw [hlen]; omega, HO10, HL10, HN10, HR10, HQ4⟩
    | false =>
      have t0 : ((ln : Int) == 0) = false := by
        rw [beq_eq_false_iff_ne]
        intro e
        have : acc.length = 0 := by omega
        rw [List.length_eq_zero_iff.1 this] at he
        cases he
      cases ht : mrkP T k1 [41] with
      | true =>
        have hkT2 := mrk_lt ht
        have HZ : Hid (.ok (k1 + 1, acc) = Z) := Lib.hid (by rw [← HQ.out]; exact (argG_end he ht).symm)
        have HAC : Hid (acc.length ≤ 100000) := Lib.hid (by omega)
        clear HQ
        go_wp2_with fail
        refine (l_mark_yes (what := ⟨#[41]⟩) ht _ HLS.out (by omega)).mono ?_; rintro x w3 ⟨rfl, hst, hrk3⟩
        have HL3 := Lib.hid hst
        have HR3 := Lib.hid (HRK.out.trans hrk3)
        have HO3 := Lib.hid (HOA.out.kp (Kp.rk hrk3 (by omega)))
        clear hst hrk3 ht
        go_wp2_with fail
        go_returns
        rw [← HZ.out]
        exact ⟨la, ln, lc, v1, rfl, ⟨HAC.out, HO3.out.less (by omega)⟩, HL3.out, HR3.out⟩
      | false =>
        have hq := HQ.out
        rw [argG_go (Or.inr ht)] at hq
        have HQ := Lib.hid hq
        clear hq
        go_wp2_with fail
        refine (l_mark_not (what := ⟨#[41]⟩) ht _ HLS.out (by omega)).mono ?_; rintro x w3 ⟨rfl, hst, hrk3⟩
        have HL3 := Lib.hid hst
        have HR3 := Lib.hid (HRK.out.trans hrk3)
        have HO3 := Lib.hid (HOA.out.kp (Kp.rk hrk3 (by omega)))
        have HN3 := Lib.hid (HNM.out.rk hrk3 (by omega))
        clear hst hrk3 ht
        go_wp2_with fail
        cases hna : namP nm T k1 with
        | error e =>
          have hme : memP nm T k1 = .error e := by unfold memP; rw [hna]
          have HZ : Hid (.error e = Z) := Lib.hid (by have := HQ.out; simp only [hme] at this; exact this)
          refine (l_name_not bm nm hna _ HL3.out (by omega) HN3.out hpb (by omega)).mono ?_; rintro x w4 ⟨rfl, hb⟩
          have HB4 := Lib.hid (HR3.out.1.trans hb)
          clear hb hna hme HQ
          go_wp2_with fail
          refine ⟨rfl, ?_⟩
          rw [← HZ.out]
          exact ⟨rfl, HB4.out⟩
        | ok s =>
          have hk2 := (nam_lt hna).1
          have hme : memP nm T k1 = if mrkP T (k1 + 1) [58] then .ok (s, k1 + 2) else .error (180, k1 + 1) := by unfold memP; rw [hna]
          refine (l_name_yes bm nm hna _ HL3.out (by omega) HN3.out hpb (by omega)).mono ?_; rintro x w4 ⟨rfl, hst, hnm4, hmk⟩
          have HO4 := Lib.hid (HO3.out.kp (Kp.mk hmk (by omega) (Nat.lt_succ_self bm)))
          have HR4 := Lib.hid (HR3.out.mkNew hmk hbW)
          obtain ⟨sb, hsb⟩ : ∃ sb : ByteArray, (⟨s.toArray⟩ : ByteArray) = sb := ⟨_, rfl⟩
          have hsl : sb.data.toList = s := by rw [← hsb]
          rw [hsb]
          obtain ⟨A, hA⟩ : ∃ A, w4.heap.size = A := ⟨_, rfl⟩
          obtain ⟨w5, hw5⟩ : ∃ w5, w4.alloc (.cells #[.string sb, .slice none 0 0] 65 (0, 0)) = w5 := ⟨_, rfl⟩
          have hb5 : Below w4.heap.size w4 w5 := by rw [← hw5]; exact (Below.refl _ _).alloc (Nat.le_refl _) _
          have HA5 : Hid (w5.heap[A]? = some (.cells #[.string sb, .slice none 0 0] 65 (0, 0))) := Lib.hid (by rw [← hw5, ← hA]; exact heap_alloc_last _ _)
          have HL5 := Lib.hid (hst.below hb5)
          have HN5 := Lib.hid (hnm4.below hb5)
          have HO5 := Lib.hid (HO4.out.kp (Kp.below hb5))
          have HR5 := Lib.hid (HR4.out.trans (RK.of_below hb5 hst.lt))
          have hbA : bm < A := by rw [← hA]; exact hnm4.lt
          have hoA : ∀ j, (Value.slice la ln lc).ownBlock = some j → j < A := fun j hj => by rw [← hA]; exact (HO4.out.blk j hj).2
          have HW5 := Lib.hid hw5
          have HA_ := Lib.hid hA
          clear hst hnm4 hmk hna hsb hb5 hw5 hA
          go_wp2_with fail
          rw [HW5.out, HA_.out]
          clear HW5 HA_
          cases hc : mrkP T (k1 + 1) [58] with
          | false =>
            rw [hc] at hme
            have HZ : Hid (.error (180, k1 + 1) = Z) := Lib.hid (by have := HQ.out; simp only [hme, Bool.false_eq_true, if_false] at this; exact this)
            refine (l_must_not (what := ⟨#[58]⟩) hc _ HL5.out (by omega)).mono ?_; rintro x w6 ⟨rfl, hb⟩
            have HB6 := Lib.hid (HR5.out.1.trans hb)
            clear hb hc hme HQ
            go_wp2_with fail
            refine ⟨rfl, ?_⟩
            rw [← HZ.out]
            exact ⟨rfl, HB6.out⟩
          | true =>
            have hcT := mrk_lt hc
            rw [hc] at hme
            simp only [if_true, hme] at HQ
            refine (l_must_yes (what := ⟨#[58]⟩) hc _ HL5.out (by omega)).mono ?_; rintro x w6 ⟨rfl, hst, hrk6⟩
            have HL6 : Hid (LS p tb off cap T fx (k1 + 2) 0 v1 w6) := Lib.hid hst
            have HN6 := Lib.hid (HN5.out.rk hrk6 (by omega))
            have HO6 := Lib.hid (HO5.out.kp (Kp.rk hrk6 (by omega)))
            have HR6 := Lib.hid (HR5.out.trans hrk6)
            have HA6 := Lib.hid (hrk6.2 A _ HA5.out (by omega))
            have hA6 := heap_lt HA6.out
            clear hst hrk6 hc hme
            go_wp2_with fail
            have HLT := Lib.hid (l_literal w6 HL6.out (by omega) (fun W' hb => HEE.out W' (HR6.out.1.trans hb)))
            cases hx : litP fx T (k1 + 2) with
            | error e =>
              rw [hx] at HLT
              have HZ : Hid (.error e = Z) := Lib.hid (by have := HQ.out; simp only [hx] at this; exact this)
              clear hx HQ
              refine HLT.out.mono ?_; rintro x w7 hx7
              obtain ⟨hxe, hbb⟩ : x = .panicked (stopP e) ∧ Below p w6 w7 := hx7
              have HBB := Lib.hid (HR6.out.1.trans hbb)
              clear hbb
              subst hxe
              go_wp2_with fail
              refine ⟨rfl, ?_⟩
              rw [← HZ.out]
              exact ⟨rfl, HBB.out⟩
            | ok y =>
              obtain ⟨k4, out4⟩ := y
              obtain ⟨hk4, hk4T⟩ := lit_on fx T _ _ _ hx
              have HQ4 : Hid (argG fx T g (s :: nm) k4 (acc ++ [(s, out4)]) = Z) := Lib.hid (by have := HQ.out; simp only [hx] at this; exact this)
              rw [hx] at HLT
              clear hx HQ
              refine HLT.out.mono ?_; rintro x w7 hx7
              obtain ⟨hl4, v4, hxe, hls7, hoc7, hrk7, hob7⟩ : out4.length ≤ 2048 ∧ ∃ v, x = .returned v ∧ LS p tb off cap T fx k4 0 v w7 ∧ OwnC (p + 1) v out4 w7 ∧ RK p w6 w7 ∧ ∀ j, v.ownBlock = some j → w6.heap.size ≤ j := hx7
              obtain ⟨a4, n4, c4, rfl⟩ := sl_form hoc7
              have HC7 : Hid (OwnC (bm + 1) (.slice a4 n4 c4) out4 w7) := Lib.hid (hoc7.up fun j hj => by have := hob7 j hj; omega)
              have HL7 := Lib.hid hls7
              have HN7 := Lib.hid (HN6.out.rk hrk7 (by omega))
              have HO7 := Lib.hid (HO6.out.kp (Kp.rk hrk7 (by omega)))
              have HR7 := Lib.hid (HR6.out.trans hrk7)
              have HA7 := Lib.hid (hrk7.2 A _ HA6.out (by omega))
              clear hls7 hoc7 hrk7 hob7 HLT HA5 HA6
              subst hxe
              obtain ⟨w8, hw8⟩ : ∃ w8, w7.setCell ⟨A, 1, none⟩ (.slice a4 n4 c4) = w8 := ⟨_, rfl⟩
              have hAp : A ≠ p := by omega
              have HA8 : Hid (w8.heap[A]? = some (.cells #[.string sb, .slice a4 n4 c4] 65 (0, 0))) := Lib.hid (by rw [← hw8]; exact pset HA7.out _ rfl)
              have HL8 : Hid (LS p tb off cap T fx k4 0 (.slice a4 n4 c4) w8) := Lib.hid (by
                have := HL7.out.2.2.1
                rw [← hw8]
                exact HL7.out.same (Below.heap_setCell _ _ _ _ (by show p ≠ A; omega)) (Below.heap_setCell _ _ _ _ (by show tb ≠ A; omega)))
              have HN8 : Hid (NamesM bm (s :: nm) w8) := Lib.hid (by rw [← hw8]; exact HN7.out.keep (Below.heap_setCell _ _ _ _ (by show bm ≠ A; omega)))
              have HC8 : Hid (OwnC (bm + 1) (.slice a4 n4 c4) out4 w8) := Lib.hid (by rw [← hw8]; exact HC7.out.setT HA7.out (by decide))
              have HO8 : Hid (OwnA (bm + 1) (.slice la ln lc) acc w8) := Lib.hid (by rw [← hw8]; exact OwnX.setT HO7.out (fun e => by have := hoA A e; omega) fun u2 x hx => hx.setT HA7.out (by decide))
              have HR8 : Hid (RK p W w8) := Lib.hid (by rw [← hw8]; exact HR7.out.setNew (by omega) (by omega))
              have HW8 := Lib.hid hw8
              obtain ⟨w9, hw9⟩ : ∃ w9, w8.alloc (.cells #[.string sb, .slice a4 n4 c4] 65 (0, 0)) = w9 := ⟨_, rfl⟩
              have hb9 : Below w8.heap.size w8 w9 := by rw [← hw9]; exact (Below.refl _ _).alloc (Nat.le_refl _) _
              have HL9 := Lib.hid (HL8.out.below hb9)
              have HN9 := Lib.hid (HN8.out.below hb9)
              have HC9 := Lib.hid (HC8.out.kp (Kp.below hb9))
              have HO9 := Lib.hid (HO8.out.kp (Kp.below hb9))
              have HR9 := Lib.hid (HR8.out.trans (RK.of_below hb9 HL8.out.lt))
              have HNEW : Hid (w9.heap[w8.heap.size]? = some (.cells #[.string sb, .slice a4 n4 c4] 65 (0, 0))) := Lib.hid (by rw [← hw9]; exact heap_alloc_last _ _)
              have hsz9 : bm + 1 ≤ w9.heap.size := HN9.out.lt
              have HW9 := Lib.hid hw9
              have s1 : w7.frozen? ⟨A, 1, none⟩ = false := Lib.frozen_of_heap HA7.out 1
              have d0 : w7.cell? ⟨A, 0, none⟩ = some (.string sb) := by rw [Lib.cell_of_heap HA7.out]; rfl
              have d1 : w7.cell? ⟨A, 1, none⟩ = some (.slice none 0 0) := by rw [Lib.cell_of_heap HA7.out]; rfl
              have d2 : w8.cell? ⟨A, 0, none⟩ = some (.string sb) := by rw [Lib.cell_of_heap HA8.out]; rfl
              have d3 : w8.cell? ⟨A, 1, none⟩ = some (.slice a4 n4 c4) := by rw [Lib.cell_of_heap HA8.out]; rfl
              clear hb9 hw9 hw8 HA7 HA8 HL7 HN7 HO7 HC7 HR7
              have hs87 : w8.heap.size = w7.heap.size := by rw [← HW8.out]; simp
              rw [hs87] at HNEW
              have HSL := Lib.hid hsl
              clear hsl
              go_wp2_with (at_builtin; refine wpList_pushA rfl _ _ rfl (bm + 1) (.slice la ln lc) acc rfl (by rw [HW8.out, HW9.out]; exact HO9.out) w7.heap.size 1 sb (.slice a4 n4 c4) out4 rfl (by rw [HW8.out, HW9.out]; exact HNEW.out) ⟨_, _, _, rfl⟩ (by rw [HW8.out, HW9.out]; exact HC9.out) (by omega) (by rw [HW8.out, HW9.out]; exact hsz9) ?_)
              intro v' w10 hown' hgrow hat
              rw [HW8.out, HW9.out] at hgrow
              rw [HSL.out] at hown'
              have hob : ∀ j, (Value.slice la ln lc).ownBlock = some j → bm + 1 ≤ j := fun j hj => (HO9.out.blk j hj).1
              have HL10 := Lib.hid (HL9.out.grown_ hgrow (fun j hj => by have := hob j hj; omega))
              have HN10 := Lib.hid (HN9.out.grown hgrow (fun e => by have := hob bm e.symm; omega))
              have HR10 := Lib.hid (RK.grown HR9.out hgrow (fun j hj => by have := hob j hj; omega) hpl)
              obtain ⟨la', lc', hv'⟩ := OwnX.form hown'
              subst hv'
              have HO10 : Hid (OwnA (bm + 1) (.slice la' (acc ++ [(s, out4)]).length lc') (acc ++ [(s, out4)]) w10) := Lib.hid hown'
              have hlen : (acc ++ [(s, out4)]).length = acc.length + 1 := by simp
              clear hown' hgrow hat hob d0 d1 d2 d3 s1
              go_wp2_with fail
              go_roundg g
              case measure => omega
              case rel => exact ⟨s :: nm, k4, acc ++ [(s, out4)], _, la', lc', rfl, hk4T, by omega, by rw [hlen]; simp; omega, by rw [hlen]; omega, HO10, HL10, HN10, HR10, HQ4⟩
theorem l_args {p tb off cap : Nat} {T : List Tok} {fx : Bool} {k : Nat} {v : Value} (W : World) (h : LS p tb off cap T fx k 0 v W) (hk : k ≤ 100000) (hE : ∀ W', Below p W W' → Env W') :
    Calls Tryz.prog 57 #[.pointer (some ⟨p, 0, none⟩)] W (DoO p tb off cap T fx 0 (argsP fx T k) (fun L u W' => L.length ≤ 100000 ∧ OwnA W.heap.size u L W') W) := by
  unfold argsP
  cases hm : mrkP T k [40] with
  | false => exact l_args_none W h hk hm
  | true => exact l_args_go W h hm hE
end Go.Proofs.YtgaknbnhmoddcaaGreatDoor
namespace Go.Proofs.YtgaknbnhmoddcaaGreatDoor
open Go.RowKit Go.Lib
theorem OwnA.setT {B A i : Nat} {v u : Value} {L : List (List UInt8 × List Cel)} {W : World} {cs : Array Value} {T : TypeId} (h : OwnA B v L W) (hA : W.heap[A]? = some (.cells cs T (0, 0))) (hT : T ≠ 65) (hT2 : T ≠ 63) : OwnA B v L (W.setCell ⟨A, i, none⟩ u) := by
  refine OwnX.setT h (fun e => ?_) fun u2 x hx => hx.setT hA hT2
  obtain ⟨cs2, h2⟩ := OwnX.row h A e
  rw [hA] at h2
  injection h2 with h2
  injection h2 with _ h2 _
  exact hT h2
theorem argG_on (fixed : Bool) (T : List Tok) : ∀ (f : Nat) (nm : List (List UInt8)) (a : Nat) (acc : List (List UInt8 × List Cel)) (m : Nat) (r : List (List UInt8 × List Cel)), argG fixed T f nm a acc = .ok (m, r) → a < m ∧ m ≤ T.length
  | 0, _, _, _, _, _, h => by cases h
  | f + 1, nm, a, acc, m, r, h => by
    by_cases hc : acc.isEmpty = false ∧ mrkP T a [41] = true
    · rw [argG_end hc.1 hc.2] at h
      injection h with h
      injection h with h1 h2
      have := mrk_lt hc.2
      omega
    · have hc2 : acc.isEmpty = true ∨ mrkP T a [41] = false := by
        cases he : acc.isEmpty with
        | true => exact Or.inl rfl
        | false =>
          cases hm : mrkP T a [41] with
          | true => exact absurd ⟨he, hm⟩ hc
          | false => exact Or.inr rfl
      rw [argG_go hc2] at h
      cases hm : memP nm T a with
      | error e => rw [hm] at h; cases h
      | ok sa =>
        obtain ⟨s, a1⟩ := sa
        rw [hm] at h
        dsimp only at h
        have h1 := mem_lt hm
        cases hx : litP fixed T a1 with
        | error e => rw [hx] at h; cases h
        | ok y =>
          obtain ⟨a2, v⟩ := y
          rw [hx] at h
          have h2 := lit_on fixed T _ _ _ hx
          have h3 := argG_on fixed T f _ _ _ _ _ h
          omega
theorem args_on (fixed : Bool) (T : List Tok) (a m : Nat) (r : List (List UInt8 × List Cel)) (ha : a ≤ T.length) (h : argsP fixed T a = .ok (m, r)) : a ≤ m ∧ m ≤ T.length := by
  unfold argsP at h
  split at h
  · have := argG_on fixed T _ _ _ _ _ _ h
    omega
  · injection h with h
    injection h with h1 h2
    omega
theorem dirG_end {fixed : Bool} {T : List Tok} {f a : Nat} {acc : List DirP} (h : mrkP T a [64] = false) : dirG fixed T (f + 1) a acc = .ok (a, acc) := by
  unfold dirG
  rw [h]; rfl
theorem dirG_go {fixed : Bool} {T : List Tok} {f a : Nat} {acc : List DirP} (h : mrkP T a [64] = true) : dirG fixed T (f + 1) a acc = match namP [] T (a + 1) with
    | .error e => .error e
    | .ok s => match argsP fixed T (a + 2) with
      | .error e => .error e
      | .ok (a2, l) => dirG fixed T f a2 (acc ++ [(s, l)]) := by
  conv => lhs; unfold dirG
  rw [if_pos h]
  rfl
theorem l_name0_yes {p tb off cap : Nat} {T : List Tok} {fx : Bool} {k : Nat} {op : Int} {v : Value} {s : List UInt8} (hn : namP [] T k = .ok s) (w : World) (h : LS p tb off cap T fx k op v w) (hk : k ≤ 100000) :
    Calls Tryz.prog 86 #[.pointer (some ⟨p, 0, none⟩), .map none] w fun x w' => x = .returned (.string ⟨s.toArray⟩) ∧ LS p tb off cap T fx (k + 1) op v w' ∧ RK p w w' := by
  have := l_name0 w h hk
  rw [hn] at this; exact this
theorem l_name0_not {p tb off cap : Nat} {T : List Tok} {fx : Bool} {k : Nat} {op : Int} {v : Value} {e : ErrP} (hn : namP [] T k = .error e) (w : World) (h : LS p tb off cap T fx k op v w) (hk : k ≤ 100000) :
    Calls Tryz.prog 86 #[.pointer (some ⟨p, 0, none⟩), .map none] w fun x w' => x = .panicked (stopP e) ∧ Below p w w' := by
  have := l_name0 w h hk
  rw [hn] at this; exact this
set_option maxRecDepth 100000 in
set_option maxHeartbeats 8000000 in
theorem l_dirs {p tb off cap : Nat} {T : List Tok} {fx : Bool} {k : Nat} {v : Value} (W : World) (h : LS p tb off cap T fx k 0 v W) (hk : k ≤ T.length) (hE : ∀ W', Below p W W' → Env W') :
    Calls Tryz.prog 55 #[.pointer (some ⟨p, 0, none⟩)] W (DoO p tb off cap T fx 0 (dirsP fx T k) (fun L u W' => L.length ≤ 100000 ∧ OwnD W.heap.size u L W') W) := by
  have hT8 := h.2.2.2.1.1
  have HEE := Lib.hid hE
  have hpl := h.lt
  obtain ⟨B, hB⟩ : ∃ B, W.heap.size = B := ⟨_, rfl⟩
  have hpb : p < B := by omega
  obtain ⟨Z, hZ⟩ : ∃ Z, dirsP fx T k = Z := ⟨_, rfl⟩
  have HZ0 : Hid (dirG fx T (T.length + 1) k [] = Z) := Lib.hid hZ
  have HL2 := Lib.hid h
  have HR2 : Hid (RK p W W) := Lib.hid ⟨Below.refl _ _, fun k o h _ => h⟩
  rw [hZ, hB]
  clear h hE hZ
  go_enter Tryz.func55, Tryz.ntmps55
  go_wp2_with fail
  go_loopg [2, 3] (T.length + 1) (fun gk lv av wr => ∃ (k1 : Nat) (acc : List DirP) (v1 : Value) (la : Option Addr) (lc : Nat), lv = .slice la acc.length lc ∧ k1 ≤ T.length ∧ T.length + 1 ≤ gk + k1 ∧ acc.length ≤ k1 ∧ Hid (OwnD B (.slice la acc.length lc) acc wr) ∧ Hid (LS p tb off cap T fx k1 0 v1 wr) ∧ Hid (RK p W wr) ∧ Hid (dirG fx T gk k1 acc = Z))
  case atStart => exact ⟨k, [], v, none, 0, rfl, hk, by omega, Nat.zero_le _, Lib.hid (OwnX.nil _), HL2, HR2, HZ0⟩
  case round =>
    clear HL2 HR2 HZ0 hk
    rename World => wr
    obtain ⟨k1, acc, v1, la, lc, rfl, hkT1, hg, hac, HOA, HLS, HRK, HQ⟩ := hrel
    obtain ⟨g, rfl⟩ : ∃ g, gk = g + 1 := ⟨gk - 1, by omega⟩
    obtain ⟨ln, hln⟩ : ∃ ln, acc.length = ln := ⟨_, rfl⟩
    rw [hln] at HOA ⊢
    have hln9 : ln ≤ 100000 := by omega
    cases ht : mrkP T k1 [64] with
    | false =>
      have HZ : Hid (.ok (k1, acc) = Z) := Lib.hid (by rw [← HQ.out]; exact (dirG_end ht).symm)
      have HAC : Hid (acc.length ≤ 100000) := Lib.hid (by omega)
      clear HQ
      go_wp2_with fail
      refine (l_mark_not (what := ⟨#[64]⟩) ht _ HLS.out (by omega)).mono ?_; rintro x w3 ⟨rfl, hst, hrk3⟩
      have HL3 := Lib.hid hst
      have HR3 := Lib.hid (HRK.out.trans hrk3)
      have HO3 := Lib.hid (HOA.out.kp (Kp.rk hrk3 hpb))
      clear hst hrk3 ht
      go_wp2_with fail
      go_returns
      rw [← HZ.out]
      exact ⟨la, ln, lc, v1, rfl, ⟨HAC.out, HO3.out⟩, HL3.out, HR3.out⟩
    | true =>
      have hkT2 := mrk_lt ht
      have hq := HQ.out
      rw [dirG_go ht] at hq
      have HQ := Lib.hid hq
      clear hq
      go_wp2_with fail
      refine (l_mark_yes (what := ⟨#[64]⟩) ht _ HLS.out (by omega)).mono ?_; rintro x w3 ⟨rfl, hst, hrk3⟩
      have HL3 := Lib.hid hst
      have HR3 := Lib.hid (HRK.out.trans hrk3)
      have HO3 := Lib.hid (HOA.out.kp (Kp.rk hrk3 hpb))
      clear hst hrk3 ht
      go_wp2_with fail
      cases hna : namP [] T (k1 + 1) with
      | error e =>
        have HZ : Hid (.error e = Z) := Lib.hid (by have := HQ.out; simp only [hna] at this; exact this)
        refine (l_name0_not hna _ HL3.out (by omega)).mono ?_; rintro x w4 ⟨rfl, hb⟩
        have HB4 := Lib.hid (HR3.out.1.trans hb)
        clear hb hna HQ
        go_wp2_with fail
        refine ⟨rfl, ?_⟩
        rw [← HZ.out]
        exact ⟨rfl, HB4.out⟩
      | ok s =>
        have hk2 := (nam_lt hna).1
        simp only [hna] at HQ
        refine (l_name0_yes hna _ HL3.out (by omega)).mono ?_; rintro x w4 ⟨rfl, hst, hrk4⟩
        have HO4 := Lib.hid (HO3.out.kp (Kp.rk hrk4 hpb))
        have HR4 := Lib.hid (HR3.out.trans hrk4)
        obtain ⟨sb, hsb⟩ : ∃ sb : ByteArray, (⟨s.toArray⟩ : ByteArray) = sb := ⟨_, rfl⟩
        have hsl : sb.data.toList = s := by rw [← hsb]
        rw [hsb]
        obtain ⟨A, hA⟩ : ∃ A, w4.heap.size = A := ⟨_, rfl⟩
        obtain ⟨w5, hw5⟩ : ∃ w5, w4.alloc (.cells #[.string sb, .slice none 0 0] 61 (0, 0)) = w5 := ⟨_, rfl⟩
        have hb5 : Below w4.heap.size w4 w5 := by rw [← hw5]; exact (Below.refl _ _).alloc (Nat.le_refl _) _
        have HA5 : Hid (w5.heap[A]? = some (.cells #[.string sb, .slice none 0 0] 61 (0, 0))) := Lib.hid (by rw [← hw5, ← hA]; exact heap_alloc_last _ _)
        have HL5 : Hid (LS p tb off cap T fx (k1 + 2) 0 v1 w5) := Lib.hid (hst.below hb5)
        have HO5 := Lib.hid (HO4.out.kp (Kp.below hb5))
        have HR5 := Lib.hid (HR4.out.trans (RK.of_below hb5 hst.lt))
        have hBA : B ≤ A := by rw [← hA, ← hB]; exact HR4.out.1.size
        have hoA : ∀ j, (Value.slice la ln lc).ownBlock = some j → j < A := fun j hj => by rw [← hA]; exact (HO4.out.blk j hj).2
        have HW5 := Lib.hid hw5
        have HA_ := Lib.hid hA
        have hA5 := heap_lt HA5.out
        clear hst hrk4 hna hsb hb5 hw5 hA
        go_wp2_with fail
        rw [HW5.out, HA_.out]
        clear HW5 HA_
        have HLT := Lib.hid (l_args w5 HL5.out (by omega) (fun W' hb => HEE.out W' (HR5.out.1.trans hb)))
        cases hx : argsP fx T (k1 + 2) with
        | error e =>
          rw [hx] at HLT
          have HZ : Hid (.error e = Z) := Lib.hid (by have := HQ.out; simp only [hx] at this; exact this)
          clear hx HQ
          refine HLT.out.mono ?_; rintro x w7 hx7
          obtain ⟨hxe, hbb⟩ : x = .panicked (stopP e) ∧ Below p w5 w7 := hx7
          have HBB := Lib.hid (HR5.out.1.trans hbb)
          clear hbb
          subst hxe
          go_wp2_with fail
          refine ⟨rfl, ?_⟩
          rw [← HZ.out]
          exact ⟨rfl, HBB.out⟩
        | ok y =>
          obtain ⟨k4, out4⟩ := y
          obtain ⟨hk4, hk4T⟩ := args_on fx T _ _ _ (by omega) hx
          have HQ4 : Hid (dirG fx T g k4 (acc ++ [(s, out4)]) = Z) := Lib.hid (by have := HQ.out; simp only [hx] at this; exact this)
          rw [hx] at HLT
          clear hx HQ
          refine HLT.out.mono ?_; rintro x w7 hx7
          obtain ⟨a4, n4, c4, v7, hxe, ⟨hl4, hoc7⟩, hls7, hrk7⟩ : ∃ a n c v, x = .returned (.slice a n c) ∧ (out4.length ≤ 100000 ∧ OwnA w5.heap.size (.slice a n c) out4 w7) ∧ LS p tb off cap T fx k4 0 v w7 ∧ RK p w5 w7 := hx7
          have HC7 : Hid (OwnA B (.slice a4 n4 c4) out4 w7) := Lib.hid (hoc7.less (by omega))
          have HL7 := Lib.hid hls7
          have HO7 := Lib.hid (HO5.out.kp (Kp.rk hrk7 hpb))
          have HR7 := Lib.hid (HR5.out.trans hrk7)
          have HA7 := Lib.hid (hrk7.2 A _ HA5.out (by omega))
          clear hls7 hoc7 hrk7 HLT HA5
          subst hxe
          obtain ⟨w8, hw8⟩ : ∃ w8, w7.setCell ⟨A, 1, none⟩ (.slice a4 n4 c4) = w8 := ⟨_, rfl⟩
          have HA8 : Hid (w8.heap[A]? = some (.cells #[.string sb, .slice a4 n4 c4] 61 (0, 0))) := Lib.hid (by rw [← hw8]; exact pset HA7.out _ rfl)
          have HL8 : Hid (LS p tb off cap T fx k4 0 v7 w8) := Lib.hid (by
            have := HL7.out.2.2.1
            rw [← hw8]
            exact HL7.out.same (Below.heap_setCell _ _ _ _ (by show p ≠ A; omega)) (Below.heap_setCell _ _ _ _ (by show tb ≠ A; omega)))
          have HC8 : Hid (OwnA B (.slice a4 n4 c4) out4 w8) := Lib.hid (by rw [← hw8]; exact HC7.out.setT HA7.out (by decide) (by decide))
          have HO8 : Hid (OwnD B (.slice la ln lc) acc w8) := Lib.hid (by rw [← hw8]; exact OwnX.setT HO7.out (fun e => by have := hoA A e; omega) fun u2 x hx => OwnA.setT hx HA7.out (by decide) (by decide))
          have HR8 : Hid (RK p W w8) := Lib.hid (by rw [← hw8]; exact HR7.out.setNew (by omega) (by omega))
          have HW8 := Lib.hid hw8
          obtain ⟨w9, hw9⟩ : ∃ w9, w8.alloc (.cells #[.string sb, .slice a4 n4 c4] 61 (0, 0)) = w9 := ⟨_, rfl⟩
          have hb9 : Below w8.heap.size w8 w9 := by rw [← hw9]; exact (Below.refl _ _).alloc (Nat.le_refl _) _
          have HL9 := Lib.hid (HL8.out.below hb9)
          have HC9 := Lib.hid (HC8.out.kp (Kp.below hb9))
          have HO9 := Lib.hid (HO8.out.kp (Kp.below hb9))
          have HR9 := Lib.hid (HR8.out.trans (RK.of_below hb9 HL8.out.lt))
          have HNEW : Hid (w9.heap[w8.heap.size]? = some (.cells #[.string sb, .slice a4 n4 c4] 61 (0, 0))) := Lib.hid (by rw [← hw9]; exact heap_alloc_last _ _)
          have hsz9 : B ≤ w9.heap.size := by rw [← hB]; exact HR9.out.1.size
          have HW9 := Lib.hid hw9
          have s1 : w7.frozen? ⟨A, 1, none⟩ = false := Lib.frozen_of_heap HA7.out 1
          have d0 : w7.cell? ⟨A, 0, none⟩ = some (.string sb) := by rw [Lib.cell_of_heap HA7.out]; rfl
          have d1 : w7.cell? ⟨A, 1, none⟩ = some (.slice none 0 0) := by rw [Lib.cell_of_heap HA7.out]; rfl
          have d2 : w8.cell? ⟨A, 0, none⟩ = some (.string sb) := by rw [Lib.cell_of_heap HA8.out]; rfl
          have d3 : w8.cell? ⟨A, 1, none⟩ = some (.slice a4 n4 c4) := by rw [Lib.cell_of_heap HA8.out]; rfl
          have hs87 : w8.heap.size = w7.heap.size := by rw [← hw8]; simp
          rw [hs87] at HNEW
          have HSL := Lib.hid hsl
          clear hb9 hw9 hw8 HA7 HA8 HL7 HO7 HC7 HR7 hsl
          go_wp2_with (at_builtin; refine wpList_pushD rfl _ _ rfl B (.slice la ln lc) acc rfl (by rw [HW8.out, HW9.out]; exact HO9.out) w7.heap.size 1 sb (.slice a4 n4 c4) out4 rfl (by rw [HW8.out, HW9.out]; exact HNEW.out) ⟨_, _, _, rfl⟩ (by rw [HW8.out, HW9.out]; exact HC9.out) (by omega) (by rw [HW8.out, HW9.out]; exact hsz9) ?_)
          intro v' w10 hown' hgrow hat
          rw [HW8.out, HW9.out] at hgrow
          rw [HSL.out] at hown'
          have hob : ∀ j, (Value.slice la ln lc).ownBlock = some j → B ≤ j := fun j hj => (HO9.out.blk j hj).1
          have HL10 := Lib.hid (HL9.out.grown_ hgrow (fun j hj => by have := hob j hj; omega))
          have HR10 := Lib.hid (RK.grown HR9.out hgrow (fun j hj => by have := hob j hj; omega) hpl)
          obtain ⟨la', lc', hv'⟩ := OwnX.form hown'
          subst hv'
          have HO10 : Hid (OwnD B (.slice la' (acc ++ [(s, out4)]).length lc') (acc ++ [(s, out4)]) w10) := Lib.hid hown'
          have hlen : (acc ++ [(s, out4)]).length = acc.length + 1 := by simp
          clear hown' hgrow hat hob d0 d1 d2 d3 s1
          go_wp2_with fail
          go_roundg g
          case measure => omega
          case rel => exact ⟨k4, acc ++ [(s, out4)], _, la', lc', rfl, hk4T, by omega, by rw [hlen]; omega, HO10, HL10, HR10, HQ4⟩
end Go.Proofs.YtgaknbnhmoddcaaGreatDoor
namespace Go.Proofs.YtgaknbnhmoddcaaGreatDoor
open Go.RowKit
/-- What a byte row reads as: the value alone matters. -/
theorem own_two {B g cap : Nat} {C : Array Value} {x y : UInt8} {W : World} (hB : B ≤ g) (hc : 2 ≤ cap) (hm : cap ≤ maxLen) (hC : C.size = cap) (h0 : C[0]? = some (.int .u8 (x.toNat : Int))) (h1 : C[1]? = some (.int .u8 (y.toNat : Int))) (hg : W.heap[g]? = some (.cells C 5 (0, 0))) : Own B (.slice (some ⟨g, 0, none⟩) 2 cap) [x, y] W := by
  refine ⟨rfl, Or.inr ⟨g, cap, C, rfl, hB, hg, hc, hm, by omega, ?_⟩⟩
  have e0 : C.toList[0]? = some (.int .u8 (x.toNat : Int)) := by rw [Array.getElem?_toList]; exact h0
  have e1 : C.toList[1]? = some (.int .u8 (y.toNat : Int)) := by rw [Array.getElem?_toList]; exact h1
  match hl : C.toList, e0, e1 with
  | a :: b :: r, e0, e1 =>
    simp only [List.getElem?_cons_zero, Option.some.injEq, List.getElem?_cons_succ] at e0 e1
    rw [e0, e1]
    rfl
  | [a], e0, e1 => simp at e1
  | [], e0, e1 => simp at e0
set_option maxRecDepth 100000 in
/-- 'append(s[:0], make([]uint8, 2)..)' of a slice that has room for one. -/
theorem wpList_zeros2 {ops : Array Oper} {rest : List Oper} {o : Oper} {a : Act} {Q : Exit → Act → World → Prop} {w : World} (hgd : o.guard = none) (s x : Operand)
    (ho : o.op = .call { callee := .builtin .append, args := #[s, x], argTypes := #[23, 3] }) (b : Nat) (hs : a.eval s = .slice (some ⟨b, 0, none⟩) 0 1) (hx : a.eval x = .int .i64 2)
    (h : ∀ cap C, 2 ≤ cap → cap ≤ maxLen → C.size = cap → C[0]? = some (.int .u8 0) → C[1]? = some (.int .u8 0) → wpList Tryz.prog ops Q rest (a.put o.dst (.slice (some ⟨w.heap.size, 0, none⟩) 2 cap)) (w.drew.alloc (.cells C 5 (0, 0)))) : wpList Tryz.prog ops Q (o :: rest) a w := by
  obtain ⟨i0, hi, hz0, hz1, hz2⟩ := info_parts u8_info
  have hr := Lib.run_append_grow_zeros (P := Tryz.prog) w 23 3 o.type 5 i0 (.int .u8 0) .i64 .i64 Tryz.underlying23 Tryz.underlying3 hi hz0 (some ⟨b, 0, none⟩) 0 1 [] (by rw [hz1]; have hl := run_loadCells_list (P := Tryz.prog) w.drew ⟨b, 0, none⟩ [] (by simp); simp only [List.length_nil] at hl; simp [Builtin.firstCells, hl]) 2 (by decide) (by rw [hz1]; decide) (by decide) (by decide) (by rw [hz2]; decide) (by rw [hz2]; decide)
  refine wpList_plain hgd fun K hK' => ?_
  unfold Oper.wp
  have hr2 : (Builtin.append_ #[23, 3] o.type #[.slice (some ⟨b, 0, none⟩) 0 1, .int .i64 2]).run Tryz.prog w = _ := hr
  simp only [execOp, ho, resolve, invoke, builtin, Sem.run_bind, Sem.run_pure, Result.andThen_ok, List.map_toArray, List.map_cons, List.map_nil, hs, hx, hr2]
  have hge := grownCap_ge w (0 + 2) 1 5
  have hle := grownCap_le_maxLen w (0 + 2) 1 5 (by unfold maxLen; omega)
  clear hr hr2
  generalize grownCap w (0 + 2) 1 5 = cap at hge hle ⊢
  have hcc : (Value.int IntKind.u8 0).cells = #[.int .u8 0] := rfl
  have hz2 : Builtin.zeroCells (Value.int IntKind.u8 0).cells 2 = #[.int .u8 0, .int .u8 0] := by kernel_rfl
  rw [hz2]
  refine hK' _ _ (h cap _ (by omega) hle ?_ ?_ ?_)
  · simp only [List.toArray, Array.size_append, size_zeroCells, hcc]
    simp; omega
  · rw [Array.getElem?_append_left (by decide)]; rfl
  · rw [Array.getElem?_append_left (by decide)]; rfl
theorem wp_copy1 {o : Oper} {a : Act} {K : Act → World → Prop} {Q : Exit → Act → World → Prop} {w : World} (d s : Operand)
    (ho : o.op = .call { callee := .builtin .copy, args := #[d, s], argTypes := #[23, 23] }) (g off dn dc : Nat) (hd : a.eval d = .slice (some ⟨g, off, none⟩) dn dc) (hdn : 1 ≤ dn) (b sc : Nat) (x : Int) (hs : a.eval s = .slice (some ⟨b, 0, none⟩) 1 sc) (hx : w.cell? ⟨b, 0, none⟩ = some (.int .u8 x)) (hc : (w.cell? ⟨g, off, none⟩).isSome = true) (hf : w.frozen? ⟨g, off, none⟩ = false)
    (h : K (a.put o.dst (.int .i64 1)) (w.setCell ⟨g, off, none⟩ (.int .u8 x))) : o.wp Tryz.prog a w K Q := by
  obtain ⟨i0, hi, hz0, hz1, hz2⟩ := info_parts u8_info
  have hr := run_copy_cells (P := Tryz.prog) w 23 23 o.type 5 g off dn dc ⟨b, 0, none⟩ 1 sc [.int .u8 x] Tryz.underlying23 (by rw [hi]; simp [hz1]) (by show 1 = min 1 dn; omega) (fun j v hj => by
    match j, hj with
    | 0, hj => simp at hj; rw [← hj]; exact hx
    | j + 1, hj => simp at hj) (fun j hj => by
    have : j = 0 := by simp at hj; omega
    subst this; exact hc) (fun j hj => by
    have : j = 0 := by simp at hj; omega
    subst this; exact hf) (fun v hv => by
    rw [List.mem_singleton.1 hv]; rfl)
  unfold Oper.wp
  simp only [execOp, ho, resolve, invoke, builtin, Sem.run_bind, Sem.run_pure, Result.andThen_ok, List.map_toArray, List.map_cons, List.map_nil, hd, hs, hr]
  exact h
theorem run_copy1 (w : World) (ty : TypeId) (g off dn dc : Nat) (hdn : 1 ≤ dn) (b sc : Nat) (x : Int) (hx : w.cell? ⟨b, 0, none⟩ = some (.int .u8 x)) (hc : (w.cell? ⟨g, off, none⟩).isSome = true) (hf : w.frozen? ⟨g, off, none⟩ = false) :
    (Builtin.copy_ #[23, 23] ty #[.slice (some ⟨g, off, none⟩) dn dc, .slice (some ⟨b, 0, none⟩) 1 sc]).run Tryz.prog w = .ok (.int .i64 1) (w.setCell ⟨g, off, none⟩ (.int .u8 x)) := by
  obtain ⟨i0, hi, hz0, hz1, hz2⟩ := info_parts u8_info
  exact run_copy_cells (P := Tryz.prog) w 23 23 ty 5 g off dn dc ⟨b, 0, none⟩ 1 sc [.int .u8 x] Tryz.underlying23 (by rw [hi]; simp [hz1]) (by show 1 = min 1 dn; omega) (fun j v hj => by
    match j, hj with
    | 0, hj => simp at hj; rw [← hj]; exact hx
    | j + 1, hj => simp at hj) (fun j hj => by
    have : j = 0 := by simp at hj; omega
    subst this; exact hc) (fun j hj => by
    have : j = 0 := by simp at hj; omega
    subst this; exact hf) (fun v hv => by
    rw [List.mem_singleton.1 hv]; rfl)
set_option maxRecDepth 100000 in
theorem insert_none (c : Nat) (W : World) (hc : W.cell? ⟨c, 0, none⟩ = some (.int .u8 1)) :
    Calls Tryz.prog 87 #[.slice none 0 0, .int .i64 0, .slice (some ⟨c, 0, none⟩) 1 1] W fun x W' => ∃ g cap, x = .returned (.slice (some ⟨g, 0, none⟩) 1 cap) ∧ Own W.heap.size (.slice (some ⟨g, 0, none⟩) 1 cap) [1] W' ∧ W.grownBy W' none := by
  go_enter Tryz.func87, Tryz.ntmps87
  go_wp2_with (at_builtin; refine wpList_push rfl _ _ rfl W.heap.size (.slice none 0 0) [] rfl (Own.nil _ _) ⟨c, 0, none⟩ 1 [1] rfl ?_ (by decide) (Nat.le_refl _) ?_)
  · intro j hj
    have : j = 0 := by simp at hj; omega
    subst this
    exact hc
  intro v' w' ho hg
  have hf : ∃ g cap, v' = .slice (some ⟨g, 0, none⟩) 1 cap := by
    rcases ho.2 with ⟨_, e⟩ | ⟨g, cap, cur, e, _⟩
    · simp at e
    · exact ⟨g, cap, e⟩
  obtain ⟨g, cap, rfl⟩ := hf
  have HO := Lib.hid ho
  have HG := Lib.hid hg
  clear ho hg
  go_wp2_with fail
  go_ret
  exact ⟨g, cap, rfl, HO.out, HG.out⟩
set_option maxRecDepth 100000 in
theorem insert_one (b c : Nat) (W : World) (hb : W.cell? ⟨b, 0, none⟩ = some (.int .u8 2)) (hc : W.cell? ⟨c, 0, none⟩ = some (.int .u8 1)) :
    Calls Tryz.prog 87 #[.slice (some ⟨b, 0, none⟩) 1 1, .int .i64 0, .slice (some ⟨c, 0, none⟩) 1 1] W fun x W' => ∃ g cap, x = .returned (.slice (some ⟨g, 0, none⟩) 2 cap) ∧ Own W.heap.size (.slice (some ⟨g, 0, none⟩) 2 cap) [1, 2] W' ∧ Below W.heap.size W W' := by
  have hbl := lt_of_cell hb
  have hcl := lt_of_cell hc
  go_enter Tryz.func87, Tryz.ntmps87
  go_wp2_with (at_builtin; refine wpList_zeros2 rfl _ _ rfl b rfl rfl ?_)
  intro cap C hc2 hcm hcs h0 h1
  obtain ⟨g, hg⟩ : ∃ g, W.heap.size = g := ⟨_, rfl⟩
  obtain ⟨w1, hw1⟩ : ∃ w1, (W.alloc (.cells C 5 (0, 0))).drew = w1 := ⟨_, rfl⟩
  have hG : w1.heap[g]? = some (.cells C 5 (0, 0)) := by rw [← hw1, ← hg]; exact heap_alloc_last W _
  have hBw : Below g W w1 := by rw [← hw1, ← hg]; exact ((Below.refl _ _).alloc (Nat.le_refl _) _).drew
  have hc1 : w1.cell? ⟨c, 0, none⟩ = some (.int .u8 1) := (hBw.cell (p := ⟨c, 0, none⟩) (by show c < g; omega)).trans hc
  have hb1 : w1.cell? ⟨b, 0, none⟩ = some (.int .u8 2) := (hBw.cell (p := ⟨b, 0, none⟩) (by show b < g; omega)).trans hb
  have k0 : w1.cell? ⟨g, 0, none⟩ = some (.int .u8 0) := by rw [Lib.cell_of_heap hG]; exact h0
  have f0 : w1.frozen? ⟨g, 0, none⟩ = false := Lib.frozen_of_heap hG 0
  have HW1 := Lib.hid hw1
  have n1 : ¬ (2 : Int) < 0 := by decide
  have hcI : (2 : Int) ≤ (cap : Int) := by omega
  rw [hg]
  rw [hw1]
  have hcp := fun ty => run_copy1 w1 ty g 0 2 cap (by decide) c 1 1 hc1 (by rw [k0]; rfl) f0
  go_wp2_with fail
  obtain ⟨w2, hw2⟩ : ∃ w2, w1.setCell ⟨g, 0, none⟩ (.int .u8 1) = w2 := ⟨_, rfl⟩
  have hG2 : w2.heap[g]? = some (.cells (C.setIfInBounds 0 (.int .u8 1)) 5 (0, 0)) := by rw [← hw2]; exact pset hG _ rfl
  have hBw2 : Below g W w2 := by rw [← hw2]; exact hBw.setCell (p := ⟨g, 0, none⟩) (Nat.le_refl _) _
  have HB2 : Hid (w2.cell? ⟨b, 0, none⟩ = some (.int .u8 2)) := Lib.hid ((hBw2.cell (p := ⟨b, 0, none⟩) (by show b < g; omega)).trans hb)
  have HG2 := Lib.hid hG2
  have HBW2 := Lib.hid hBw2
  have HW2 := Lib.hid hw2
  rw [hw2]
  have k1 : w2.cell? ⟨g, 1, none⟩ = some (.int .u8 0) := by rw [Lib.cell_of_heap hG2]; simpa using h1
  have f1 : w2.frozen? ⟨g, 1, none⟩ = false := Lib.frozen_of_heap hG2 1
  have hb2 := HB2.out
  clear hG2 hBw2 hw2 hw1 hG hBw hc1 hb1 k0 f0 hcp
  have hwr : IntKind.i64.wrap 1 = 1 := rfl
  have hn1 : ¬ cap = 1 := by omega
  refine wp_region_held_drew (S := fun _ => True) (by kernel_rfl) (trivial) (fun hHeld => ?_)
  refine tky 0 (some 46) (v := ?_) rfl (by kernel_rfl) (by kernel_rfl) (by kernel_rfl) (fun _ _ _ h => h) ?_ hHeld ?_
  rotate_left
  focus (intro w hSw; (try dsimp only at hSw); go_simp; (try with_reducible rfl); done)
  simp only [Act.put, List.setIfInBounds_toArray, List.set_cons_zero, List.set_cons_succ]
  refine tky 1 (some 47) (v := ?_) rfl (by kernel_rfl) (by kernel_rfl) (by kernel_rfl) (fun _ _ _ h => h) ?_ hHeld ?_
  rotate_left
  focus (intro w hSw; (try dsimp only at hSw); go_simp; (try with_reducible rfl); done)
  simp only [Act.put, List.setIfInBounds_toArray, List.set_cons_zero, List.set_cons_succ]
  refine tky 2 (some 48) (v := ?_) rfl (by kernel_rfl) (by kernel_rfl) (by kernel_rfl) (fun _ _ _ h => h) ?_ hHeld ?_
  rotate_left
  focus (intro w hSw; (try dsimp only at hSw); go_simp; (try with_reducible rfl); done)
  simp only [Act.put, List.setIfInBounds_toArray, List.set_cons_zero, List.set_cons_succ]
  refine tky 3 (some 49) (v := ?_) rfl (by kernel_rfl) (by kernel_rfl) (by kernel_rfl) (fun _ _ _ h => h) ?_ hHeld ?_
  rotate_left
  focus (intro w hSw; (try dsimp only at hSw); go_simp; (try with_reducible rfl); done)
  simp only [Act.put, List.setIfInBounds_toArray, List.set_cons_zero, List.set_cons_succ]
  refine tky 4 (some 50) (v := ?_) rfl (by kernel_rfl) (by kernel_rfl) (by kernel_rfl) (fun _ _ _ h => h) ?_ hHeld ?_
  rotate_left
  focus (intro w hSw; (try dsimp only at hSw); go_simp; (try with_reducible rfl); done)
  simp only [Act.put, List.setIfInBounds_toArray, List.set_cons_zero, List.set_cons_succ]
  refine tky 5 (some 51) (v := ?_) rfl (by kernel_rfl) (by kernel_rfl) (by kernel_rfl) (fun _ _ _ h => h) ?_ hHeld ?_
  rotate_left
  focus (intro w hSw; (try dsimp only at hSw); go_simp; (try with_reducible rfl); done)
  simp only [Act.put, List.setIfInBounds_toArray, List.set_cons_zero, List.set_cons_succ]
  refine tky 6 (some 52) (v := ?_) rfl (by kernel_rfl) (by kernel_rfl) (by kernel_rfl) (fun _ _ _ h => h) ?_ hHeld ?_
  rotate_left
  focus (intro w hSw; (try dsimp only at hSw); go_simp; (try with_reducible rfl); done)
  simp only [Act.put, List.setIfInBounds_toArray, List.set_cons_zero, List.set_cons_succ]
  refine tky 7 (some 53) (v := ?_) rfl (by kernel_rfl) (by kernel_rfl) (by kernel_rfl) (fun _ _ _ h => h) ?_ hHeld ?_
  rotate_left
  focus (intro w hSw; (try dsimp only at hSw); go_simp; (try with_reducible rfl); done)
  simp only [Act.put, List.setIfInBounds_toArray, List.set_cons_zero, List.set_cons_succ]
  refine rcons 8 rfl (by kernel_rfl) (fun K hK => ?_)
  rw [if_pos]
  rotate_left
  focus kernel_rfl
  refine wp_copy1 _ _ rfl g 1 1 (cap - 1) rfl (Nat.le_refl _) b 1 2 rfl (by exact hb2) (by show (w2.cell? _).isSome = true; rw [k1]; rfl) (by exact f1) ?_
  (try dsimp only)
  refine hK.out _ _ (trivial) (fun hHeld2 => ?_)
  clear hK K hHeld
  have hHeld := hHeld2
  clear hHeld2
  (try simp only [Act.put, List.setIfInBounds_toArray, List.set_cons_zero, List.set_cons_succ])
  refine wpAnyH_done (by kernel_rfl) ?_ _
  go_wp2_with fail
  go_ret
  refine ⟨g, cap, rfl, own_two (x := 1) (y := 2) (C := (C.setIfInBounds 0 (.int .u8 1)).setIfInBounds 1 (.int .u8 2)) (by omega) hc2 hcm (by simp [hcs]) ?_ ?_ ?_, ?_⟩
  · rw [Array.getElem?_setIfInBounds_ne (by decide), Array.getElem?_setIfInBounds_self_of_lt (by omega)]; rfl
  · rw [Array.getElem?_setIfInBounds_self_of_lt (by simp; omega)]; rfl
  · exact pset (show w2.drew.heap[g]? = _ from HG2.out) _ rfl
  · rw [hg]; exact HBW2.out.drew.setCell (p := ⟨g, 1, none⟩) (Nat.le_refl _) _
end Go.Proofs.YtgaknbnhmoddcaaGreatDoor
namespace Go.Proofs.YtgaknbnhmoddcaaGreatDoor
open Go.RowKit Go.Lib
/-- What a wrapper's mark leaves. -/
def WrE (p tb off cap : Nat) (T : List Tok) (fx : Bool) (a kk : Nat) (v : Value) (w0 : World) (o : Except ErrP (Option Nat)) (x : Ending) (W : World) : Prop := match o with
  | .error e => x = .panicked (stopP e) ∧ Below p w0 W
  | .ok none => x = .returned (.bool false) ∧ LS p tb off cap T fx a (kk : Int) v W ∧ RK p w0 W
  | .ok (some k') => x = .returned (.bool true) ∧ LS p tb off cap T fx (a + 1) (k' : Int) v W ∧ RK p w0 W
set_option maxRecDepth 100000 in
theorem l_wrap {p tb off cap : Nat} {T : List Tok} {fx : Bool} {a kk : Nat} {v : Value} (what : ByteArray) (bx : Nat) (W : World) (h : LS p tb off cap T fx a (kk : Int) v W) (ha : a ≤ 100000) (hk : kk ≤ 8) (hb : W.heap[bx]? = some (.cells #[.pointer (some ⟨p, 0, none⟩)] 112 (0, 0))) (hne : bx ≠ p) :
    Calls Tryz.prog 81 #[.string what, .pointer (some ⟨bx, 0, none⟩)] W (WrE p tb off cap T fx a kk v W (wrapP T kk a what.data.toList)) := by
  have HI := Lib.hid (l_is what W h)
  have HNO := Lib.hid (fun (op : Int) (e : Int) (W' : World) (hW : LS p tb off cap T fx a op v W') => l_no e W' hW)
  have hp := h.lt
  have HS := Lib.hid h
  have HBX := Lib.hid hb
  have b0 : W.cell? ⟨bx, 0, none⟩ = some (.pointer (some ⟨p, 0, none⟩)) := by rw [Lib.cell_of_heap hb]; rfl
  unfold wrapP
  cases hm : mrkP T a what.data.toList with
  | false =>
    rw [hm] at HI
    clear h hb hm
    go_enter Tryz.func81, Tryz.ntmps81
    go_wp2_with fail
    refine HI.out.mono ?_; rintro x w1 ⟨rfl, hb⟩
    have HL1 := Lib.hid (HS.out.below hb)
    have HK1 := Lib.hid (RK.of_below hb hp)
    clear hb
    go_wp2_with fail
    go_returns
    exact ⟨rfl, HL1.out, HK1.out⟩
  | true =>
    rw [hm] at HI
    rw [if_pos rfl]
    have hw : IntKind.i64.wrap ((kk : Int) + 1) = (kk : Int) + 1 := IntWalk.i64_in _ (by omega)
    have HMK := Lib.hid (fun (W' : World) (hW : LS p tb off cap T fx a ((kk : Int) + 1) v W') => l_mark_yes hm W' hW ha)
    by_cases h8 : kk = 8
    · subst h8
      rw [if_pos rfl]
      clear h hb hm
      go_enter Tryz.func81, Tryz.ntmps81
      go_wp2_with fail
      refine HI.out.mono ?_; rintro x w1 ⟨rfl, hb⟩
      have HL1 := Lib.hid (HS.out.below hb)
      have HB1 := Lib.hid ((hb.block bx (heap_lt HBX.out)).trans HBX.out)
      have HK1 := Lib.hid (RK.of_below hb hp)
      obtain ⟨c0, c1, c2, c3, c4⟩ := HL1.out.cells
      have f3 := HL1.out.frozen 3
      have d0 : w1.cell? ⟨bx, 0, none⟩ = some (.pointer (some ⟨p, 0, none⟩)) := by rw [Lib.cell_of_heap HB1.out]; rfl
      have HL2 := Lib.hid (HL1.out.op_ (((8 : Nat) : Int) + 1))
      have hp2 : p ≤ (w1.setCell ⟨p, 3, none⟩ (.int .i64 (((8 : Nat) : Int) + 1))).heap.size := Nat.le_of_lt HL2.out.lt
      have HK2 := Lib.hid (HK1.out.trans (RK.set p 3 w1 (.int .i64 (((8 : Nat) : Int) + 1))))
      clear hb
      go_wp2_with fail
      refine (HNO.out _ 30 _ HL2.out).mono ?_; rintro x w2 ⟨rfl, hb⟩
      have HB9 := Lib.hid (HK2.out.1.trans (hb.mono hp2))
      clear hb
      go_wp2_with fail
      exact ⟨rfl, rfl, HB9.out⟩
    · rw [if_neg h8]
      have h9 : ¬ (8 : Int) < (kk : Int) + 1 := by omega
      have hcast : ((kk + 1 : Nat) : Int) = (kk : Int) + 1 := by omega
      clear h hb hm h8
      go_enter Tryz.func81, Tryz.ntmps81
      go_wp2_with fail
      refine HI.out.mono ?_; rintro x w1 ⟨rfl, hb⟩
      have HL1 := Lib.hid (HS.out.below hb)
      have HB1 := Lib.hid ((hb.block bx (heap_lt HBX.out)).trans HBX.out)
      have HK1 := Lib.hid (RK.of_below hb hp)
      obtain ⟨c0, c1, c2, c3, c4⟩ := HL1.out.cells
      have f3 := HL1.out.frozen 3
      have d0 : w1.cell? ⟨bx, 0, none⟩ = some (.pointer (some ⟨p, 0, none⟩)) := by rw [Lib.cell_of_heap HB1.out]; rfl
      have HL2 := Lib.hid (HL1.out.op_ ((kk : Int) + 1))
      have HK2 := Lib.hid (HK1.out.trans (RK.set p 3 w1 (.int .i64 ((kk : Int) + 1))))
      clear hb
      go_wp2_with fail
      refine (HMK.out _ HL2.out).mono ?_; rintro x w2 ⟨rfl, hst, hrk⟩
      have HL3 := Lib.hid hst
      have HK3 := Lib.hid (HK2.out.trans hrk)
      clear hst hrk
      go_wp2_with fail
      go_returns
      refine ⟨rfl, ?_, HK3.out⟩
      rw [hcast]
      exact HL3.out
end Go.Proofs.YtgaknbnhmoddcaaGreatDoor
namespace Go.Proofs.YtgaknbnhmoddcaaGreatDoor
open Go.RowKit Go.Lib
theorem Own.kp {B : Nat} {v : Value} {l : List UInt8} {W W' : World} (h : Own B v l W) (hk : Kp B W W') : Own B v l W' := by
  obtain ⟨h1, h2⟩ := h
  refine ⟨h1, ?_⟩
  rcases h2 with h2 | ⟨g, cap, cur, hv, hB, hg, hrest⟩
  · exact Or.inl h2
  · exact Or.inr ⟨g, cap, cur, hv, hB, hk g _ hB hg, hrest⟩
theorem Own.less {B B' : Nat} {v : Value} {l : List UInt8} {W : World} (h : Own B v l W) (hB : B' ≤ B) : Own B' v l W := by
  obtain ⟨h1, h2⟩ := h
  refine ⟨h1, ?_⟩
  rcases h2 with h2 | ⟨g, cap, cur, hv, hg, hrest⟩
  · exact Or.inl h2
  · exact Or.inr ⟨g, cap, cur, hv, by omega, hrest⟩
/-- Bytes in a row that the call made; none are in no row. -/
def BytW (B : Nat) (u : Value) (ws : List UInt8) (W : World) : Prop := Own B u ws W ∧ (ws = [] → u = .slice none 0 0)
theorem BytW.nil (B : Nat) (W : World) : BytW B (.slice none 0 0) [] W := ⟨Own.nil _ _, fun _ => rfl⟩
theorem BytW.kp {B : Nat} {v : Value} {l : List UInt8} {W W' : World} (h : BytW B v l W) (hk : Kp B W W') : BytW B v l W' := ⟨h.1.kp hk, h.2⟩
theorem BytW.less {B B' : Nat} {v : Value} {l : List UInt8} {W : World} (h : BytW B v l W) (hB : B' ≤ B) : BytW B' v l W := ⟨h.1.less hB, h.2⟩
theorem BytW.form {B : Nat} {v : Value} {l : List UInt8} {W : World} (h : BytW B v l W) : ∃ a n c, v = .slice a n c := by
  rcases h.1.2 with ⟨e1, _⟩ | ⟨g, cap, cur, e1, _⟩
  · exact ⟨_, _, _, e1⟩
  · exact ⟨_, _, _, e1⟩
/-- 'append(v, u..)' of bytes that the call made. -/
theorem wpList_pushW {ops : Array Oper} {rest : List Oper} {o : Oper} {a : Act} {Q : Exit → Act → World → Prop} {w : World} (hgd : o.guard = none) (s x : Operand)
    (ho : o.op = .call { callee := .builtin .append, args := #[s, x], argTypes := #[23, 23] }) (B : Nat) (v : Value) (l : List UInt8) (hs : a.eval s = v) (hown : BytW B v l w)
    (B2 : Nat) (u : Value) (ws : List UInt8) (hx : a.eval x = u) (hu : BytW B2 u ws w) (hlen : l.length + ws.length ≤ 1000000000) (hB : B ≤ w.heap.size)
    (h : ∀ v' w', BytW B v' (l ++ ws) w' → w.grownBy w' v.ownBlock → wpList Tryz.prog ops Q rest (a.put o.dst v') w') : wpList Tryz.prog ops Q (o :: rest) a w := by
  obtain ⟨i0, hi, hz0, hz1, hz2⟩ := info_parts u8_info
  by_cases hw : ws = []
  · subst hw
    refine wpList_append_own_none hgd s x 23 ho B 5 i0 1 Tryz.underlying23 hi v l.length (Lib.byteCells l) hs hown.1 (by rw [hx, hu.2 rfl]) ?_
    exact h v w (by rw [List.append_nil]; exact hown) (World.grownBy.refl w _)
  · have hf : ∃ g cap, u = .slice (some ⟨g, 0, none⟩) ws.length cap ∧ ∀ j (hj : j < ws.length), w.cell? ((⟨g, 0, none⟩ : Addr).add j) = some (.int .u8 (ws[j].toNat : Int)) := by
      rcases hu.1.2 with ⟨_, e2⟩ | ⟨g, cap, cur, e1, _, hg, _, _, _, ht⟩
      · exact absurd (List.eq_nil_of_length_eq_zero e2) hw
      · refine ⟨g, cap, e1, fun j hj => ?_⟩
        rw [addr_add, Nat.zero_add, Lib.cell_of_heap hg, ← Array.getElem?_toList]
        have hq : (Lib.byteCells ws)[j]? = some (.int .u8 (ws[j].toNat : Int)) := by
          unfold Lib.byteCells
          rw [List.getElem?_map, List.getElem?_eq_getElem hj]; rfl
        have hlen2 : j < ws.length * 1 := by omega
        rw [← ht, List.getElem?_take, if_pos hlen2] at hq
        exact hq
    obtain ⟨g, cap, rfl, hcells⟩ := hf
    refine wpList_push hgd s x ho B v l hs hown.1 ⟨g, 0, none⟩ cap ws hx hcells hlen hB ?_
    intro v' w' h1 h2
    exact h v' w' ⟨h1, fun e => absurd (List.append_eq_nil_iff.1 e).2 hw⟩ h2
/-- What a type's reader leaves. -/
def TyE (p tb off cap : Nat) (T : List Tok) (fx : Bool) (v : Value) (w0 : World) (o : Except ErrP TypP) (x : Ending) (W : World) : Prop := match o with
  | .error e => x = .panicked (stopP e) ∧ Below p w0 W
  | .ok (k2, a2, nm, ws) => ∃ u, x = .returned (.agg #[.string ⟨nm.toArray⟩, u]) ∧ BytW w0.heap.size u ws W ∧ LS p tb off cap T fx a2 (k2 : Int) v W ∧ RK p w0 W
theorem wrapP_some {T : List Tok} {k a k' : Nat} {s : List UInt8} (h : wrapP T k a s = .ok (some k')) : k' = k + 1 ∧ k ≠ 8 ∧ a < T.length := by
  unfold wrapP at h
  split at h
  · rename_i hm
    have := mrk_lt hm
    split at h
    · cases h
    · rename_i h8
      injection h with h
      injection h with h
      exact ⟨h.symm, h8, this⟩
  · cases h
theorem typE_on {T : List Tok} {x y : TypP} (h : typE T x = .ok y) (hk : x.1 ≤ 8) (ha : x.2.1 ≤ T.length) : y.1 ≤ 8 ∧ x.2.1 ≤ y.2.1 ∧ y.2.1 ≤ T.length ∧ y.2.2.2.length ≤ x.2.2.2.length + 1 := by
  unfold typE at h
  split at h
  · cases h
  · rename_i k4 hw
    obtain ⟨e1, e2, e3⟩ := wrapP_some hw
    injection h with h
    subst h
    exact ⟨by show k4 ≤ 8; omega, by show _ ≤ _ + 1; omega, by show _ + 1 ≤ _; omega, by simp⟩
  · injection h with h
    subst h
    exact ⟨hk, Nat.le_refl _, ha, Nat.le_succ _⟩
theorem typG_on (T : List Tok) : ∀ (f k a : Nat) (y : TypP), typG T f k a = .ok y → k ≤ 8 → y.1 ≤ 8 ∧ a < y.2.1 ∧ y.2.1 ≤ T.length ∧ y.2.2.2.length ≤ 2 * f
  | 0, k, a, y, h, hk => by cases h
  | f + 1, k, a, y, h, hk => by
    unfold typG at h
    cases hH : typH T k a (fun k1 => typG T f k1 (a + 1)) with
    | error e => rw [hH] at h; cases h
    | ok x =>
      rw [hH] at h
      dsimp only at h
      have hx : x.1 ≤ 8 ∧ a < x.2.1 ∧ x.2.1 ≤ T.length ∧ x.2.2.2.length ≤ 2 * f + 1 := by
        unfold typH at hH
        split at hH
        · cases hH
        · rename_i k1 hw
          obtain ⟨e1, e2, e3⟩ := wrapP_some hw
          split at hH
          · cases hH
          · rename_i k2 a2 nm ws hi
            have := typG_on T f k1 (a + 1) _ hi (by omega)
            split at hH
            · rename_i hm
              have hml := mrk_lt hm
              injection hH with hH
              subst hH
              simp only at this ⊢
              refine ⟨this.1, by omega, by omega, by simp; omega⟩
            · cases hH
        · split at hH
          · cases hH
          · rename_i s hn
            have := (nam_lt hn).1
            injection hH with hH
            subst hH
            exact ⟨hk, Nat.lt_succ_self _, this, Nat.zero_le _⟩
      have := typE_on h hx.1 hx.2.2.1
      omega
theorem ref_cells {A : Nat} {W : World} {x y : Value} (h : W.heap[A]? = some (.cells #[x, y] 25 (0, 0))) : W.cell? ⟨A, 0, none⟩ = some x ∧ W.cell? ⟨A, 1, none⟩ = some y ∧ W.frozen? ⟨A, 0, none⟩ = false ∧ W.frozen? ⟨A, 1, none⟩ = false := by
  refine ⟨?_, ?_, Lib.frozen_of_heap h 0, Lib.frozen_of_heap h 1⟩
  all_goals (rw [Lib.cell_of_heap h]; rfl)
theorem ty_fin {p tb off cap bx : Nat} {T : List Tok} {fx : Bool} {a : Nat} {op : Int} {v u x y z c0 c1 : Value} {l : List UInt8} {W w9 : World} (hL : LS p tb off cap T fx a op v w9) (hR : RK p W w9) (hO : BytW (bx + 2) u l w9) (hT : w9.heap[bx + 1]? = some (.cells #[c0, c1] 25 (0, 0))) (hbx : W.heap.size = bx) (hp : p < bx) (wf : World) (hwf : ((w9.setCell ⟨bx + 1, 1, none⟩ x).setCell ⟨bx + 1, 0, none⟩ y).setCell ⟨bx + 1, 1, none⟩ z = wf) :
    LS p tb off cap T fx a op v wf ∧ RK p W wf ∧ BytW W.heap.size u l wf ∧ wf.cell? ⟨bx + 1, 0, none⟩ = some y ∧ wf.cell? ⟨bx + 1, 1, none⟩ = some z := by
  have htb := hL.2.2.1
  have h4 : wf.heap[bx + 1]? = some (.cells #[y, z] 25 (0, 0)) := by
    rw [← hwf]; exact pset (pset (pset hT _ rfl) _ rfl) _ rfl
  refine ⟨?_, ?_, ?_, ?_, ?_⟩
  · have key : ∀ (W0 : World) (i : Nat) (u0 : Value), LS p tb off cap T fx a op v W0 → LS p tb off cap T fx a op v (W0.setCell ⟨bx + 1, i, none⟩ u0) := fun W0 i u0 h => h.same (Below.heap_setCell _ _ _ _ (by show p ≠ bx + 1; omega)) (Below.heap_setCell _ _ _ _ (by show tb ≠ bx + 1; omega))
    rw [← hwf]
    exact key _ _ _ (key _ _ _ (key _ _ _ hL))
  · rw [← hwf]
    exact ((hR.setNew (by omega) (by omega)).setNew (by omega) (by omega)).setNew (by omega) (by omega)
  · rw [← hwf]
    have k1 := hO.kp (Kp.rk (RK.set (bx + 1) 1 w9 x) (by omega))
    have k2 := k1.kp (Kp.rk (RK.set (bx + 1) 0 _ y) (by omega))
    exact (k2.kp (Kp.rk (RK.set (bx + 1) 1 _ z) (by omega))).less (by omega)
  · rw [Lib.cell_of_heap h4]; rfl
  · rw [Lib.cell_of_heap h4]; rfl
end Go.Proofs.YtgaknbnhmoddcaaGreatDoor
namespace Go.Proofs.YtgaknbnhmoddcaaGreatDoor
open Go.RowKit Go.Lib
def LTypSpec (f : Nat) : Prop := ∀ (p tb off cap : Nat) (T : List Tok) (fx : Bool) (a kk : Nat) (v : Value) (W : World), kk ≤ 8 → 9 ≤ f + kk → LS p tb off cap T fx a (kk : Int) v W → a ≤ T.length →
  Calls Tryz.prog 53 #[.pointer (some ⟨p, 0, none⟩)] W (TyE p tb off cap T fx v W (typG T f kk a))
set_option maxRecDepth 100000 in
theorem l_typ_err (p tb off cap : Nat) (T : List Tok) (fx : Bool) (a kk : Nat) (v : Value) (W : World) (hk : kk ≤ 8) (h : LS p tb off cap T fx a (kk : Int) v W) (ha : a ≤ T.length) (e : ErrP) (HWRAP : Hid (wrapP T kk a [91] = .error e)) :
    Calls Tryz.prog 53 #[.pointer (some ⟨p, 0, none⟩)] W (TyE p tb off cap T fx v W (.error e)) := by
  have hT8 := h.2.2.2.1.1
  have hpl := h.lt
  obtain ⟨bx, hbx⟩ : ∃ bx, W.heap.size = bx := ⟨_, rfl⟩
  obtain ⟨w2, hw2⟩ : ∃ w2, (W.alloc (.cells #[.pointer (some ⟨p, 0, none⟩)] 112 (0, 0))).alloc (.cells #[.string ⟨#[]⟩, .slice none 0 0] 25 (0, 0)) = w2 := ⟨_, rfl⟩
  have hb2 : Below W.heap.size W w2 := by rw [← hw2]; exact ((Below.refl _ _).alloc (Nat.le_refl _) _).alloc (by simp) _
  have HL2 := Lib.hid (h.below hb2)
  have HR2 := Lib.hid (RK.of_below hb2 h.lt)
  have HB2 : Hid (w2.heap[bx]? = some (.cells #[.pointer (some ⟨p, 0, none⟩)] 112 (0, 0))) := Lib.hid (by rw [← hw2]; exact heap_old (heap_new _ _ _ hbx.symm))
  have HT2 : Hid (w2.heap[bx + 1]? = some (.cells #[.string ⟨#[]⟩, .slice none 0 0] 25 (0, 0))) := Lib.hid (by rw [← hw2]; exact heap_new _ _ _ (by simp [hbx]))
  have hpb : p < bx := by omega
  have HW2 := Lib.hid hw2
  have hent := enters_of Tryz.func81 (by kernel_rfl) rfl
  have hmf : ∀ (fn : Fn) (first cap : Array Value) (w : World), (Instr.makeFunc fn first cap).run Tryz.prog w = .ok (.func fn first cap) w := fun _ _ _ _ => rfl
  have HWR := Lib.hid (l_wrap (a := a) (kk := kk) ⟨#[91]⟩ bx w2 HL2.out (by omega) hk HB2.out (by omega))
  rw [show (⟨#[91]⟩ : ByteArray).data.toList = [91] from rfl, HWRAP.out] at HWR
  clear h hw2 hb2
  go_enter Tryz.func53, Tryz.ntmps53
  go_wp2_with fail
  rw [HW2.out]
  try simp only [hbx]
  refine HWR.out.mono ?_; rintro x w3 ⟨rfl, hb⟩
  have HB9 := Lib.hid (HR2.out.1.trans hb)
  clear hb
  go_wp2_with fail
  exact ⟨rfl, rfl, HB9.out⟩
set_option maxRecDepth 100000 in
theorem l_typ_noname (p tb off cap : Nat) (T : List Tok) (fx : Bool) (a kk : Nat) (v : Value) (W : World) (hk : kk ≤ 8) (h : LS p tb off cap T fx a (kk : Int) v W) (ha : a ≤ T.length) (e : ErrP) (HWRAP : Hid (wrapP T kk a [91] = .ok none)) (hn : namP [] T a = .error e) :
    Calls Tryz.prog 53 #[.pointer (some ⟨p, 0, none⟩)] W (TyE p tb off cap T fx v W (.error e)) := by
  have hT8 := h.2.2.2.1.1
  have hpl := h.lt
  obtain ⟨bx, hbx⟩ : ∃ bx, W.heap.size = bx := ⟨_, rfl⟩
  obtain ⟨w2, hw2⟩ : ∃ w2, (W.alloc (.cells #[.pointer (some ⟨p, 0, none⟩)] 112 (0, 0))).alloc (.cells #[.string ⟨#[]⟩, .slice none 0 0] 25 (0, 0)) = w2 := ⟨_, rfl⟩
  have hb2 : Below W.heap.size W w2 := by rw [← hw2]; exact ((Below.refl _ _).alloc (Nat.le_refl _) _).alloc (by simp) _
  have HL2 := Lib.hid (h.below hb2)
  have HR2 := Lib.hid (RK.of_below hb2 h.lt)
  have HB2 : Hid (w2.heap[bx]? = some (.cells #[.pointer (some ⟨p, 0, none⟩)] 112 (0, 0))) := Lib.hid (by rw [← hw2]; exact heap_old (heap_new _ _ _ hbx.symm))
  have HT2 : Hid (w2.heap[bx + 1]? = some (.cells #[.string ⟨#[]⟩, .slice none 0 0] 25 (0, 0))) := Lib.hid (by rw [← hw2]; exact heap_new _ _ _ (by simp [hbx]))
  have hpb : p < bx := by omega
  have HW2 := Lib.hid hw2
  have hent := enters_of Tryz.func81 (by kernel_rfl) rfl
  have hmf : ∀ (fn : Fn) (first cap : Array Value) (w : World), (Instr.makeFunc fn first cap).run Tryz.prog w = .ok (.func fn first cap) w := fun _ _ _ _ => rfl
  have HWR := Lib.hid (l_wrap (a := a) (kk := kk) ⟨#[91]⟩ bx w2 HL2.out (by omega) hk HB2.out (by omega))
  rw [show (⟨#[91]⟩ : ByteArray).data.toList = [91] from rfl, HWRAP.out] at HWR
  clear h hw2 hb2
  go_enter Tryz.func53, Tryz.ntmps53
  go_wp2_with fail
  rw [HW2.out]
  try simp only [hbx]
  refine HWR.out.mono ?_; rintro x w3 ⟨rfl, hst, hrk⟩
  have HL3 := Lib.hid hst
  have HR3 := Lib.hid (HR2.out.trans hrk)
  have HB3 := Lib.hid (hrk.2 _ _ HB2.out (by omega))
  have d0 : w3.cell? ⟨bx, 0, none⟩ = some (.pointer (some ⟨p, 0, none⟩)) := by rw [Lib.cell_of_heap HB3.out]; rfl
  clear hst hrk
  go_wp2_with fail
  refine (l_name0_not hn _ HL3.out (by omega)).mono ?_; rintro x w4 ⟨rfl, hb⟩
  have HB9 := Lib.hid (HR3.out.1.trans hb)
  clear hb
  go_wp2_with fail
  exact ⟨rfl, rfl, HB9.out⟩
set_option maxRecDepth 100000 in
set_option maxHeartbeats 4000000 in
theorem l_typ_name (p tb off cap : Nat) (T : List Tok) (fx : Bool) (a kk : Nat) (v : Value) (W : World) (hk : kk ≤ 8) (h : LS p tb off cap T fx a (kk : Int) v W) (ha : a ≤ T.length) (nm : List UInt8) (HWRAP : Hid (wrapP T kk a [91] = .ok none)) (hn : namP [] T a = .ok nm) :
    Calls Tryz.prog 53 #[.pointer (some ⟨p, 0, none⟩)] W (TyE p tb off cap T fx v W (typE T (kk, a + 1, nm, []))) := by
  have haT := (nam_lt hn).1
  obtain ⟨Z, hZ⟩ : ∃ Z, typE T (kk, a + 1, nm, []) = Z := ⟨_, rfl⟩
  have HZZ := Lib.hid hZ
  rw [hZ]
  clear hZ
  obtain ⟨ws, hws⟩ : ∃ ws : List UInt8, [] = ws := ⟨_, rfl⟩
  have hwsl : ws.length = 0 := by rw [← hws]; rfl
  have hws2 : ([] : List UInt8) ++ ws = [] := by rw [← hws]; rfl
  rw [← hws2] at HZZ
  have HWS := Lib.hid hws
  clear hws hws2
  obtain ⟨nb, hnb⟩ : ∃ nb : ByteArray, (⟨nm.toArray⟩ : ByteArray) = nb := ⟨_, rfl⟩
  have HNB := Lib.hid hnb
  have hT8 := h.2.2.2.1.1
  have hpl := h.lt
  obtain ⟨bx, hbx⟩ : ∃ bx, W.heap.size = bx := ⟨_, rfl⟩
  obtain ⟨w2, hw2⟩ : ∃ w2, (W.alloc (.cells #[.pointer (some ⟨p, 0, none⟩)] 112 (0, 0))).alloc (.cells #[.string ⟨#[]⟩, .slice none 0 0] 25 (0, 0)) = w2 := ⟨_, rfl⟩
  have hb2 : Below W.heap.size W w2 := by rw [← hw2]; exact ((Below.refl _ _).alloc (Nat.le_refl _) _).alloc (by simp) _
  have HL2 := Lib.hid (h.below hb2)
  have HR2 := Lib.hid (RK.of_below hb2 h.lt)
  have HB2 : Hid (w2.heap[bx]? = some (.cells #[.pointer (some ⟨p, 0, none⟩)] 112 (0, 0))) := Lib.hid (by rw [← hw2]; exact heap_old (heap_new _ _ _ hbx.symm))
  have HT2 : Hid (w2.heap[bx + 1]? = some (.cells #[.string ⟨#[]⟩, .slice none 0 0] 25 (0, 0))) := Lib.hid (by rw [← hw2]; exact heap_new _ _ _ (by simp [hbx]))
  have hpb : p < bx := by omega
  have HW2 := Lib.hid hw2
  have hent := enters_of Tryz.func81 (by kernel_rfl) rfl
  have hmf : ∀ (fn : Fn) (first cap : Array Value) (w : World), (Instr.makeFunc fn first cap).run Tryz.prog w = .ok (.func fn first cap) w := fun _ _ _ _ => rfl
  have HWR := Lib.hid (l_wrap (a := a) (kk := kk) ⟨#[91]⟩ bx w2 HL2.out (by omega) hk HB2.out (by omega))
  rw [show (⟨#[91]⟩ : ByteArray).data.toList = [91] from rfl, HWRAP.out] at HWR
  clear h hw2 hb2
  go_enter Tryz.func53, Tryz.ntmps53
  go_wp2_with fail
  rw [HW2.out]
  try simp only [hbx]
  refine HWR.out.mono ?_; rintro x w3 ⟨rfl, hst, hrk⟩
  have HL3 := Lib.hid hst
  have HR3 := Lib.hid (HR2.out.trans hrk)
  have HB3 := Lib.hid (hrk.2 _ _ HB2.out (by omega))
  have HT3 := Lib.hid (hrk.2 _ _ HT2.out (by omega))
  have d0 : w3.cell? ⟨bx, 0, none⟩ = some (.pointer (some ⟨p, 0, none⟩)) := by rw [Lib.cell_of_heap HB3.out]; rfl
  clear hst hrk
  go_wp2_with fail
  refine (l_name0_yes hn _ HL3.out (by omega)).mono ?_; rintro x w4 ⟨rfl, hst, hrk⟩
  rw [hnb]
  have HT4 := Lib.hid (hrk.2 _ _ HT3.out (by omega))
  have HB4 := Lib.hid (hrk.2 _ _ HB3.out (by omega))
  obtain ⟨t0, t1, z0, z1⟩ := ref_cells HT4.out
  obtain ⟨w5, hw5⟩ : ∃ w5, w4.setCell ⟨bx + 1, 0, none⟩ (.string nb) = w5 := ⟨_, rfl⟩
  have HT5 : Hid (w5.heap[bx + 1]? = some (.cells #[.string nb, .slice none 0 0] 25 (0, 0))) := Lib.hid (by rw [← hw5]; exact pset HT4.out _ rfl)
  have HB5 : Hid (w5.heap[bx]? = some (.cells #[.pointer (some ⟨p, 0, none⟩)] 112 (0, 0))) := Lib.hid (by rw [← hw5, Below.heap_setCell _ _ _ _ (by show bx ≠ bx + 1; omega)]; exact HB4.out)
  have HL5 : Hid (LS p tb off cap T fx (a + 1) (kk : Int) v w5) := Lib.hid (by
    have := hst.2.2.1
    rw [← hw5]
    exact hst.same (Below.heap_setCell _ _ _ _ (by show p ≠ bx + 1; omega)) (Below.heap_setCell _ _ _ _ (by show tb ≠ bx + 1; omega)))
  have HR5 : Hid (RK p W w5) := Lib.hid (by rw [← hw5]; exact (HR3.out.trans hrk).setNew (by omega) (by omega))
  have HUU : Hid (BytW (bx + 2) (.slice none 0 0) ws w5) := Lib.hid (by rw [← HWS.out]; exact BytW.nil _ _)
  have HWW := Lib.hid hw5
  have hb0 : w5.cell? ⟨bx, 0, none⟩ = some (.pointer (some ⟨p, 0, none⟩)) := by rw [Lib.cell_of_heap HB5.out]; rfl
  clear hst hrk hw5 hnb
  go_wp2_with fail
  rw [HWW.out]
  have HW5 := Lib.hid (l_wrap (a := (a + 1)) (kk := kk) ⟨#[33]⟩ bx w5 HL5.out (by omega) (by omega) HB5.out (by omega))
  rw [show (⟨#[33]⟩ : ByteArray).data.toList = [33] from rfl] at HW5
  have HZ : Hid (typE T (kk, (a + 1), nm, [] ++ ws) = Z) := HZZ
  unfold typE at HZ
  dsimp only at HZ
  cases hx : wrapP T kk (a + 1) [33] with
  | error e =>
    rw [hx] at HW5 HZ
    dsimp only at HZ
    refine HW5.out.mono ?_; rintro x w6 ⟨rfl, hb⟩
    have HB9 := Lib.hid (HR5.out.1.trans hb)
    clear hb hx
    go_wp2_with fail
    rw [← HZ.out]
    exact ⟨rfl, rfl, HB9.out⟩
  | ok o =>
    rw [hx] at HW5 HZ
    cases o with
    | none =>
      dsimp only at HZ
      refine HW5.out.mono ?_; rintro x w6 ⟨rfl, hst, hrk⟩
      have HL6 := Lib.hid hst
      have HR6 := Lib.hid (HR5.out.trans hrk)
      have HT6 := Lib.hid (hrk.2 _ _ HT5.out (by omega))
      have HU6 := Lib.hid (HUU.out.kp (Kp.rk hrk (by omega)))
      have HO6 : Hid (BytW (bx + 2) (.slice none 0 0) [] w6) := Lib.hid (BytW.nil _ _)
      have hz6 : bx + 2 ≤ w6.heap.size := heap_lt HT6.out
      obtain ⟨t0, t1, z0, z1⟩ := ref_cells HT6.out
      clear hst hrk hx
      go_wp2_with (at_builtin; refine wpList_pushW rfl _ _ rfl (bx + 2) (.slice none 0 0) [] rfl HO6.out (bx + 2) (.slice none 0 0) ws rfl HU6.out (by simp only [List.length_cons, List.length_nil]; omega) hz6 ?_)
      intro v' w9 ho9 hg9
      have hob : ∀ j, Value.ownBlock (.slice none 0 0) = some j → bx + 2 ≤ j := fun j hj => (HO6.out.1.lt j hj)
      have HL9 := Lib.hid (HL6.out.grown_ hg9 (fun j hj => by have := hob j hj; omega))
      have HR9 := Lib.hid (RK.grown HR6.out hg9 (fun j hj => by have := hob j hj; omega) hpl)
      have hT9 := (hg9.block (bx + 1) (heap_lt HT6.out) (fun e => by have := hob (bx + 1) e.symm; omega)).trans HT6.out
      have HT9 := Lib.hid hT9
      have HO9 := Lib.hid ho9
      obtain ⟨a9, n9, c9, rfl⟩ := ho9.form
      obtain ⟨q0, q1, y0, y1⟩ := ref_cells hT9
      clear ho9 hg9 hT9 t0 t1 z0 z1
      go_wp2_with fail
      obtain ⟨wf, hwf⟩ : ∃ wf, ((w9.setCell ⟨bx + 1, 1, none⟩ (.slice a9 n9 c9)).setCell ⟨bx + 1, 0, none⟩ (.string nb)).setCell ⟨bx + 1, 1, none⟩ (.slice a9 n9 c9) = wf := ⟨_, rfl⟩
      obtain ⟨r1, r2, r3, r4, r5⟩ := ty_fin HL9.out HR9.out HO9.out HT9.out hbx hpb wf hwf
      rw [hwf]
      clear hwf q0 q1 y0 y1
      refine bodyPost_ret (by simp [results, Tryz.results53, go_sem, r4, r5]; try rfl) rfl ?_
      rw [← HZ.out]
      exact ⟨_, by rw [HNB.out], r3, r1, r2⟩
    | some k4 =>
      have hk4 := wrapP_some hx
      dsimp only at HZ
      refine HW5.out.mono ?_; rintro x w6 ⟨rfl, hst, hrk⟩
      have HL6 := Lib.hid hst
      have HR6 := Lib.hid (HR5.out.trans hrk)
      have HT6 := Lib.hid (hrk.2 _ _ HT5.out (by omega))
      have HU6 := Lib.hid (HUU.out.kp (Kp.rk hrk (by omega)))
      have hz6 : bx + 2 ≤ w6.heap.size := heap_lt HT6.out
      obtain ⟨w7, hw7⟩ : ∃ w7, w6.alloc (.cells #[.int .u8 1] 5 (0, 0)) = w7 := ⟨_, rfl⟩
      have hb7 : Below w6.heap.size w6 w7 := by rw [← hw7]; exact (Below.refl _ _).alloc (Nat.le_refl _) _
      have h71 : w7.cell? ⟨w6.heap.size, 0, none⟩ = some (.int .u8 1) := by rw [← hw7]; exact new_cell0 _ _ _
      have HL7 := Lib.hid (HL6.out.below hb7)
      have HR7 := Lib.hid (HR6.out.trans (RK.of_below hb7 HL6.out.lt))
      have HT7 := Lib.hid ((hb7.block _ (heap_lt HT6.out)).trans HT6.out)
      have HU7 := Lib.hid (HU6.out.kp (Kp.below hb7))
      have hz7 : bx + 2 ≤ w7.heap.size := Nat.le_trans hz6 hb7.size
      have HW7 := Lib.hid hw7
      have HIN := Lib.hid (insert_none w6.heap.size w7 h71)
      clear hst hrk hx hw7
      go_wp2_with fail
      rw [HW7.out]
      refine HIN.out.mono ?_; rintro x w8 ⟨g8, cap8, rfl, ho8, hg8⟩
      have hb8 : Below w7.heap.size w7 w8 := (Below.refl _ _).grown hg8 (Nat.le_refl _) (fun k hk => by cases hk)
      have HL8 := Lib.hid (HL7.out.below hb8)
      have HR8 := Lib.hid (HR7.out.trans (RK.of_below hb8 HL7.out.lt))
      have HT8 := Lib.hid ((hb8.block _ (heap_lt HT7.out)).trans HT7.out)
      have HU8 := Lib.hid (HU7.out.kp (Kp.below hb8))
      have HO8 : Hid (BytW (bx + 2) (.slice (some ⟨g8, 0, none⟩) 1 cap8) [1] w8) := Lib.hid ⟨ho8.less hz7, fun e => by cases e⟩
      have hz8 : bx + 2 ≤ w8.heap.size := Nat.le_trans hz7 hb8.size
      obtain ⟨t0, t1, z0, z1⟩ := ref_cells HT8.out
      clear ho8 hg8 hb8 HIN HW7
      go_wp2_with (at_builtin; refine wpList_pushW rfl _ _ rfl (bx + 2) (.slice (some ⟨g8, 0, none⟩) 1 cap8) [1] rfl HO8.out (bx + 2) (.slice none 0 0) ws rfl HU8.out (by simp only [List.length_cons, List.length_nil]; omega) hz8 ?_)
      intro v' w9 ho9 hg9
      have hob : ∀ j, Value.ownBlock (.slice (some ⟨g8, 0, none⟩) 1 cap8) = some j → bx + 2 ≤ j := fun j hj => (HO8.out.1.lt j hj)
      have HL9 := Lib.hid (HL8.out.grown_ hg9 (fun j hj => by have := hob j hj; omega))
      have HR9 := Lib.hid (RK.grown HR8.out hg9 (fun j hj => by have := hob j hj; omega) hpl)
      have hT9 := (hg9.block (bx + 1) (heap_lt HT8.out) (fun e => by have := hob (bx + 1) e.symm; omega)).trans HT8.out
      have HT9 := Lib.hid hT9
      have HO9 := Lib.hid ho9
      obtain ⟨a9, n9, c9, rfl⟩ := ho9.form
      obtain ⟨q0, q1, y0, y1⟩ := ref_cells hT9
      clear ho9 hg9 hT9 t0 t1 z0 z1
      go_wp2_with fail
      obtain ⟨wf, hwf⟩ : ∃ wf, ((w9.setCell ⟨bx + 1, 1, none⟩ (.slice a9 n9 c9)).setCell ⟨bx + 1, 0, none⟩ (.string nb)).setCell ⟨bx + 1, 1, none⟩ (.slice a9 n9 c9) = wf := ⟨_, rfl⟩
      obtain ⟨r1, r2, r3, r4, r5⟩ := ty_fin HL9.out HR9.out HO9.out HT9.out hbx hpb wf hwf
      rw [hwf]
      clear hwf q0 q1 y0 y1
      refine bodyPost_ret (by simp [results, Tryz.results53, go_sem, r4, r5]; try rfl) rfl ?_
      rw [← HZ.out]
      exact ⟨_, by rw [HNB.out], r3, r1, r2⟩
end Go.Proofs.YtgaknbnhmoddcaaGreatDoor
namespace Go.Proofs.YtgaknbnhmoddcaaGreatDoor
open Go.RowKit Go.Lib
set_option maxRecDepth 100000 in
theorem l_typ_inner (p tb off cap : Nat) (T : List Tok) (fx : Bool) (a kk : Nat) (v : Value) (W : World) (hk : kk ≤ 8) (h : LS p tb off cap T fx a (kk : Int) v W) (ha : a ≤ T.length) (k1 : Nat) (e : ErrP) (HWRAP : Hid (wrapP T kk a [91] = .ok (some k1))) (HREC : Hid (∀ W', LS p tb off cap T fx (a + 1) (k1 : Int) v W' → Calls Tryz.prog 53 #[.pointer (some ⟨p, 0, none⟩)] W' (TyE p tb off cap T fx v W' (.error e)))) :
    Calls Tryz.prog 53 #[.pointer (some ⟨p, 0, none⟩)] W (TyE p tb off cap T fx v W (.error e)) := by
  have hT8 := h.2.2.2.1.1
  have hpl := h.lt
  obtain ⟨bx, hbx⟩ : ∃ bx, W.heap.size = bx := ⟨_, rfl⟩
  obtain ⟨w2, hw2⟩ : ∃ w2, (W.alloc (.cells #[.pointer (some ⟨p, 0, none⟩)] 112 (0, 0))).alloc (.cells #[.string ⟨#[]⟩, .slice none 0 0] 25 (0, 0)) = w2 := ⟨_, rfl⟩
  have hb2 : Below W.heap.size W w2 := by rw [← hw2]; exact ((Below.refl _ _).alloc (Nat.le_refl _) _).alloc (by simp) _
  have HL2 := Lib.hid (h.below hb2)
  have HR2 := Lib.hid (RK.of_below hb2 h.lt)
  have HB2 : Hid (w2.heap[bx]? = some (.cells #[.pointer (some ⟨p, 0, none⟩)] 112 (0, 0))) := Lib.hid (by rw [← hw2]; exact heap_old (heap_new _ _ _ hbx.symm))
  have HT2 : Hid (w2.heap[bx + 1]? = some (.cells #[.string ⟨#[]⟩, .slice none 0 0] 25 (0, 0))) := Lib.hid (by rw [← hw2]; exact heap_new _ _ _ (by simp [hbx]))
  have hpb : p < bx := by omega
  have HW2 := Lib.hid hw2
  have hent := enters_of Tryz.func81 (by kernel_rfl) rfl
  have hmf : ∀ (fn : Fn) (first cap : Array Value) (w : World), (Instr.makeFunc fn first cap).run Tryz.prog w = .ok (.func fn first cap) w := fun _ _ _ _ => rfl
  have HWR := Lib.hid (l_wrap (a := a) (kk := kk) ⟨#[91]⟩ bx w2 HL2.out (by omega) hk HB2.out (by omega))
  rw [show (⟨#[91]⟩ : ByteArray).data.toList = [91] from rfl, HWRAP.out] at HWR
  clear h hw2 hb2
  go_enter Tryz.func53, Tryz.ntmps53
  go_wp2_with fail
  rw [HW2.out]
  try simp only [hbx]
  refine HWR.out.mono ?_; rintro x w3 ⟨rfl, hst, hrk⟩
  have HL3 := Lib.hid hst
  have HR3 := Lib.hid (HR2.out.trans hrk)
  have HB3 := Lib.hid (hrk.2 _ _ HB2.out (by omega))
  have HT3 := Lib.hid (hrk.2 _ _ HT2.out (by omega))
  have d0 : w3.cell? ⟨bx, 0, none⟩ = some (.pointer (some ⟨p, 0, none⟩)) := by rw [Lib.cell_of_heap HB3.out]; rfl
  have hz3 : bx + 2 ≤ w3.heap.size := heap_lt HT3.out
  clear hst hrk
  go_wp2_with fail
  refine (HREC.out w3 HL3.out).mono ?_; rintro x w4 hx4
  obtain ⟨hxe, hb⟩ : x = .panicked (stopP e) ∧ Below p w3 w4 := hx4
  have HB9 := Lib.hid (HR3.out.1.trans hb)
  clear hb
  subst hxe
  go_wp2_with fail
  exact ⟨rfl, rfl, HB9.out⟩
set_option maxRecDepth 100000 in
set_option maxHeartbeats 4000000 in
theorem l_typ_open (p tb off cap : Nat) (T : List Tok) (fx : Bool) (a kk : Nat) (v : Value) (W : World) (hk : kk ≤ 8) (h : LS p tb off cap T fx a (kk : Int) v W) (ha : a ≤ T.length) (k1 k2 a2 : Nat) (nm ws : List UInt8) (HWRAP : Hid (wrapP T kk a [91] = .ok (some k1))) (ha2 : a2 ≤ T.length) (hm : mrkP T a2 [93] = false) (HREC : Hid (∀ W', LS p tb off cap T fx (a + 1) (k1 : Int) v W' → Calls Tryz.prog 53 #[.pointer (some ⟨p, 0, none⟩)] W' (TyE p tb off cap T fx v W' (.ok (k2, a2, nm, ws))))) :
    Calls Tryz.prog 53 #[.pointer (some ⟨p, 0, none⟩)] W (TyE p tb off cap T fx v W (.error (180, a2))) := by
  have hT8 := h.2.2.2.1.1
  have hpl := h.lt
  obtain ⟨bx, hbx⟩ : ∃ bx, W.heap.size = bx := ⟨_, rfl⟩
  obtain ⟨w2, hw2⟩ : ∃ w2, (W.alloc (.cells #[.pointer (some ⟨p, 0, none⟩)] 112 (0, 0))).alloc (.cells #[.string ⟨#[]⟩, .slice none 0 0] 25 (0, 0)) = w2 := ⟨_, rfl⟩
  have hb2 : Below W.heap.size W w2 := by rw [← hw2]; exact ((Below.refl _ _).alloc (Nat.le_refl _) _).alloc (by simp) _
  have HL2 := Lib.hid (h.below hb2)
  have HR2 := Lib.hid (RK.of_below hb2 h.lt)
  have HB2 : Hid (w2.heap[bx]? = some (.cells #[.pointer (some ⟨p, 0, none⟩)] 112 (0, 0))) := Lib.hid (by rw [← hw2]; exact heap_old (heap_new _ _ _ hbx.symm))
  have HT2 : Hid (w2.heap[bx + 1]? = some (.cells #[.string ⟨#[]⟩, .slice none 0 0] 25 (0, 0))) := Lib.hid (by rw [← hw2]; exact heap_new _ _ _ (by simp [hbx]))
  have hpb : p < bx := by omega
  have HW2 := Lib.hid hw2
  have hent := enters_of Tryz.func81 (by kernel_rfl) rfl
  have hmf : ∀ (fn : Fn) (first cap : Array Value) (w : World), (Instr.makeFunc fn first cap).run Tryz.prog w = .ok (.func fn first cap) w := fun _ _ _ _ => rfl
  have HWR := Lib.hid (l_wrap (a := a) (kk := kk) ⟨#[91]⟩ bx w2 HL2.out (by omega) hk HB2.out (by omega))
  rw [show (⟨#[91]⟩ : ByteArray).data.toList = [91] from rfl, HWRAP.out] at HWR
  clear h hw2 hb2
  go_enter Tryz.func53, Tryz.ntmps53
  go_wp2_with fail
  rw [HW2.out]
  try simp only [hbx]
  refine HWR.out.mono ?_; rintro x w3 ⟨rfl, hst, hrk⟩
  have HL3 := Lib.hid hst
  have HR3 := Lib.hid (HR2.out.trans hrk)
  have HB3 := Lib.hid (hrk.2 _ _ HB2.out (by omega))
  have HT3 := Lib.hid (hrk.2 _ _ HT2.out (by omega))
  have d0 : w3.cell? ⟨bx, 0, none⟩ = some (.pointer (some ⟨p, 0, none⟩)) := by rw [Lib.cell_of_heap HB3.out]; rfl
  have hz3 : bx + 2 ≤ w3.heap.size := heap_lt HT3.out
  clear hst hrk
  go_wp2_with fail
  refine (HREC.out w3 HL3.out).mono ?_; rintro x w4 hx4
  obtain ⟨u, hxe, hu, hst4, hrk4⟩ : ∃ u, x = .returned (.agg #[.string ⟨nm.toArray⟩, u]) ∧ BytW w3.heap.size u ws w4 ∧ LS p tb off cap T fx a2 (k2 : Int) v w4 ∧ RK p w3 w4 := hx4
  obtain ⟨ua, un, uc, rfl⟩ := hu.form
  subst hxe
  obtain ⟨nb, hnb⟩ : ∃ nb : ByteArray, (⟨nm.toArray⟩ : ByteArray) = nb := ⟨_, rfl⟩
  have HNB := Lib.hid hnb
  rw [hnb]
  have HB4 := Lib.hid (hrk4.2 _ _ HB3.out (by omega))
  have HT4 := Lib.hid (hrk4.2 _ _ HT3.out (by omega))
  obtain ⟨t0, t1, z0, z1⟩ := ref_cells HT4.out
  obtain ⟨wt, hwt⟩ : ∃ wt, w4.setCell ⟨bx + 1, 0, none⟩ (.string nb) = wt := ⟨_, rfl⟩
  have HTt : Hid (wt.heap[bx + 1]? = some (.cells #[.string nb, .slice none 0 0] 25 (0, 0))) := Lib.hid (by rw [← hwt]; exact pset HT4.out _ rfl)
  obtain ⟨w5, hw5⟩ : ∃ w5, wt.setCell ⟨bx + 1, 1, none⟩ (.slice ua un uc) = w5 := ⟨_, rfl⟩
  have HT5 : Hid (w5.heap[bx + 1]? = some (.cells #[.string nb, .slice ua un uc] 25 (0, 0))) := Lib.hid (by rw [← hw5]; exact pset HTt.out _ rfl)
  have HB5 : Hid (w5.heap[bx]? = some (.cells #[.pointer (some ⟨p, 0, none⟩)] 112 (0, 0))) := Lib.hid (by
    rw [← hw5, Below.heap_setCell _ _ _ _ (by show bx ≠ bx + 1; omega), ← hwt, Below.heap_setCell _ _ _ _ (by show bx ≠ bx + 1; omega)]; exact HB4.out)
  have keyL : ∀ (W0 : World) (i : Nat) (u0 : Value), LS p tb off cap T fx a2 (k2 : Int) v W0 → LS p tb off cap T fx a2 (k2 : Int) v (W0.setCell ⟨bx + 1, i, none⟩ u0) := fun W0 i u0 h => by
    have := h.2.2.1
    exact h.same (Below.heap_setCell _ _ _ _ (by show p ≠ bx + 1; omega)) (Below.heap_setCell _ _ _ _ (by show tb ≠ bx + 1; omega))
  have HL5 : Hid (LS p tb off cap T fx a2 (k2 : Int) v w5) := Lib.hid (by rw [← hw5, ← hwt]; exact keyL _ _ _ (keyL _ _ _ hst4))
  have HR5 : Hid (RK p W w5) := Lib.hid (by rw [← hw5, ← hwt]; exact ((HR3.out.trans hrk4).setNew (by omega) (by omega)).setNew (by omega) (by omega))
  have HU5 : Hid (BytW (bx + 2) (.slice ua un uc) ws w5) := Lib.hid (by
    rw [← hw5, ← hwt]
    exact ((hu.less hz3).kp (Kp.rk (RK.set (bx + 1) 0 w4 (.string nb)) (by omega))).kp (Kp.rk (RK.set (bx + 1) 1 _ (.slice ua un uc)) (by omega)))
  have HWT := Lib.hid hwt
  have HWW := Lib.hid hw5
  have hb0 : w4.cell? ⟨bx, 0, none⟩ = some (.pointer (some ⟨p, 0, none⟩)) := by rw [Lib.cell_of_heap HB4.out]; rfl
  have hbb : ¬ bx = bx + 1 := by omega
  clear keyL hu hst4 hrk4 hwt hw5 hnb
  go_wp2_with fail
  rw [HWT.out, HWW.out]
  refine (l_must_not (what := ⟨#[93]⟩) hm _ HL5.out (by omega)).mono ?_; rintro x w6 ⟨rfl, hb⟩
  have HB9 := Lib.hid (HR5.out.1.trans hb)
  clear hb
  go_wp2_with fail
  exact ⟨rfl, rfl, HB9.out⟩
set_option maxRecDepth 100000 in
set_option maxHeartbeats 4000000 in
theorem l_typ_list (p tb off cap : Nat) (T : List Tok) (fx : Bool) (a kk : Nat) (v : Value) (W : World) (hk : kk ≤ 8) (h : LS p tb off cap T fx a (kk : Int) v W) (ha : a ≤ T.length) (k1 k2 a2 : Nat) (nm ws : List UInt8) (HWRAP : Hid (wrapP T kk a [91] = .ok (some k1))) (ha2 : a2 ≤ T.length) (hk28 : k2 ≤ 8) (hwsl : ws.length ≤ 1000) (hm : mrkP T a2 [93] = true) (HREC : Hid (∀ W', LS p tb off cap T fx (a + 1) (k1 : Int) v W' → Calls Tryz.prog 53 #[.pointer (some ⟨p, 0, none⟩)] W' (TyE p tb off cap T fx v W' (.ok (k2, a2, nm, ws))))) :
    Calls Tryz.prog 53 #[.pointer (some ⟨p, 0, none⟩)] W (TyE p tb off cap T fx v W (typE T (k2, a2 + 1, nm, 2 :: ws))) := by
  have hmT := mrk_lt hm
  obtain ⟨Z, hZ⟩ : ∃ Z, typE T (k2, a2 + 1, nm, [2] ++ ws) = Z := ⟨_, rfl⟩
  have HZZ := Lib.hid hZ
  rw [show typE T (k2, a2 + 1, nm, 2 :: ws) = Z from hZ]
  clear hZ
  have hT8 := h.2.2.2.1.1
  have hpl := h.lt
  obtain ⟨bx, hbx⟩ : ∃ bx, W.heap.size = bx := ⟨_, rfl⟩
  obtain ⟨w2, hw2⟩ : ∃ w2, (W.alloc (.cells #[.pointer (some ⟨p, 0, none⟩)] 112 (0, 0))).alloc (.cells #[.string ⟨#[]⟩, .slice none 0 0] 25 (0, 0)) = w2 := ⟨_, rfl⟩
  have hb2 : Below W.heap.size W w2 := by rw [← hw2]; exact ((Below.refl _ _).alloc (Nat.le_refl _) _).alloc (by simp) _
  have HL2 := Lib.hid (h.below hb2)
  have HR2 := Lib.hid (RK.of_below hb2 h.lt)
  have HB2 : Hid (w2.heap[bx]? = some (.cells #[.pointer (some ⟨p, 0, none⟩)] 112 (0, 0))) := Lib.hid (by rw [← hw2]; exact heap_old (heap_new _ _ _ hbx.symm))
  have HT2 : Hid (w2.heap[bx + 1]? = some (.cells #[.string ⟨#[]⟩, .slice none 0 0] 25 (0, 0))) := Lib.hid (by rw [← hw2]; exact heap_new _ _ _ (by simp [hbx]))
  have hpb : p < bx := by omega
  have HW2 := Lib.hid hw2
  have hent := enters_of Tryz.func81 (by kernel_rfl) rfl
  have hmf : ∀ (fn : Fn) (first cap : Array Value) (w : World), (Instr.makeFunc fn first cap).run Tryz.prog w = .ok (.func fn first cap) w := fun _ _ _ _ => rfl
  have HWR := Lib.hid (l_wrap (a := a) (kk := kk) ⟨#[91]⟩ bx w2 HL2.out (by omega) hk HB2.out (by omega))
  rw [show (⟨#[91]⟩ : ByteArray).data.toList = [91] from rfl, HWRAP.out] at HWR
  clear h hw2 hb2
  go_enter Tryz.func53, Tryz.ntmps53
  go_wp2_with fail
  rw [HW2.out]
  try simp only [hbx]
  refine HWR.out.mono ?_; rintro x w3 ⟨rfl, hst, hrk⟩
  have HL3 := Lib.hid hst
  have HR3 := Lib.hid (HR2.out.trans hrk)
  have HB3 := Lib.hid (hrk.2 _ _ HB2.out (by omega))
  have HT3 := Lib.hid (hrk.2 _ _ HT2.out (by omega))
  have d0 : w3.cell? ⟨bx, 0, none⟩ = some (.pointer (some ⟨p, 0, none⟩)) := by rw [Lib.cell_of_heap HB3.out]; rfl
  have hz3 : bx + 2 ≤ w3.heap.size := heap_lt HT3.out
  clear hst hrk
  go_wp2_with fail
  refine (HREC.out w3 HL3.out).mono ?_; rintro x w4 hx4
  obtain ⟨u, hxe, hu, hst4, hrk4⟩ : ∃ u, x = .returned (.agg #[.string ⟨nm.toArray⟩, u]) ∧ BytW w3.heap.size u ws w4 ∧ LS p tb off cap T fx a2 (k2 : Int) v w4 ∧ RK p w3 w4 := hx4
  obtain ⟨ua, un, uc, rfl⟩ := hu.form
  subst hxe
  obtain ⟨nb, hnb⟩ : ∃ nb : ByteArray, (⟨nm.toArray⟩ : ByteArray) = nb := ⟨_, rfl⟩
  have HNB := Lib.hid hnb
  rw [hnb]
  have HB4 := Lib.hid (hrk4.2 _ _ HB3.out (by omega))
  have HT4 := Lib.hid (hrk4.2 _ _ HT3.out (by omega))
  obtain ⟨t0, t1, z0, z1⟩ := ref_cells HT4.out
  obtain ⟨wt, hwt⟩ : ∃ wt, w4.setCell ⟨bx + 1, 0, none⟩ (.string nb) = wt := ⟨_, rfl⟩
  have HTt : Hid (wt.heap[bx + 1]? = some (.cells #[.string nb, .slice none 0 0] 25 (0, 0))) := Lib.hid (by rw [← hwt]; exact pset HT4.out _ rfl)
  obtain ⟨w5, hw5⟩ : ∃ w5, wt.setCell ⟨bx + 1, 1, none⟩ (.slice ua un uc) = w5 := ⟨_, rfl⟩
  have HT5 : Hid (w5.heap[bx + 1]? = some (.cells #[.string nb, .slice ua un uc] 25 (0, 0))) := Lib.hid (by rw [← hw5]; exact pset HTt.out _ rfl)
  have HB5 : Hid (w5.heap[bx]? = some (.cells #[.pointer (some ⟨p, 0, none⟩)] 112 (0, 0))) := Lib.hid (by
    rw [← hw5, Below.heap_setCell _ _ _ _ (by show bx ≠ bx + 1; omega), ← hwt, Below.heap_setCell _ _ _ _ (by show bx ≠ bx + 1; omega)]; exact HB4.out)
  have keyL : ∀ (W0 : World) (i : Nat) (u0 : Value), LS p tb off cap T fx a2 (k2 : Int) v W0 → LS p tb off cap T fx a2 (k2 : Int) v (W0.setCell ⟨bx + 1, i, none⟩ u0) := fun W0 i u0 h => by
    have := h.2.2.1
    exact h.same (Below.heap_setCell _ _ _ _ (by show p ≠ bx + 1; omega)) (Below.heap_setCell _ _ _ _ (by show tb ≠ bx + 1; omega))
  have HL5 : Hid (LS p tb off cap T fx a2 (k2 : Int) v w5) := Lib.hid (by rw [← hw5, ← hwt]; exact keyL _ _ _ (keyL _ _ _ hst4))
  have HR5 : Hid (RK p W w5) := Lib.hid (by rw [← hw5, ← hwt]; exact ((HR3.out.trans hrk4).setNew (by omega) (by omega)).setNew (by omega) (by omega))
  have HU5 : Hid (BytW (bx + 2) (.slice ua un uc) ws w5) := Lib.hid (by
    rw [← hw5, ← hwt]
    exact ((hu.less hz3).kp (Kp.rk (RK.set (bx + 1) 0 w4 (.string nb)) (by omega))).kp (Kp.rk (RK.set (bx + 1) 1 _ (.slice ua un uc)) (by omega)))
  have HWT := Lib.hid hwt
  have HWW := Lib.hid hw5
  have hb0 : w4.cell? ⟨bx, 0, none⟩ = some (.pointer (some ⟨p, 0, none⟩)) := by rw [Lib.cell_of_heap HB4.out]; rfl
  have hbb : ¬ bx = bx + 1 := by omega
  clear keyL hu hst4 hrk4 hwt hw5 hnb
  go_wp2_with fail
  rw [HWT.out, HWW.out]
  refine (l_must_yes (what := ⟨#[93]⟩) hm _ HL5.out (by omega)).mono ?_; rintro x wu ⟨rfl, hst, hrk⟩
  have HBu := Lib.hid (hrk.2 _ _ HB5.out (by omega))
  have HTu := Lib.hid (hrk.2 _ _ HT5.out (by omega))
  have HRu := Lib.hid (HR5.out.trans hrk)
  have HUu := Lib.hid (HU5.out.kp (Kp.rk hrk (by omega)))
  obtain ⟨lb, hlb⟩ : ∃ lb, wu.heap.size = lb := ⟨_, rfl⟩
  obtain ⟨ww, hww⟩ : ∃ ww, wu.alloc (.cells #[.int .u8 2] 5 (0, 0)) = ww := ⟨_, rfl⟩
  have hbw : Below wu.heap.size wu ww := by rw [← hww]; exact (Below.refl _ _).alloc (Nat.le_refl _) _
  have HLs := Lib.hid (hst.below hbw)
  have HRs := Lib.hid (HRu.out.trans (RK.of_below hbw hst.lt))
  have HBs := Lib.hid ((hbw.block _ (heap_lt HBu.out)).trans HBu.out)
  have HTs := Lib.hid ((hbw.block _ (heap_lt HTu.out)).trans HTu.out)
  have HUU := Lib.hid (HUu.out.kp (Kp.below hbw))
  have hzu : bx + 2 ≤ wu.heap.size := heap_lt HTu.out
  have hLB : ww.heap[lb]? = some (.cells #[.int .u8 2] 5 (0, 0)) := by rw [← hww, ← hlb]; exact heap_alloc_last _ _
  have hl_ : ∀ W', RK p ww W' → W'.cell? ⟨lb, 0, none⟩ = some (.int .u8 2) := fun W' h => by
    rw [Lib.cell_of_heap (h.2 lb _ hLB (by omega))]; rfl
  have HLL : Hid (BytW (bx + 2) (.slice (some ⟨lb, 0, none⟩) 1 1) [2] ww) := Lib.hid ⟨by
    rw [← hww, ← hlb]
    exact (Own.fresh (l := [2]) (C := #[.int .u8 2]) (k := 1) rfl rfl (by decide) wu).less hzu, fun e => by cases e⟩
  have HWU := Lib.hid hww
  have HLB := Lib.hid hlb
  clear hst hrk hbw hww hlb hLB
  go_wp2_with fail
  rw [HWU.out]
  try simp only [HLB.out]
  have HW5 := Lib.hid (l_wrap (a := (a2 + 1)) (kk := k2) ⟨#[33]⟩ bx ww HLs.out (by omega) (by omega) HBs.out (by omega))
  rw [show (⟨#[33]⟩ : ByteArray).data.toList = [33] from rfl] at HW5
  have HZ : Hid (typE T (k2, (a2 + 1), nm, [2] ++ ws) = Z) := HZZ
  unfold typE at HZ
  dsimp only at HZ
  cases hx : wrapP T k2 (a2 + 1) [33] with
  | error e =>
    rw [hx] at HW5 HZ
    dsimp only at HZ
    refine HW5.out.mono ?_; rintro x w6 ⟨rfl, hb⟩
    have HB9 := Lib.hid (HRs.out.1.trans hb)
    clear hb hx
    go_wp2_with fail
    rw [← HZ.out]
    exact ⟨rfl, rfl, HB9.out⟩
  | ok o =>
    rw [hx] at HW5 HZ
    cases o with
    | none =>
      dsimp only at HZ
      refine HW5.out.mono ?_; rintro x w6 ⟨rfl, hst, hrk⟩
      have HL6 := Lib.hid hst
      have HR6 := Lib.hid (HRs.out.trans hrk)
      have HT6 := Lib.hid (hrk.2 _ _ HTs.out (by omega))
      have HU6 := Lib.hid (HUU.out.kp (Kp.rk hrk (by omega)))
      have HO6 : Hid (BytW (bx + 2) (.slice (some ⟨lb, 0, none⟩) 1 1) [2] w6) := Lib.hid (HLL.out.kp (Kp.rk hrk (by omega)))
      have hz6 : bx + 2 ≤ w6.heap.size := heap_lt HT6.out
      obtain ⟨t0, t1, z0, z1⟩ := ref_cells HT6.out
      clear hst hrk hx
      go_wp2_with (at_builtin; refine wpList_pushW rfl _ _ rfl (bx + 2) (.slice (some ⟨lb, 0, none⟩) 1 1) [2] rfl HO6.out (bx + 2) (.slice ua un uc) ws rfl HU6.out (by simp only [List.length_cons, List.length_nil]; omega) hz6 ?_)
      intro v' w9 ho9 hg9
      have hob : ∀ j, Value.ownBlock (.slice (some ⟨lb, 0, none⟩) 1 1) = some j → bx + 2 ≤ j := fun j hj => (HO6.out.1.lt j hj)
      have HL9 := Lib.hid (HL6.out.grown_ hg9 (fun j hj => by have := hob j hj; omega))
      have HR9 := Lib.hid (RK.grown HR6.out hg9 (fun j hj => by have := hob j hj; omega) hpl)
      have hT9 := (hg9.block (bx + 1) (heap_lt HT6.out) (fun e => by have := hob (bx + 1) e.symm; omega)).trans HT6.out
      have HT9 := Lib.hid hT9
      have HO9 := Lib.hid ho9
      obtain ⟨a9, n9, c9, rfl⟩ := ho9.form
      obtain ⟨q0, q1, y0, y1⟩ := ref_cells hT9
      clear ho9 hg9 hT9 t0 t1 z0 z1
      go_wp2_with fail
      obtain ⟨wf, hwf⟩ : ∃ wf, ((w9.setCell ⟨bx + 1, 1, none⟩ (.slice a9 n9 c9)).setCell ⟨bx + 1, 0, none⟩ (.string nb)).setCell ⟨bx + 1, 1, none⟩ (.slice a9 n9 c9) = wf := ⟨_, rfl⟩
      obtain ⟨r1, r2, r3, r4, r5⟩ := ty_fin HL9.out HR9.out HO9.out HT9.out hbx hpb wf hwf
      rw [hwf]
      clear hwf q0 q1 y0 y1
      refine bodyPost_ret (by simp [results, Tryz.results53, go_sem, r4, r5]; try rfl) rfl ?_
      rw [← HZ.out]
      exact ⟨_, by rw [HNB.out], r3, r1, r2⟩
    | some k4 =>
      have hk4 := wrapP_some hx
      dsimp only at HZ
      refine HW5.out.mono ?_; rintro x w6 ⟨rfl, hst, hrk⟩
      have HL6 := Lib.hid hst
      have HR6 := Lib.hid (HRs.out.trans hrk)
      have HT6 := Lib.hid (hrk.2 _ _ HTs.out (by omega))
      have HU6 := Lib.hid (HUU.out.kp (Kp.rk hrk (by omega)))
      have hz6 : bx + 2 ≤ w6.heap.size := heap_lt HT6.out
      obtain ⟨w7, hw7⟩ : ∃ w7, w6.alloc (.cells #[.int .u8 1] 5 (0, 0)) = w7 := ⟨_, rfl⟩
      have hb7 : Below w6.heap.size w6 w7 := by rw [← hw7]; exact (Below.refl _ _).alloc (Nat.le_refl _) _
      have h71 : w7.cell? ⟨w6.heap.size, 0, none⟩ = some (.int .u8 1) := by rw [← hw7]; exact new_cell0 _ _ _
      have HL7 := Lib.hid (HL6.out.below hb7)
      have HR7 := Lib.hid (HR6.out.trans (RK.of_below hb7 HL6.out.lt))
      have HT7 := Lib.hid ((hb7.block _ (heap_lt HT6.out)).trans HT6.out)
      have HU7 := Lib.hid (HU6.out.kp (Kp.below hb7))
      have hz7 : bx + 2 ≤ w7.heap.size := Nat.le_trans hz6 hb7.size
      have HW7 := Lib.hid hw7
      have hl7 : w7.cell? ⟨lb, 0, none⟩ = some (.int .u8 2) := (hb7.cell (p := ⟨lb, 0, none⟩) (lt_of_cell (hl_ w6 hrk))).trans (hl_ w6 hrk)
      have HIN := Lib.hid (insert_one lb w6.heap.size w7 hl7 h71)
      clear hst hrk hx hw7
      go_wp2_with fail
      rw [HW7.out]
      refine HIN.out.mono ?_; rintro x w8 ⟨g8, cap8, rfl, ho8, hg8⟩
      have hb8 : Below w7.heap.size w7 w8 := hg8
      have HL8 := Lib.hid (HL7.out.below hb8)
      have HR8 := Lib.hid (HR7.out.trans (RK.of_below hb8 HL7.out.lt))
      have HT8 := Lib.hid ((hb8.block _ (heap_lt HT7.out)).trans HT7.out)
      have HU8 := Lib.hid (HU7.out.kp (Kp.below hb8))
      have HO8 : Hid (BytW (bx + 2) (.slice (some ⟨g8, 0, none⟩) 2 cap8) [1, 2] w8) := Lib.hid ⟨ho8.less hz7, fun e => by cases e⟩
      have hz8 : bx + 2 ≤ w8.heap.size := Nat.le_trans hz7 hb8.size
      obtain ⟨t0, t1, z0, z1⟩ := ref_cells HT8.out
      clear ho8 hg8 hb8 HIN HW7
      go_wp2_with (at_builtin; refine wpList_pushW rfl _ _ rfl (bx + 2) (.slice (some ⟨g8, 0, none⟩) 2 cap8) [1, 2] rfl HO8.out (bx + 2) (.slice ua un uc) ws rfl HU8.out (by simp only [List.length_cons, List.length_nil]; omega) hz8 ?_)
      intro v' w9 ho9 hg9
      have hob : ∀ j, Value.ownBlock (.slice (some ⟨g8, 0, none⟩) 2 cap8) = some j → bx + 2 ≤ j := fun j hj => (HO8.out.1.lt j hj)
      have HL9 := Lib.hid (HL8.out.grown_ hg9 (fun j hj => by have := hob j hj; omega))
      have HR9 := Lib.hid (RK.grown HR8.out hg9 (fun j hj => by have := hob j hj; omega) hpl)
      have hT9 := (hg9.block (bx + 1) (heap_lt HT8.out) (fun e => by have := hob (bx + 1) e.symm; omega)).trans HT8.out
      have HT9 := Lib.hid hT9
      have HO9 := Lib.hid ho9
      obtain ⟨a9, n9, c9, rfl⟩ := ho9.form
      obtain ⟨q0, q1, y0, y1⟩ := ref_cells hT9
      clear ho9 hg9 hT9 t0 t1 z0 z1
      go_wp2_with fail
      obtain ⟨wf, hwf⟩ : ∃ wf, ((w9.setCell ⟨bx + 1, 1, none⟩ (.slice a9 n9 c9)).setCell ⟨bx + 1, 0, none⟩ (.string nb)).setCell ⟨bx + 1, 1, none⟩ (.slice a9 n9 c9) = wf := ⟨_, rfl⟩
      obtain ⟨r1, r2, r3, r4, r5⟩ := ty_fin HL9.out HR9.out HO9.out HT9.out hbx hpb wf hwf
      rw [hwf]
      clear hwf q0 q1 y0 y1
      refine bodyPost_ret (by simp [results, Tryz.results53, go_sem, r4, r5]; try rfl) rfl ?_
      rw [← HZ.out]
      exact ⟨_, by rw [HNB.out], r3, r1, r2⟩
theorem l_typ_any : ∀ f : Nat, f ≤ 100 → LTypSpec f
  | 0, _ => fun p tb off cap T fx a kk v W hk hf h ha => by omega
  | f + 1, hf100 => fun p tb off cap T fx a kk v W hk hf h ha => by
    have ih := l_typ_any f (by omega)
    unfold typG typH
    cases hw : wrapP T kk a [91] with
    | error e => exact l_typ_err p tb off cap T fx a kk v W hk h ha e (Lib.hid hw)
    | ok o =>
      cases o with
      | none =>
        dsimp only
        cases hn : namP [] T a with
        | error e => exact l_typ_noname p tb off cap T fx a kk v W hk h ha e (Lib.hid hw) hn
        | ok s => exact l_typ_name p tb off cap T fx a kk v W hk h ha s (Lib.hid hw) hn
      | some k1 =>
        obtain ⟨e1, e2, e3⟩ := wrapP_some hw
        dsimp only
        have HREC := fun W' (hW : LS p tb off cap T fx (a + 1) (k1 : Int) v W') => ih p tb off cap T fx (a + 1) k1 v W' (by omega) (by omega) hW (by omega)
        cases hi : typG T f k1 (a + 1) with
        | error e =>
          rw [hi] at HREC
          exact l_typ_inner p tb off cap T fx a kk v W hk h ha k1 e (Lib.hid hw) (Lib.hid HREC)
        | ok y =>
          obtain ⟨k2, a2, nm, ws⟩ := y
          have hon := typG_on T f k1 (a + 1) _ hi (by omega)
          rw [hi] at HREC
          dsimp only at hon ⊢
          cases hm : mrkP T a2 [93] with
          | false => exact l_typ_open p tb off cap T fx a kk v W hk h ha k1 k2 a2 nm ws (Lib.hid hw) (by omega) hm (Lib.hid HREC)
          | true => exact l_typ_list p tb off cap T fx a kk v W hk h ha k1 k2 a2 nm ws (Lib.hid hw) (by omega) (by omega) (by omega) hm (Lib.hid HREC)
end Go.Proofs.YtgaknbnhmoddcaaGreatDoor
namespace Go.Proofs.YtgaknbnhmoddcaaGreatDoor
open Go.RowKit Go.Lib
theorem lcatch_idle_a (q1 q2 q3 : Addr) (w : World) :
    CallsD Tryz.prog 89 #[.pointer (some q1), .pointer (some q2), .pointer (some q3)] .returning w fun e u' w' => e = .returned (.tuple #[]) ∧ u' = .returning ∧ w' = w := by
  refine callsD_of_wpS Tryz.func89 rfl fun c₀ cs hu => ?_
  apply wpS_seq
  apply wpS_region
  simp [wpOpsS, go_sem, recoverD, hu, Tryz.ntmps89, Exit.thenS]
  refine wpS_of_wp ?_
  simp only [List.replicate_succ, List.replicate_zero, Array.replicate, List.setIfInBounds_toArray, List.set_cons_zero, List.set_cons_succ, List.append_toArray, List.cons_append, List.nil_append]
  go_wp2_with fail
  cases c₀
  simp_all [bodyPostS, results, Tryz.results89]
set_option maxRecDepth 100000 in
theorem lcatch_panicking_a (b1 b2 b3 : Nat) (x1 : Value) (x2 x3 : Int) (e : ErrP) (older : List PanicEntry) (w : World) (n12 : b1 < b2) (n23 : b2 < b3) (h1 : w.cell? ⟨b1, 0, none⟩ = some x1) (h2 : w.cell? ⟨b2, 0, none⟩ = some (.int .i64 x2)) (h3 : w.cell? ⟨b3, 0, none⟩ = some (.int .i64 x3)) (z1 : w.frozen? ⟨b1, 0, none⟩ = false) (z2 : w.frozen? ⟨b2, 0, none⟩ = false) (z3 : w.frozen? ⟨b3, 0, none⟩ = false) :
    CallsD Tryz.prog 89 #[.pointer (some ⟨b1, 0, none⟩), .pointer (some ⟨b2, 0, none⟩), .pointer (some ⟨b3, 0, none⟩)] (.panicking ({ v := .iface 143 (.agg #[.int .i64 e.1, .int .i64 e.2]), recovered := false } :: older)) w fun e' u' w' =>
      e' = .returned (.tuple #[]) ∧ u' = .panicking ({ v := .iface 143 (.agg #[.int .i64 e.1, .int .i64 e.2]), recovered := true } :: older) ∧ w'.cell? ⟨b1, 0, none⟩ = some (.slice none 0 0) ∧ w'.cell? ⟨b2, 0, none⟩ = some (.int .i64 e.2) ∧ w'.cell? ⟨b3, 0, none⟩ = some (.int .i64 e.1) ∧ ∀ B, B ≤ b1 → B ≤ w.heap.size → Below B w w' := by
  obtain ⟨e1, e2⟩ := e
  obtain ⟨j2, hj2⟩ : ∃ j2 : Int, (e2 : Int) = j2 := ⟨_, rfl⟩
  simp only [hj2]
  have hta : ∀ w, (Instr.typeAssert (.iface 143 (.agg #[.int .i64 e1, .int .i64 j2])) 20 143 false).run Tryz.prog w = .ok (.agg #[.int .i64 e1, .int .i64 j2]) w := fun w => by kernel_rfl
  have hf0 : ∀ w, (Instr.field 143 (.agg #[.int .i64 e1, .int .i64 j2]) 0).run Tryz.prog w = .ok (.int .i64 e1) w := fun w => by kernel_rfl
  have hf1 : ∀ w, (Instr.field 143 (.agg #[.int .i64 e1, .int .i64 j2]) 1).run Tryz.prog w = .ok (.int .i64 j2) w := fun w => by kernel_rfl
  refine callsD_of_wpS Tryz.func89 rfl fun c₀ cs hu => ?_
  apply wpS_seq
  apply wpS_region
  simp [wpOpsS, go_sem, recoverD, hu, Tryz.ntmps89, Exit.thenS]
  refine wpS_of_wp ?_
  simp only [List.replicate_succ, List.replicate_zero, Array.replicate, List.setIfInBounds_toArray, List.set_cons_zero, List.set_cons_succ, List.append_toArray, List.cons_append, List.nil_append]
  go_wp2_with fail
  have k12 : ¬ b1 = b2 := by omega
  have k13 : ¬ b1 = b3 := by omega
  have k23 : ¬ b2 = b3 := by omega
  have k21 : ¬ b2 = b1 := by omega
  have k31 : ¬ b3 = b1 := by omega
  have k32 : ¬ b3 = b2 := by omega
  have HFIN : Hid (∀ wf, wf = (((w.setCell ⟨b1, 0, none⟩ (.slice none 0 0)).setCell ⟨b2, 0, none⟩ (.int .i64 j2)).setCell ⟨b3, 0, none⟩ (.int .i64 e1)).drew → wf.cell? ⟨b1, 0, none⟩ = some (.slice none 0 0) ∧ wf.cell? ⟨b2, 0, none⟩ = some (.int .i64 j2) ∧ wf.cell? ⟨b3, 0, none⟩ = some (.int .i64 e1) ∧ ∀ B, B ≤ b1 → B ≤ w.heap.size → Below B w wf) := Lib.hid (by
    rintro wf rfl
    have m2 : (w.setCell ⟨b1, 0, none⟩ (.slice none 0 0)).cell? ⟨b2, 0, none⟩ = some (.int .i64 x2) := by
      rw [World.cell?_setCell_other _ _ _ _ (by intro h; injection h with h; omega)]; exact h2
    have m3 : ((w.setCell ⟨b1, 0, none⟩ (.slice none 0 0)).setCell ⟨b2, 0, none⟩ (.int .i64 j2)).cell? ⟨b3, 0, none⟩ = some (.int .i64 x3) := by
      rw [World.cell?_setCell_other _ _ _ _ (by intro h; injection h with h; omega), World.cell?_setCell_other _ _ _ _ (by intro h; injection h with h; omega)]; exact h3
    refine ⟨?_, ?_, ?_, fun B p1 p0 => ?_⟩
    · show (((w.setCell ⟨b1, 0, none⟩ (.slice none 0 0)).setCell ⟨b2, 0, none⟩ (.int .i64 j2)).setCell ⟨b3, 0, none⟩ (.int .i64 e1)).cell? ⟨b1, 0, none⟩ = _
      rw [World.cell?_setCell_other _ _ _ _ (by intro h; injection h with h; omega), World.cell?_setCell_other _ _ _ _ (by intro h; injection h with h; omega)]
      exact World.cell?_setCell_same _ _ _ h1
    · show (((w.setCell ⟨b1, 0, none⟩ (.slice none 0 0)).setCell ⟨b2, 0, none⟩ (.int .i64 j2)).setCell ⟨b3, 0, none⟩ (.int .i64 e1)).cell? ⟨b2, 0, none⟩ = _
      rw [World.cell?_setCell_other _ _ _ _ (by intro h; injection h with h; omega)]
      exact World.cell?_setCell_same _ _ _ m2
    · show (((w.setCell ⟨b1, 0, none⟩ (.slice none 0 0)).setCell ⟨b2, 0, none⟩ (.int .i64 j2)).setCell ⟨b3, 0, none⟩ (.int .i64 e1)).cell? ⟨b3, 0, none⟩ = _
      exact World.cell?_setCell_same _ _ _ m3
    · exact (((((Below.refl B w)).setCell (p := ⟨b1, 0, none⟩) p1 _).setCell (p := ⟨b2, 0, none⟩) (by show B ≤ b2; omega) _).setCell (p := ⟨b3, 0, none⟩) (by show B ≤ b3; omega) _).drew)
  go_region
  clear h1 h2 h3 z1 z2 z3 k12 k13 k23 k21 k31 k32 hta hf0 hf1
  go_wp2_with fail
  cases c₀
  simp only at hu
  subst hu
  simp [bodyPostS, results, Tryz.results89]
  exact HFIN.out _ rfl
set_option maxRecDepth 100000 in
set_option maxHeartbeats 4000000 in
theorem lread_go_a {α : Type} {tb off cap : Nat} {T : List Tok} {fx : Bool} {k : Nat} (w : World) (hr : TokRow tb off T w) (htb : tb < w.heap.size) (hT : T.length ≤ 100000 ∧ ∀ t ∈ T, t.text.length ≤ 100000) (hk : k < T.length)
    (R : Except ErrP (Nat × α)) (G : α → Value → World → Prop) (hG : ∀ y u W W' q, q ≤ w.heap.size + 2 → RK q W W' → G y u W → G y u W')
    (hdo : ∀ W, LS (w.heap.size + 3) tb off cap T fx k 0 (.slice none 0 0) W → Below w.heap.size w W → Calls Tryz.prog 57 #[.pointer (some ⟨w.heap.size + 3, 0, none⟩)] W (DoV (w.heap.size + 3) tb off cap T fx R G W)) :
    Calls Tryz.prog 56 #[.slice (some ⟨tb, off, none⟩) T.length cap, .int .i64 (k : Int), .bool fx, .func (.func 57) #[] #[]] w fun x w' => ReadV R G x w' ∧ Below w.heap.size w w' := by
  have HDO := Lib.hid hdo
  have HG := Lib.hid hG
  have HR := Lib.hid hr
  have hT1 := hT.1
  have HT := Lib.hid hT
  have hT0 : T.length ≤ 9223372036854775807 := by omega
  have hnk : ¬ (T.length : Int) ≤ (k : Int) := by omega
  have hk0 : ¬ (k : Int) < 0 := by omega
  have hmf : ∀ (fn : Fn) (first cap : Array Value) (w : World), (Instr.makeFunc fn first cap).run Tryz.prog w = .ok (.func fn first cap) w := fun _ _ _ _ => rfl
  have hent := enters_of Tryz.func57 (by kernel_rfl) rfl
  clear hdo hG hr hT
  go_enter_defers Tryz.func56, Tryz.ntmps56
  go_wp2_with fail
  obtain ⟨w2, hw2⟩ : ∃ w2, ((((w.alloc (.cells #[.slice none 0 0] 26 (0, 0))).alloc (.cells #[.int .i64 0] 3 (0, 0))).alloc (.cells #[.int .i64 0] 33 (0, 0))).alloc (.cells #[.slice (some ⟨tb, off, none⟩) T.length cap, .int .i64 (k : Int), .bool fx, .int .i64 0, .slice none 0 0] 147 (0, 0))) = w2 := ⟨_, rfl⟩
  have hw2d := hw2
  rw [hw2]
  have ha1 : w2.heap[w.heap.size]? = some (.cells #[.slice none 0 0] 26 (0, 0)) := by rw [← hw2d]; exact heap_old (heap_old (heap_old (heap_new _ _ _ rfl)))
  have ha2 : w2.heap[w.heap.size + 1]? = some (.cells #[.int .i64 0] 3 (0, 0)) := by rw [← hw2d]; exact heap_old (heap_old (heap_new _ _ _ (by simp)))
  have ha3 : w2.heap[w.heap.size + 1 + 1]? = some (.cells #[.int .i64 0] 33 (0, 0)) := by rw [← hw2d]; exact heap_old (heap_new _ _ _ (by simp))
  have hap : w2.heap[w.heap.size + 3]? = some (.cells #[.slice (some ⟨tb, off, none⟩) T.length cap, .int .i64 (k : Int), .bool fx, .int .i64 0, .slice none 0 0] 147 (0, 0)) := by rw [← hw2d]; exact heap_new _ _ _ (by simp)
  have hbw : Below w.heap.size w w2 := by
    rw [← hw2d]
    exact ((((Below.refl _ _).alloc (Nat.le_refl _) _).alloc (by simp) _).alloc (by simp; omega) _).alloc (by simp; omega) _
  have HLS : Hid (LS (w.heap.size + 3) tb off cap T fx k 0 (.slice none 0 0) w2) := Lib.hid ⟨hap, HR.out.below hbw htb, by omega, HT.out, by omega⟩
  have HBW := Lib.hid hbw
  have HA1 := Lib.hid ha1
  have HA2 := Lib.hid ha2
  have HA3 := Lib.hid ha3
  clear ha1 ha2 ha3 hap hbw hw2 hw2d
  refine (HDO.out w2 HLS.out HBW.out).mono ?_; rintro x w3 hx
  have HX := Lib.hid hx
  clear hx
  cases R with
  | error e =>
    obtain ⟨hxe, hb3⟩ : x = .panicked (stopP e) ∧ Below (w.heap.size + 3) w2 w3 := HX.out
    have HZ1 : Hid (w3.heap[w.heap.size]? = some (.cells #[.slice none 0 0] 26 (0, 0))) := Lib.hid ((hb3.block _ (by omega)).trans HA1.out)
    have HZ2 : Hid (w3.heap[w.heap.size + 1]? = some (.cells #[.int .i64 0] 3 (0, 0))) := Lib.hid ((hb3.block _ (by omega)).trans HA2.out)
    have HZ3 : Hid (w3.heap[w.heap.size + 1 + 1]? = some (.cells #[.int .i64 0] 33 (0, 0))) := Lib.hid ((hb3.block _ (by omega)).trans HA3.out)
    have HBZ : Hid (Below w.heap.size w w3) := Lib.hid (HBW.out.trans (hb3.mono (by omega)))
    clear hb3 HX
    subst hxe
    go_wp2_with fail
    refine leaves_cons (f := 89) (args := #[.pointer (some ⟨w.heap.size, 0, none⟩), .pointer (some ⟨w.heap.size + 1, 0, none⟩), .pointer (some ⟨w.heap.size + 1 + 1, 0, none⟩)]) (by simp) (by simp [go_sem]) ?_
    refine (lcatch_panicking_a w.heap.size (w.heap.size + 1) (w.heap.size + 1 + 1) (.slice none 0 0) 0 0 e [] _ (by omega) (by omega) (Lib.cell_of_heap HZ1.out 0) (Lib.cell_of_heap HZ2.out 0) (Lib.cell_of_heap HZ3.out 0) (Lib.frozen_of_heap HZ1.out 0) (Lib.frozen_of_heap HZ2.out 0) (Lib.frozen_of_heap HZ3.out 0)).mono ?_
    rintro x u wf ⟨rfl, rfl, m0, m1, m2, hbf⟩
    have HBF : Hid (Below w.heap.size w wf) := Lib.hid (HBZ.out.trans (hbf _ (Nat.le_refl _) HBZ.out.size))
    clear hbf
    simp [Leaves, settle, results, Tryz.results56, go_sem, m0, m1, m2]
    exact ⟨rfl, HBF.out⟩
  | ok ky =>
    obtain ⟨k', y⟩ := ky
    obtain ⟨av, nv, cv, op', v', hxe, hg, hls, hrk⟩ : ∃ a n c op v, x = .returned (.slice a n c) ∧ G y (.slice a n c) w3 ∧ LS (w.heap.size + 3) tb off cap T fx k' op v w3 ∧ RK (w.heap.size + 3) w2 w3 := HX.out
    have HZ1 : Hid (w3.heap[w.heap.size]? = some (.cells #[.slice none 0 0] 26 (0, 0))) := Lib.hid (hrk.2 _ _ HA1.out (by omega))
    have HZ2 : Hid (w3.heap[w.heap.size + 1]? = some (.cells #[.int .i64 0] 3 (0, 0))) := Lib.hid (hrk.2 _ _ HA2.out (by omega))
    have HZ3 : Hid (w3.heap[w.heap.size + 1 + 1]? = some (.cells #[.int .i64 0] 33 (0, 0))) := Lib.hid (hrk.2 _ _ HA3.out (by omega))
    have HBZ : Hid (Below w.heap.size w w3) := Lib.hid (HBW.out.trans (hrk.1.mono (by omega)))
    have HGG := Lib.hid hg
    have HL3 := Lib.hid hls
    clear hg hls hrk HX
    subst hxe
    have d0 : w3.cell? ⟨w.heap.size, 0, none⟩ = some (.slice none 0 0) := Lib.cell_of_heap HZ1.out 0
    have d1 : w3.cell? ⟨w.heap.size + 1, 0, none⟩ = some (.int .i64 0) := Lib.cell_of_heap HZ2.out 0
    have d2 : w3.cell? ⟨w.heap.size + 1 + 1, 0, none⟩ = some (.int .i64 0) := Lib.cell_of_heap HZ3.out 0
    have z0 : w3.frozen? ⟨w.heap.size, 0, none⟩ = false := Lib.frozen_of_heap HZ1.out 0
    have z1 : w3.frozen? ⟨w.heap.size + 1, 0, none⟩ = false := Lib.frozen_of_heap HZ2.out 0
    have z2 : w3.frozen? ⟨w.heap.size + 1 + 1, 0, none⟩ = false := Lib.frozen_of_heap HZ3.out 0
    obtain ⟨c0, c1, c2, c3, c4⟩ := HL3.out.cells
    go_upto_region 6 with fail
    go_region
    obtain ⟨wa, hwa⟩ : ∃ wa, w3.setCell ⟨w.heap.size, 0, none⟩ (.slice av nv cv) = wa := ⟨_, rfl⟩
    obtain ⟨wb, hwb⟩ : ∃ wb, wa.setCell ⟨w.heap.size, 0, none⟩ (.slice av nv cv) = wb := ⟨_, rfl⟩
    obtain ⟨wc, hwc⟩ : ∃ wc, wb.setCell ⟨w.heap.size + 1, 0, none⟩ (.int .i64 (k' : Int)) = wc := ⟨_, rfl⟩
    obtain ⟨wd, hwd⟩ : ∃ wd, wc.setCell ⟨w.heap.size + 1 + 1, 0, none⟩ (.int .i64 0) = wd := ⟨_, rfl⟩
    obtain ⟨wf, hwf⟩ : ∃ wf, wd.drew = wf := ⟨_, rfl⟩
    rw [hwa, hwb, hwc, hwd, hwf]
    have HF : Hid (Below w.heap.size w wf) := Lib.hid (by
      rw [← hwf, ← hwd, ← hwc, ← hwb, ← hwa]
      exact ((((HBZ.out.setCell (p := ⟨w.heap.size, 0, none⟩) (Nat.le_refl _) _).setCell (p := ⟨w.heap.size, 0, none⟩) (Nat.le_refl _) _).setCell (p := ⟨w.heap.size + 1, 0, none⟩) (by show w.heap.size ≤ w.heap.size + 1; omega) _).setCell (p := ⟨w.heap.size + 1 + 1, 0, none⟩) (by show w.heap.size ≤ w.heap.size + 1 + 1; omega) _).drew)
    have HGF : Hid (G y (.slice av nv cv) wf) := Lib.hid (by
      have g1 := HG.out _ _ _ _ w.heap.size (by omega) (RK.set w.heap.size 0 w3 (.slice av nv cv)) HGG.out
      rw [hwa] at g1
      have g2 := HG.out _ _ _ _ w.heap.size (by omega) (RK.set w.heap.size 0 wa (.slice av nv cv)) g1
      rw [hwb] at g2
      have g3 := HG.out _ _ _ _ (w.heap.size + 1) (by omega) (RK.set (w.heap.size + 1) 0 wb (.int .i64 (k' : Int))) g2
      rw [hwc] at g3
      have g4 := HG.out _ _ _ _ (w.heap.size + 1 + 1) (by omega) (RK.set (w.heap.size + 1 + 1) 0 wc (.int .i64 0)) g3
      rw [hwd] at g4
      have hne : wd.heap.size ≠ 0 := by
        have h1 := heap_lt HZ1.out
        rw [← hwd, ← hwc, ← hwb, ← hwa]
        simp only [World.size_setCell]
        omega
      have g5 := HG.out _ _ wd wf w.heap.size (by omega) ⟨by rw [← hwf]; exact (Below.refl _ _).drew, fun k o hk _ => by rw [← hwf]; exact hk⟩ g4
      exact g5)
    have m0 : wf.cell? ⟨w.heap.size, 0, none⟩ = some (.slice av nv cv) := by
      rw [← hwf]
      show wd.cell? _ = _
      rw [← hwd, World.cell?_setCell_other _ _ _ _ (by intro h; injection h with h; omega), ← hwc, World.cell?_setCell_other _ _ _ _ (by intro h; injection h with h; omega), ← hwb]
      have e1 : wa.cell? ⟨w.heap.size, 0, none⟩ = some (.slice av nv cv) := by rw [← hwa]; exact World.cell?_setCell_same _ _ _ d0
      exact World.cell?_setCell_same _ _ _ e1
    have m1 : wf.cell? ⟨w.heap.size + 1, 0, none⟩ = some (.int .i64 (k' : Int)) := by
      rw [← hwf]
      show wd.cell? _ = _
      have e1 : wb.cell? ⟨w.heap.size + 1, 0, none⟩ = some (.int .i64 0) := by
        rw [← hwb, World.cell?_setCell_other _ _ _ _ (by intro h; injection h with h; omega), ← hwa, World.cell?_setCell_other _ _ _ _ (by intro h; injection h with h; omega)]; exact d1
      rw [← hwd, World.cell?_setCell_other _ _ _ _ (by intro h; injection h with h; omega), ← hwc]
      exact World.cell?_setCell_same _ _ _ e1
    have m2 : wf.cell? ⟨w.heap.size + 1 + 1, 0, none⟩ = some (.int .i64 0) := by
      rw [← hwf]
      show wd.cell? _ = _
      have e1 : wc.cell? ⟨w.heap.size + 1 + 1, 0, none⟩ = some (.int .i64 0) := by
        rw [← hwc, World.cell?_setCell_other _ _ _ _ (by intro h; injection h with h; omega), ← hwb, World.cell?_setCell_other _ _ _ _ (by intro h; injection h with h; omega), ← hwa, World.cell?_setCell_other _ _ _ _ (by intro h; injection h with h; omega)]; exact d2
      rw [← hwd]
      exact World.cell?_setCell_same _ _ _ e1
    clear hwa hwb hwc hwd hwf d0 d1 d2 z0 z1 z2 c0 c1 c2 c3 c4
    go_wp2_with fail
    refine leaves_cons (f := 89) (args := #[.pointer (some ⟨w.heap.size, 0, none⟩), .pointer (some ⟨w.heap.size + 1, 0, none⟩), .pointer (some ⟨w.heap.size + 1 + 1, 0, none⟩)]) (by simp) (by simp [go_sem]) ?_
    refine (lcatch_idle_a ⟨w.heap.size, 0, none⟩ ⟨w.heap.size + 1, 0, none⟩ ⟨w.heap.size + 1 + 1, 0, none⟩ _).mono ?_
    rintro x u wg ⟨rfl, rfl, rfl⟩
    simp [Leaves, settle, results, Tryz.results56, go_sem, m0, m1, m2]
    exact ⟨⟨av, nv, cv, rfl, HGF.out⟩, HF.out⟩
end Go.Proofs.YtgaknbnhmoddcaaGreatDoor
namespace Go.Proofs.YtgaknbnhmoddcaaGreatDoor
open Go.RowKit Go.Lib
theorem lcatch_idle_d (q1 q2 q3 : Addr) (w : World) :
    CallsD Tryz.prog 88 #[.pointer (some q1), .pointer (some q2), .pointer (some q3)] .returning w fun e u' w' => e = .returned (.tuple #[]) ∧ u' = .returning ∧ w' = w := by
  refine callsD_of_wpS Tryz.func88 rfl fun c₀ cs hu => ?_
  apply wpS_seq
  apply wpS_region
  simp [wpOpsS, go_sem, recoverD, hu, Tryz.ntmps88, Exit.thenS]
  refine wpS_of_wp ?_
  simp only [List.replicate_succ, List.replicate_zero, Array.replicate, List.setIfInBounds_toArray, List.set_cons_zero, List.set_cons_succ, List.append_toArray, List.cons_append, List.nil_append]
  go_wp2_with fail
  cases c₀
  simp_all [bodyPostS, results, Tryz.results88]
set_option maxRecDepth 100000 in
theorem lcatch_panicking_d (b1 b2 b3 : Nat) (x1 : Value) (x2 x3 : Int) (e : ErrP) (older : List PanicEntry) (w : World) (n12 : b1 < b2) (n23 : b2 < b3) (h1 : w.cell? ⟨b1, 0, none⟩ = some x1) (h2 : w.cell? ⟨b2, 0, none⟩ = some (.int .i64 x2)) (h3 : w.cell? ⟨b3, 0, none⟩ = some (.int .i64 x3)) (z1 : w.frozen? ⟨b1, 0, none⟩ = false) (z2 : w.frozen? ⟨b2, 0, none⟩ = false) (z3 : w.frozen? ⟨b3, 0, none⟩ = false) :
    CallsD Tryz.prog 88 #[.pointer (some ⟨b1, 0, none⟩), .pointer (some ⟨b2, 0, none⟩), .pointer (some ⟨b3, 0, none⟩)] (.panicking ({ v := .iface 143 (.agg #[.int .i64 e.1, .int .i64 e.2]), recovered := false } :: older)) w fun e' u' w' =>
      e' = .returned (.tuple #[]) ∧ u' = .panicking ({ v := .iface 143 (.agg #[.int .i64 e.1, .int .i64 e.2]), recovered := true } :: older) ∧ w'.cell? ⟨b1, 0, none⟩ = some (.slice none 0 0) ∧ w'.cell? ⟨b2, 0, none⟩ = some (.int .i64 e.2) ∧ w'.cell? ⟨b3, 0, none⟩ = some (.int .i64 e.1) ∧ ∀ B, B ≤ b1 → B ≤ w.heap.size → Below B w w' := by
  obtain ⟨e1, e2⟩ := e
  obtain ⟨j2, hj2⟩ : ∃ j2 : Int, (e2 : Int) = j2 := ⟨_, rfl⟩
  simp only [hj2]
  have hta : ∀ w, (Instr.typeAssert (.iface 143 (.agg #[.int .i64 e1, .int .i64 j2])) 20 143 false).run Tryz.prog w = .ok (.agg #[.int .i64 e1, .int .i64 j2]) w := fun w => by kernel_rfl
  have hf0 : ∀ w, (Instr.field 143 (.agg #[.int .i64 e1, .int .i64 j2]) 0).run Tryz.prog w = .ok (.int .i64 e1) w := fun w => by kernel_rfl
  have hf1 : ∀ w, (Instr.field 143 (.agg #[.int .i64 e1, .int .i64 j2]) 1).run Tryz.prog w = .ok (.int .i64 j2) w := fun w => by kernel_rfl
  refine callsD_of_wpS Tryz.func88 rfl fun c₀ cs hu => ?_
  apply wpS_seq
  apply wpS_region
  simp [wpOpsS, go_sem, recoverD, hu, Tryz.ntmps88, Exit.thenS]
  refine wpS_of_wp ?_
  simp only [List.replicate_succ, List.replicate_zero, Array.replicate, List.setIfInBounds_toArray, List.set_cons_zero, List.set_cons_succ, List.append_toArray, List.cons_append, List.nil_append]
  go_wp2_with fail
  have k12 : ¬ b1 = b2 := by omega
  have k13 : ¬ b1 = b3 := by omega
  have k23 : ¬ b2 = b3 := by omega
  have k21 : ¬ b2 = b1 := by omega
  have k31 : ¬ b3 = b1 := by omega
  have k32 : ¬ b3 = b2 := by omega
  have HFIN : Hid (∀ wf, wf = (((w.setCell ⟨b1, 0, none⟩ (.slice none 0 0)).setCell ⟨b2, 0, none⟩ (.int .i64 j2)).setCell ⟨b3, 0, none⟩ (.int .i64 e1)).drew → wf.cell? ⟨b1, 0, none⟩ = some (.slice none 0 0) ∧ wf.cell? ⟨b2, 0, none⟩ = some (.int .i64 j2) ∧ wf.cell? ⟨b3, 0, none⟩ = some (.int .i64 e1) ∧ ∀ B, B ≤ b1 → B ≤ w.heap.size → Below B w wf) := Lib.hid (by
    rintro wf rfl
    have m2 : (w.setCell ⟨b1, 0, none⟩ (.slice none 0 0)).cell? ⟨b2, 0, none⟩ = some (.int .i64 x2) := by
      rw [World.cell?_setCell_other _ _ _ _ (by intro h; injection h with h; omega)]; exact h2
    have m3 : ((w.setCell ⟨b1, 0, none⟩ (.slice none 0 0)).setCell ⟨b2, 0, none⟩ (.int .i64 j2)).cell? ⟨b3, 0, none⟩ = some (.int .i64 x3) := by
      rw [World.cell?_setCell_other _ _ _ _ (by intro h; injection h with h; omega), World.cell?_setCell_other _ _ _ _ (by intro h; injection h with h; omega)]; exact h3
    refine ⟨?_, ?_, ?_, fun B p1 p0 => ?_⟩
    · show (((w.setCell ⟨b1, 0, none⟩ (.slice none 0 0)).setCell ⟨b2, 0, none⟩ (.int .i64 j2)).setCell ⟨b3, 0, none⟩ (.int .i64 e1)).cell? ⟨b1, 0, none⟩ = _
      rw [World.cell?_setCell_other _ _ _ _ (by intro h; injection h with h; omega), World.cell?_setCell_other _ _ _ _ (by intro h; injection h with h; omega)]
      exact World.cell?_setCell_same _ _ _ h1
    · show (((w.setCell ⟨b1, 0, none⟩ (.slice none 0 0)).setCell ⟨b2, 0, none⟩ (.int .i64 j2)).setCell ⟨b3, 0, none⟩ (.int .i64 e1)).cell? ⟨b2, 0, none⟩ = _
      rw [World.cell?_setCell_other _ _ _ _ (by intro h; injection h with h; omega)]
      exact World.cell?_setCell_same _ _ _ m2
    · show (((w.setCell ⟨b1, 0, none⟩ (.slice none 0 0)).setCell ⟨b2, 0, none⟩ (.int .i64 j2)).setCell ⟨b3, 0, none⟩ (.int .i64 e1)).cell? ⟨b3, 0, none⟩ = _
      exact World.cell?_setCell_same _ _ _ m3
    · exact (((((Below.refl B w)).setCell (p := ⟨b1, 0, none⟩) p1 _).setCell (p := ⟨b2, 0, none⟩) (by show B ≤ b2; omega) _).setCell (p := ⟨b3, 0, none⟩) (by show B ≤ b3; omega) _).drew)
  go_region
  clear h1 h2 h3 z1 z2 z3 k12 k13 k23 k21 k31 k32 hta hf0 hf1
  go_wp2_with fail
  cases c₀
  simp only at hu
  subst hu
  simp [bodyPostS, results, Tryz.results88]
  exact HFIN.out _ rfl
set_option maxRecDepth 100000 in
set_option maxHeartbeats 4000000 in
theorem lread_go_d {α : Type} {tb off cap : Nat} {T : List Tok} {fx : Bool} {k : Nat} (w : World) (hr : TokRow tb off T w) (htb : tb < w.heap.size) (hT : T.length ≤ 100000 ∧ ∀ t ∈ T, t.text.length ≤ 100000) (hk : k < T.length)
    (R : Except ErrP (Nat × α)) (G : α → Value → World → Prop) (hG : ∀ y u W W' q, q ≤ w.heap.size + 2 → RK q W W' → G y u W → G y u W')
    (hdo : ∀ W, LS (w.heap.size + 3) tb off cap T fx k 0 (.slice none 0 0) W → Below w.heap.size w W → Calls Tryz.prog 55 #[.pointer (some ⟨w.heap.size + 3, 0, none⟩)] W (DoV (w.heap.size + 3) tb off cap T fx R G W)) :
    Calls Tryz.prog 54 #[.slice (some ⟨tb, off, none⟩) T.length cap, .int .i64 (k : Int), .bool fx, .func (.func 55) #[] #[]] w fun x w' => ReadV R G x w' ∧ Below w.heap.size w w' := by
  have HDO := Lib.hid hdo
  have HG := Lib.hid hG
  have HR := Lib.hid hr
  have hT1 := hT.1
  have HT := Lib.hid hT
  have hT0 : T.length ≤ 9223372036854775807 := by omega
  have hnk : ¬ (T.length : Int) ≤ (k : Int) := by omega
  have hk0 : ¬ (k : Int) < 0 := by omega
  have hmf : ∀ (fn : Fn) (first cap : Array Value) (w : World), (Instr.makeFunc fn first cap).run Tryz.prog w = .ok (.func fn first cap) w := fun _ _ _ _ => rfl
  have hent := enters_of Tryz.func55 (by kernel_rfl) rfl
  clear hdo hG hr hT
  go_enter_defers Tryz.func54, Tryz.ntmps54
  go_wp2_with fail
  obtain ⟨w2, hw2⟩ : ∃ w2, ((((w.alloc (.cells #[.slice none 0 0] 27 (0, 0))).alloc (.cells #[.int .i64 0] 3 (0, 0))).alloc (.cells #[.int .i64 0] 33 (0, 0))).alloc (.cells #[.slice (some ⟨tb, off, none⟩) T.length cap, .int .i64 (k : Int), .bool fx, .int .i64 0, .slice none 0 0] 147 (0, 0))) = w2 := ⟨_, rfl⟩
  have hw2d := hw2
  rw [hw2]
  have ha1 : w2.heap[w.heap.size]? = some (.cells #[.slice none 0 0] 27 (0, 0)) := by rw [← hw2d]; exact heap_old (heap_old (heap_old (heap_new _ _ _ rfl)))
  have ha2 : w2.heap[w.heap.size + 1]? = some (.cells #[.int .i64 0] 3 (0, 0)) := by rw [← hw2d]; exact heap_old (heap_old (heap_new _ _ _ (by simp)))
  have ha3 : w2.heap[w.heap.size + 1 + 1]? = some (.cells #[.int .i64 0] 33 (0, 0)) := by rw [← hw2d]; exact heap_old (heap_new _ _ _ (by simp))
  have hap : w2.heap[w.heap.size + 3]? = some (.cells #[.slice (some ⟨tb, off, none⟩) T.length cap, .int .i64 (k : Int), .bool fx, .int .i64 0, .slice none 0 0] 147 (0, 0)) := by rw [← hw2d]; exact heap_new _ _ _ (by simp)
  have hbw : Below w.heap.size w w2 := by
    rw [← hw2d]
    exact ((((Below.refl _ _).alloc (Nat.le_refl _) _).alloc (by simp) _).alloc (by simp; omega) _).alloc (by simp; omega) _
  have HLS : Hid (LS (w.heap.size + 3) tb off cap T fx k 0 (.slice none 0 0) w2) := Lib.hid ⟨hap, HR.out.below hbw htb, by omega, HT.out, by omega⟩
  have HBW := Lib.hid hbw
  have HA1 := Lib.hid ha1
  have HA2 := Lib.hid ha2
  have HA3 := Lib.hid ha3
  clear ha1 ha2 ha3 hap hbw hw2 hw2d
  refine (HDO.out w2 HLS.out HBW.out).mono ?_; rintro x w3 hx
  have HX := Lib.hid hx
  clear hx
  cases R with
  | error e =>
    obtain ⟨hxe, hb3⟩ : x = .panicked (stopP e) ∧ Below (w.heap.size + 3) w2 w3 := HX.out
    have HZ1 : Hid (w3.heap[w.heap.size]? = some (.cells #[.slice none 0 0] 27 (0, 0))) := Lib.hid ((hb3.block _ (by omega)).trans HA1.out)
    have HZ2 : Hid (w3.heap[w.heap.size + 1]? = some (.cells #[.int .i64 0] 3 (0, 0))) := Lib.hid ((hb3.block _ (by omega)).trans HA2.out)
    have HZ3 : Hid (w3.heap[w.heap.size + 1 + 1]? = some (.cells #[.int .i64 0] 33 (0, 0))) := Lib.hid ((hb3.block _ (by omega)).trans HA3.out)
    have HBZ : Hid (Below w.heap.size w w3) := Lib.hid (HBW.out.trans (hb3.mono (by omega)))
    clear hb3 HX
    subst hxe
    go_wp2_with fail
    refine leaves_cons (f := 88) (args := #[.pointer (some ⟨w.heap.size, 0, none⟩), .pointer (some ⟨w.heap.size + 1, 0, none⟩), .pointer (some ⟨w.heap.size + 1 + 1, 0, none⟩)]) (by simp) (by simp [go_sem]) ?_
    refine (lcatch_panicking_d w.heap.size (w.heap.size + 1) (w.heap.size + 1 + 1) (.slice none 0 0) 0 0 e [] _ (by omega) (by omega) (Lib.cell_of_heap HZ1.out 0) (Lib.cell_of_heap HZ2.out 0) (Lib.cell_of_heap HZ3.out 0) (Lib.frozen_of_heap HZ1.out 0) (Lib.frozen_of_heap HZ2.out 0) (Lib.frozen_of_heap HZ3.out 0)).mono ?_
    rintro x u wf ⟨rfl, rfl, m0, m1, m2, hbf⟩
    have HBF : Hid (Below w.heap.size w wf) := Lib.hid (HBZ.out.trans (hbf _ (Nat.le_refl _) HBZ.out.size))
    clear hbf
    simp [Leaves, settle, results, Tryz.results54, go_sem, m0, m1, m2]
    exact ⟨rfl, HBF.out⟩
  | ok ky =>
    obtain ⟨k', y⟩ := ky
    obtain ⟨av, nv, cv, op', v', hxe, hg, hls, hrk⟩ : ∃ a n c op v, x = .returned (.slice a n c) ∧ G y (.slice a n c) w3 ∧ LS (w.heap.size + 3) tb off cap T fx k' op v w3 ∧ RK (w.heap.size + 3) w2 w3 := HX.out
    have HZ1 : Hid (w3.heap[w.heap.size]? = some (.cells #[.slice none 0 0] 27 (0, 0))) := Lib.hid (hrk.2 _ _ HA1.out (by omega))
    have HZ2 : Hid (w3.heap[w.heap.size + 1]? = some (.cells #[.int .i64 0] 3 (0, 0))) := Lib.hid (hrk.2 _ _ HA2.out (by omega))
    have HZ3 : Hid (w3.heap[w.heap.size + 1 + 1]? = some (.cells #[.int .i64 0] 33 (0, 0))) := Lib.hid (hrk.2 _ _ HA3.out (by omega))
    have HBZ : Hid (Below w.heap.size w w3) := Lib.hid (HBW.out.trans (hrk.1.mono (by omega)))
    have HGG := Lib.hid hg
    have HL3 := Lib.hid hls
    clear hg hls hrk HX
    subst hxe
    have d0 : w3.cell? ⟨w.heap.size, 0, none⟩ = some (.slice none 0 0) := Lib.cell_of_heap HZ1.out 0
    have d1 : w3.cell? ⟨w.heap.size + 1, 0, none⟩ = some (.int .i64 0) := Lib.cell_of_heap HZ2.out 0
    have d2 : w3.cell? ⟨w.heap.size + 1 + 1, 0, none⟩ = some (.int .i64 0) := Lib.cell_of_heap HZ3.out 0
    have z0 : w3.frozen? ⟨w.heap.size, 0, none⟩ = false := Lib.frozen_of_heap HZ1.out 0
    have z1 : w3.frozen? ⟨w.heap.size + 1, 0, none⟩ = false := Lib.frozen_of_heap HZ2.out 0
    have z2 : w3.frozen? ⟨w.heap.size + 1 + 1, 0, none⟩ = false := Lib.frozen_of_heap HZ3.out 0
    obtain ⟨c0, c1, c2, c3, c4⟩ := HL3.out.cells
    go_upto_region 6 with fail
    go_region
    obtain ⟨wa, hwa⟩ : ∃ wa, w3.setCell ⟨w.heap.size, 0, none⟩ (.slice av nv cv) = wa := ⟨_, rfl⟩
    obtain ⟨wb, hwb⟩ : ∃ wb, wa.setCell ⟨w.heap.size, 0, none⟩ (.slice av nv cv) = wb := ⟨_, rfl⟩
    obtain ⟨wc, hwc⟩ : ∃ wc, wb.setCell ⟨w.heap.size + 1, 0, none⟩ (.int .i64 (k' : Int)) = wc := ⟨_, rfl⟩
    obtain ⟨wd, hwd⟩ : ∃ wd, wc.setCell ⟨w.heap.size + 1 + 1, 0, none⟩ (.int .i64 0) = wd := ⟨_, rfl⟩
    obtain ⟨wf, hwf⟩ : ∃ wf, wd.drew = wf := ⟨_, rfl⟩
    rw [hwa, hwb, hwc, hwd, hwf]
    have HF : Hid (Below w.heap.size w wf) := Lib.hid (by
      rw [← hwf, ← hwd, ← hwc, ← hwb, ← hwa]
      exact ((((HBZ.out.setCell (p := ⟨w.heap.size, 0, none⟩) (Nat.le_refl _) _).setCell (p := ⟨w.heap.size, 0, none⟩) (Nat.le_refl _) _).setCell (p := ⟨w.heap.size + 1, 0, none⟩) (by show w.heap.size ≤ w.heap.size + 1; omega) _).setCell (p := ⟨w.heap.size + 1 + 1, 0, none⟩) (by show w.heap.size ≤ w.heap.size + 1 + 1; omega) _).drew)
    have HGF : Hid (G y (.slice av nv cv) wf) := Lib.hid (by
      have g1 := HG.out _ _ _ _ w.heap.size (by omega) (RK.set w.heap.size 0 w3 (.slice av nv cv)) HGG.out
      rw [hwa] at g1
      have g2 := HG.out _ _ _ _ w.heap.size (by omega) (RK.set w.heap.size 0 wa (.slice av nv cv)) g1
      rw [hwb] at g2
      have g3 := HG.out _ _ _ _ (w.heap.size + 1) (by omega) (RK.set (w.heap.size + 1) 0 wb (.int .i64 (k' : Int))) g2
      rw [hwc] at g3
      have g4 := HG.out _ _ _ _ (w.heap.size + 1 + 1) (by omega) (RK.set (w.heap.size + 1 + 1) 0 wc (.int .i64 0)) g3
      rw [hwd] at g4
      have hne : wd.heap.size ≠ 0 := by
        have h1 := heap_lt HZ1.out
        rw [← hwd, ← hwc, ← hwb, ← hwa]
        simp only [World.size_setCell]
        omega
      have g5 := HG.out _ _ wd wf w.heap.size (by omega) ⟨by rw [← hwf]; exact (Below.refl _ _).drew, fun k o hk _ => by rw [← hwf]; exact hk⟩ g4
      exact g5)
    have m0 : wf.cell? ⟨w.heap.size, 0, none⟩ = some (.slice av nv cv) := by
      rw [← hwf]
      show wd.cell? _ = _
      rw [← hwd, World.cell?_setCell_other _ _ _ _ (by intro h; injection h with h; omega), ← hwc, World.cell?_setCell_other _ _ _ _ (by intro h; injection h with h; omega), ← hwb]
      have e1 : wa.cell? ⟨w.heap.size, 0, none⟩ = some (.slice av nv cv) := by rw [← hwa]; exact World.cell?_setCell_same _ _ _ d0
      exact World.cell?_setCell_same _ _ _ e1
    have m1 : wf.cell? ⟨w.heap.size + 1, 0, none⟩ = some (.int .i64 (k' : Int)) := by
      rw [← hwf]
      show wd.cell? _ = _
      have e1 : wb.cell? ⟨w.heap.size + 1, 0, none⟩ = some (.int .i64 0) := by
        rw [← hwb, World.cell?_setCell_other _ _ _ _ (by intro h; injection h with h; omega), ← hwa, World.cell?_setCell_other _ _ _ _ (by intro h; injection h with h; omega)]; exact d1
      rw [← hwd, World.cell?_setCell_other _ _ _ _ (by intro h; injection h with h; omega), ← hwc]
      exact World.cell?_setCell_same _ _ _ e1
    have m2 : wf.cell? ⟨w.heap.size + 1 + 1, 0, none⟩ = some (.int .i64 0) := by
      rw [← hwf]
      show wd.cell? _ = _
      have e1 : wc.cell? ⟨w.heap.size + 1 + 1, 0, none⟩ = some (.int .i64 0) := by
        rw [← hwc, World.cell?_setCell_other _ _ _ _ (by intro h; injection h with h; omega), ← hwb, World.cell?_setCell_other _ _ _ _ (by intro h; injection h with h; omega), ← hwa, World.cell?_setCell_other _ _ _ _ (by intro h; injection h with h; omega)]; exact d2
      rw [← hwd]
      exact World.cell?_setCell_same _ _ _ e1
    clear hwa hwb hwc hwd hwf d0 d1 d2 z0 z1 z2 c0 c1 c2 c3 c4
    go_wp2_with fail
    refine leaves_cons (f := 88) (args := #[.pointer (some ⟨w.heap.size, 0, none⟩), .pointer (some ⟨w.heap.size + 1, 0, none⟩), .pointer (some ⟨w.heap.size + 1 + 1, 0, none⟩)]) (by simp) (by simp [go_sem]) ?_
    refine (lcatch_idle_d ⟨w.heap.size, 0, none⟩ ⟨w.heap.size + 1, 0, none⟩ ⟨w.heap.size + 1 + 1, 0, none⟩ _).mono ?_
    rintro x u wg ⟨rfl, rfl, rfl⟩
    simp [Leaves, settle, results, Tryz.results54, go_sem, m0, m1, m2]
    exact ⟨⟨av, nv, cv, rfl, HGF.out⟩, HF.out⟩
end Go.Proofs.YtgaknbnhmoddcaaGreatDoor
namespace Go.Proofs.YtgaknbnhmoddcaaGreatDoor
open Go.RowKit Go.Lib
theorem lcatch_idle_t (q1 q2 q3 : Addr) (w : World) :
    CallsD Tryz.prog 80 #[.pointer (some q1), .pointer (some q2), .pointer (some q3)] .returning w fun e u' w' => e = .returned (.tuple #[]) ∧ u' = .returning ∧ w' = w := by
  refine callsD_of_wpS Tryz.func80 rfl fun c₀ cs hu => ?_
  apply wpS_seq
  apply wpS_region
  simp [wpOpsS, go_sem, recoverD, hu, Tryz.ntmps80, Exit.thenS]
  refine wpS_of_wp ?_
  simp only [List.replicate_succ, List.replicate_zero, Array.replicate, List.setIfInBounds_toArray, List.set_cons_zero, List.set_cons_succ, List.append_toArray, List.cons_append, List.nil_append]
  go_wp2_with fail
  cases c₀
  simp_all [bodyPostS, results, Tryz.results80]
set_option maxRecDepth 100000 in
set_option maxHeartbeats 1000000 in
theorem lcatch_panicking_t (b1 b2 b3 : Nat) (x1 y1 : Value) (x2 x3 : Int) (e : ErrP) (older : List PanicEntry) (w : World) (n12 : b1 < b2) (n23 : b2 < b3) (h1 : w.heap[b1]? = some (.cells #[x1, y1] 25 (0, 0))) (h2 : w.cell? ⟨b2, 0, none⟩ = some (.int .i64 x2)) (h3 : w.cell? ⟨b3, 0, none⟩ = some (.int .i64 x3)) (z2 : w.frozen? ⟨b2, 0, none⟩ = false) (z3 : w.frozen? ⟨b3, 0, none⟩ = false) :
    CallsD Tryz.prog 80 #[.pointer (some ⟨b1, 0, none⟩), .pointer (some ⟨b2, 0, none⟩), .pointer (some ⟨b3, 0, none⟩)] (.panicking ({ v := .iface 143 (.agg #[.int .i64 e.1, .int .i64 e.2]), recovered := false } :: older)) w fun e' u' w' =>
      e' = .returned (.tuple #[]) ∧ u' = .panicking ({ v := .iface 143 (.agg #[.int .i64 e.1, .int .i64 e.2]), recovered := true } :: older) ∧ w'.cell? ⟨b1, 0, none⟩ = some (.string ⟨#[]⟩) ∧ w'.cell? ⟨b1, 1, none⟩ = some (.slice none 0 0) ∧ w'.cell? ⟨b2, 0, none⟩ = some (.int .i64 e.2) ∧ w'.cell? ⟨b3, 0, none⟩ = some (.int .i64 e.1) ∧ ∀ B, B ≤ b1 → B ≤ w.heap.size → Below B w w' := by
  obtain ⟨e1, e2⟩ := e
  obtain ⟨j2, hj2⟩ : ∃ j2 : Int, (e2 : Int) = j2 := ⟨_, rfl⟩
  simp only [hj2]
  have hta : ∀ w, (Instr.typeAssert (.iface 143 (.agg #[.int .i64 e1, .int .i64 j2])) 20 143 false).run Tryz.prog w = .ok (.agg #[.int .i64 e1, .int .i64 j2]) w := fun w => by kernel_rfl
  have hf0 : ∀ w, (Instr.field 143 (.agg #[.int .i64 e1, .int .i64 j2]) 0).run Tryz.prog w = .ok (.int .i64 e1) w := fun w => by kernel_rfl
  have hf1 : ∀ w, (Instr.field 143 (.agg #[.int .i64 e1, .int .i64 j2]) 1).run Tryz.prog w = .ok (.int .i64 j2) w := fun w => by kernel_rfl
  refine callsD_of_wpS Tryz.func80 rfl fun c₀ cs hu => ?_
  apply wpS_seq
  apply wpS_region
  simp [wpOpsS, go_sem, recoverD, hu, Tryz.ntmps80, Exit.thenS]
  refine wpS_of_wp ?_
  simp only [List.replicate_succ, List.replicate_zero, Array.replicate, List.setIfInBounds_toArray, List.set_cons_zero, List.set_cons_succ, List.append_toArray, List.cons_append, List.nil_append]
  have k12 : ¬ b1 = b2 := by omega
  have k13 : ¬ b1 = b3 := by omega
  have k23 : ¬ b2 = b3 := by omega
  have k21 : ¬ b2 = b1 := by omega
  have k31 : ¬ b3 = b1 := by omega
  have k32 : ¬ b3 = b2 := by omega
  go_wp2_with fail
  obtain ⟨w1, hw1⟩ : ∃ w1, w.alloc (.cells #[.string ⟨#[]⟩, .slice none 0 0] 25 (0, 0)) = w1 := ⟨_, rfl⟩
  have h11 : w1.heap[b1]? = some (.cells #[x1, y1] 25 (0, 0)) := by rw [← hw1]; exact heap_old h1
  have h21 : w1.cell? ⟨b2, 0, none⟩ = some (.int .i64 x2) := by rw [← hw1, World.cell?_alloc_lt _ _ _ (lt_of_cell h2)]; exact h2
  have h31 : w1.cell? ⟨b3, 0, none⟩ = some (.int .i64 x3) := by rw [← hw1, World.cell?_alloc_lt _ _ _ (lt_of_cell h3)]; exact h3
  have z21 : w1.frozen? ⟨b2, 0, none⟩ = false := by rw [← hw1]; exact (((Below.refl w.heap.size w).alloc (Nat.le_refl _) _).frozen (lt_of_cell h2)).trans z2
  have z31 : w1.frozen? ⟨b3, 0, none⟩ = false := by rw [← hw1]; exact (((Below.refl w.heap.size w).alloc (Nat.le_refl _) _).frozen (lt_of_cell h3)).trans z3
  have hb1 : ∀ B, B ≤ w.heap.size → Below B w w1 := fun B hB => by rw [← hw1]; exact (Below.refl B w).alloc hB _
  have c0 : w1.cell? ⟨w.heap.size, 0, none⟩ = some (.string ⟨#[]⟩) := by rw [← hw1]; exact Lib.cell_of_heap (heap_new _ _ _ rfl) 0
  have c1 : w1.cell? ⟨w.heap.size, 1, none⟩ = some (.slice none 0 0) := by rw [← hw1]; exact Lib.cell_of_heap (heap_new _ _ _ rfl) 1
  have hn1 : ¬ b1 = w.heap.size := by have := heap_lt h1; omega
  have hn2 : ¬ w.heap.size = b1 := by omega
  obtain ⟨p0, p1, z0, z1⟩ := ref_cells h11
  rw [hw1]
  have HFIN : Hid (∀ wf, wf = ((((w1.setCell ⟨b1, 0, none⟩ (.string ⟨#[]⟩)).setCell ⟨b1, 1, none⟩ (.slice none 0 0)).setCell ⟨b2, 0, none⟩ (.int .i64 j2)).setCell ⟨b3, 0, none⟩ (.int .i64 e1)).drew → wf.cell? ⟨b1, 0, none⟩ = some (.string ⟨#[]⟩) ∧ wf.cell? ⟨b1, 1, none⟩ = some (.slice none 0 0) ∧ wf.cell? ⟨b2, 0, none⟩ = some (.int .i64 j2) ∧ wf.cell? ⟨b3, 0, none⟩ = some (.int .i64 e1) ∧ ∀ B, B ≤ b1 → B ≤ w.heap.size → Below B w wf) := Lib.hid (by
    rintro wf rfl
    have g1 : ((w1.setCell ⟨b1, 0, none⟩ (.string ⟨#[]⟩)).setCell ⟨b1, 1, none⟩ (.slice none 0 0)).heap[b1]? = some (.cells #[.string ⟨#[]⟩, .slice none 0 0] 25 (0, 0)) := pset (pset h11 _ rfl) _ rfl
    have g3 : ((((w1.setCell ⟨b1, 0, none⟩ (.string ⟨#[]⟩)).setCell ⟨b1, 1, none⟩ (.slice none 0 0)).setCell ⟨b2, 0, none⟩ (.int .i64 j2)).setCell ⟨b3, 0, none⟩ (.int .i64 e1)).heap[b1]? = some (.cells #[.string ⟨#[]⟩, .slice none 0 0] 25 (0, 0)) := by
      rw [Below.heap_setCell _ _ _ _ (by show b1 ≠ b3; omega), Below.heap_setCell _ _ _ _ (by show b1 ≠ b2; omega)]; exact g1
    obtain ⟨r0, r1, _, _⟩ := ref_cells g3
    have m2 : ((w1.setCell ⟨b1, 0, none⟩ (.string ⟨#[]⟩)).setCell ⟨b1, 1, none⟩ (.slice none 0 0)).cell? ⟨b2, 0, none⟩ = some (.int .i64 x2) := by
      rw [World.cell?_setCell_other _ _ _ _ (by intro h; injection h with h; omega), World.cell?_setCell_other _ _ _ _ (by intro h; injection h with h; omega)]; exact h21
    have m3 : (((w1.setCell ⟨b1, 0, none⟩ (.string ⟨#[]⟩)).setCell ⟨b1, 1, none⟩ (.slice none 0 0)).setCell ⟨b2, 0, none⟩ (.int .i64 j2)).cell? ⟨b3, 0, none⟩ = some (.int .i64 x3) := by
      rw [World.cell?_setCell_other _ _ _ _ (by intro h; injection h with h; omega), World.cell?_setCell_other _ _ _ _ (by intro h; injection h with h; omega), World.cell?_setCell_other _ _ _ _ (by intro h; injection h with h; omega)]; exact h31
    refine ⟨r0, r1, ?_, ?_, fun B q1 q0 => ?_⟩
    · show ((((w1.setCell ⟨b1, 0, none⟩ (.string ⟨#[]⟩)).setCell ⟨b1, 1, none⟩ (.slice none 0 0)).setCell ⟨b2, 0, none⟩ (.int .i64 j2)).setCell ⟨b3, 0, none⟩ (.int .i64 e1)).cell? ⟨b2, 0, none⟩ = _
      rw [World.cell?_setCell_other _ _ _ _ (by intro h; injection h with h; omega)]
      exact World.cell?_setCell_same _ _ _ m2
    · show ((((w1.setCell ⟨b1, 0, none⟩ (.string ⟨#[]⟩)).setCell ⟨b1, 1, none⟩ (.slice none 0 0)).setCell ⟨b2, 0, none⟩ (.int .i64 j2)).setCell ⟨b3, 0, none⟩ (.int .i64 e1)).cell? ⟨b3, 0, none⟩ = _
      exact World.cell?_setCell_same _ _ _ m3
    · exact (((((hb1 B q0).setCell (p := ⟨b1, 0, none⟩) q1 _).setCell (p := ⟨b1, 1, none⟩) q1 _).setCell (p := ⟨b2, 0, none⟩) (by show B ≤ b2; omega) _).setCell (p := ⟨b3, 0, none⟩) (by show B ≤ b3; omega) _).drew)
  clear hw1
  go_region
  clear h1 h2 h3 z0 z1 z2 z3 p0 p1 h11 h21 h31 z21 z31 c0 c1 k12 k13 k23 k21 k31 k32 hta hf0 hf1
  go_wp2_with fail
  cases c₀
  simp only at hu
  subst hu
  simp [bodyPostS, results, Tryz.results80]
  exact HFIN.out _ rfl
/-- What is read, as a type. -/
def ReadT (B : Nat) (R : Except ErrP TypP) (x : Ending) (W' : World) : Prop := match R with
  | .error e => x = .returned (.tuple #[.agg #[.string ⟨#[]⟩, .slice none 0 0], .int .i64 e.2, .int .i64 e.1])
  | .ok (_, a2, nm, ws) => ∃ u, x = .returned (.tuple #[.agg #[.string ⟨nm.toArray⟩, u], .int .i64 a2, .int .i64 0]) ∧ BytW B u ws W'
set_option maxRecDepth 100000 in
set_option maxHeartbeats 4000000 in
theorem lread_go_t {tb off cap : Nat} {T : List Tok} {fx : Bool} {k : Nat} (w : World) (hr : TokRow tb off T w) (htb : tb < w.heap.size) (hT : T.length ≤ 100000 ∧ ∀ t ∈ T, t.text.length ≤ 100000) (hk : k < T.length) :
    Calls Tryz.prog 52 #[.slice (some ⟨tb, off, none⟩) T.length cap, .int .i64 (k : Int), .bool fx, .func (.func 53) #[] #[]] w fun x w' => ReadT w.heap.size (typG T 10 0 k) x w' ∧ Below w.heap.size w w' := by
  have HDO := Lib.hid (fun W (hW : LS (w.heap.size + 3) tb off cap T fx k ((0 : Nat) : Int) (.slice none 0 0) W) => l_typ_any 10 (by decide) (w.heap.size + 3) tb off cap T fx k 0 (.slice none 0 0) W (by decide) (by decide) hW (by omega))
  have HR := Lib.hid hr
  have hT1 := hT.1
  have HT := Lib.hid hT
  have hT0 : T.length ≤ 9223372036854775807 := by omega
  have hnk : ¬ (T.length : Int) ≤ (k : Int) := by omega
  have hk0 : ¬ (k : Int) < 0 := by omega
  have hmf : ∀ (fn : Fn) (first cap : Array Value) (w : World), (Instr.makeFunc fn first cap).run Tryz.prog w = .ok (.func fn first cap) w := fun _ _ _ _ => rfl
  have hent := enters_of Tryz.func53 (by kernel_rfl) rfl
  generalize typG T 10 0 k = RR at HDO ⊢
  clear hr hT
  go_enter_defers Tryz.func52, Tryz.ntmps52
  go_wp2_with fail
  obtain ⟨w2, hw2⟩ : ∃ w2, ((((w.alloc (.cells #[.string ⟨#[]⟩, .slice none 0 0] 25 (0, 0))).alloc (.cells #[.int .i64 0] 3 (0, 0))).alloc (.cells #[.int .i64 0] 33 (0, 0))).alloc (.cells #[.slice (some ⟨tb, off, none⟩) T.length cap, .int .i64 (k : Int), .bool fx, .int .i64 0, .slice none 0 0] 147 (0, 0))) = w2 := ⟨_, rfl⟩
  have hw2d := hw2
  rw [hw2]
  have ha1 : w2.heap[w.heap.size]? = some (.cells #[.string ⟨#[]⟩, .slice none 0 0] 25 (0, 0)) := by rw [← hw2d]; exact heap_old (heap_old (heap_old (heap_new _ _ _ rfl)))
  have ha2 : w2.heap[w.heap.size + 1]? = some (.cells #[.int .i64 0] 3 (0, 0)) := by rw [← hw2d]; exact heap_old (heap_old (heap_new _ _ _ (by simp)))
  have ha3 : w2.heap[w.heap.size + 1 + 1]? = some (.cells #[.int .i64 0] 33 (0, 0)) := by rw [← hw2d]; exact heap_old (heap_new _ _ _ (by simp))
  have hap : w2.heap[w.heap.size + 3]? = some (.cells #[.slice (some ⟨tb, off, none⟩) T.length cap, .int .i64 (k : Int), .bool fx, .int .i64 0, .slice none 0 0] 147 (0, 0)) := by rw [← hw2d]; exact heap_new _ _ _ (by simp)
  have hbw : Below w.heap.size w w2 := by
    rw [← hw2d]
    exact ((((Below.refl _ _).alloc (Nat.le_refl _) _).alloc (by simp) _).alloc (by simp; omega) _).alloc (by simp; omega) _
  have HLS : Hid (LS (w.heap.size + 3) tb off cap T fx k ((0 : Nat) : Int) (.slice none 0 0) w2) := Lib.hid ⟨hap, HR.out.below hbw htb, by omega, HT.out, by omega⟩
  have HBW := Lib.hid hbw
  have HA1 := Lib.hid ha1
  have HA2 := Lib.hid ha2
  have HA3 := Lib.hid ha3
  clear ha1 ha2 ha3 hap hbw hw2 hw2d
  refine (HDO.out w2 HLS.out).mono ?_; rintro x w3 hx
  have HX := Lib.hid hx
  clear hx
  cases RR with
  | error e =>
    obtain ⟨hxe, hb3⟩ : x = .panicked (stopP e) ∧ Below (w.heap.size + 3) w2 w3 := HX.out
    have HZ1 := Lib.hid ((hb3.block _ (by omega)).trans HA1.out)
    have HZ2 := Lib.hid ((hb3.block _ (by omega)).trans HA2.out)
    have HZ3 := Lib.hid ((hb3.block _ (by omega)).trans HA3.out)
    have HBZ : Hid (Below w.heap.size w w3) := Lib.hid (HBW.out.trans (hb3.mono (by omega)))
    clear hb3 HX
    subst hxe
    go_wp2_with fail
    refine leaves_cons (f := 80) (args := #[.pointer (some ⟨w.heap.size, 0, none⟩), .pointer (some ⟨w.heap.size + 1, 0, none⟩), .pointer (some ⟨w.heap.size + 1 + 1, 0, none⟩)]) (by simp) (by simp [go_sem]) ?_
    refine (lcatch_panicking_t w.heap.size (w.heap.size + 1) (w.heap.size + 1 + 1) _ _ 0 0 e [] _ (by omega) (by omega) HZ1.out (Lib.cell_of_heap HZ2.out 0) (Lib.cell_of_heap HZ3.out 0) (Lib.frozen_of_heap HZ2.out 0) (Lib.frozen_of_heap HZ3.out 0)).mono ?_
    rintro x u wf ⟨rfl, rfl, m0, m0', m1, m2, hbf⟩
    have HBF : Hid (Below w.heap.size w wf) := Lib.hid (HBZ.out.trans (hbf _ (Nat.le_refl _) HBZ.out.size))
    clear hbf
    simp [Leaves, settle, results, Tryz.results52, go_sem, m0, m0', m1, m2]
    exact ⟨rfl, HBF.out⟩
  | ok y =>
    obtain ⟨k2, a2, nm, ws⟩ := y
    obtain ⟨u, hxe, hu, hls, hrk⟩ : ∃ u, x = .returned (.agg #[.string ⟨nm.toArray⟩, u]) ∧ BytW w2.heap.size u ws w3 ∧ LS (w.heap.size + 3) tb off cap T fx a2 (k2 : Int) (.slice none 0 0) w3 ∧ RK (w.heap.size + 3) w2 w3 := HX.out
    obtain ⟨ua, un, uc, rfl⟩ := hu.form
    obtain ⟨nb, hnb⟩ : ∃ nb : ByteArray, (⟨nm.toArray⟩ : ByteArray) = nb := ⟨_, rfl⟩
    have HNB := Lib.hid hnb
    rw [hnb] at hxe
    have HZ1 := Lib.hid (hrk.2 _ _ HA1.out (by omega))
    have HZ2 := Lib.hid (hrk.2 _ _ HA2.out (by omega))
    have HZ3 := Lib.hid (hrk.2 _ _ HA3.out (by omega))
    have HBZ : Hid (Below w.heap.size w w3) := Lib.hid (HBW.out.trans (hrk.1.mono (by omega)))
    have hz2 : w.heap.size + 3 < w2.heap.size := HLS.out.lt
    have HUU := Lib.hid hu
    have HL3 := Lib.hid hls
    clear hu hls hrk HX hnb
    subst hxe
    obtain ⟨d0, d0', z0, z0'⟩ := ref_cells HZ1.out
    have d1 : w3.cell? ⟨w.heap.size + 1, 0, none⟩ = some (.int .i64 0) := Lib.cell_of_heap HZ2.out 0
    have d2 : w3.cell? ⟨w.heap.size + 1 + 1, 0, none⟩ = some (.int .i64 0) := Lib.cell_of_heap HZ3.out 0
    have z1 : w3.frozen? ⟨w.heap.size + 1, 0, none⟩ = false := Lib.frozen_of_heap HZ2.out 0
    have z2 : w3.frozen? ⟨w.heap.size + 1 + 1, 0, none⟩ = false := Lib.frozen_of_heap HZ3.out 0
    obtain ⟨c0, c1, c2, c3, c4⟩ := HL3.out.cells
    go_upto_region 6 with fail
    go_region
    obtain ⟨wb, hwb⟩ : ∃ wb, (((w3.setCell ⟨w.heap.size, 0, none⟩ (.string nb)).setCell ⟨w.heap.size, 1, none⟩ (.slice ua un uc)).setCell ⟨w.heap.size, 0, none⟩ (.string nb)).setCell ⟨w.heap.size, 1, none⟩ (.slice ua un uc) = wb := ⟨_, rfl⟩
    obtain ⟨wf, hwf⟩ : ∃ wf, ((wb.setCell ⟨w.heap.size + 1, 0, none⟩ (.int .i64 (a2 : Int))).setCell ⟨w.heap.size + 1 + 1, 0, none⟩ (.int .i64 0)).drew = wf := ⟨_, rfl⟩
    have hb1 : wb.heap[w.heap.size]? = some (.cells #[.string nb, .slice ua un uc] 25 (0, 0)) := by rw [← hwb]; exact pset (pset (pset (pset HZ1.out _ rfl) _ rfl) _ rfl) _ rfl
    have hko : ∀ (W0 : World) (i : Nat) (u0 : Value) (j : Nat), j ≠ w.heap.size → (W0.setCell ⟨w.heap.size, i, none⟩ u0).heap[j]? = W0.heap[j]? := fun W0 i u0 j hj => Below.heap_setCell _ _ _ _ hj
    have hb2 : wb.heap[w.heap.size + 1]? = some (.cells #[.int .i64 0] 3 (0, 0)) := by rw [← hwb, hko _ _ _ _ (by omega), hko _ _ _ _ (by omega), hko _ _ _ _ (by omega), hko _ _ _ _ (by omega)]; exact HZ2.out
    have hb3 : wb.heap[w.heap.size + 1 + 1]? = some (.cells #[.int .i64 0] 33 (0, 0)) := by rw [← hwb, hko _ _ _ _ (by omega), hko _ _ _ _ (by omega), hko _ _ _ _ (by omega), hko _ _ _ _ (by omega)]; exact HZ3.out
    have hf1 : wf.heap[w.heap.size]? = some (.cells #[.string nb, .slice ua un uc] 25 (0, 0)) := by
      rw [← hwf]
      show ((wb.setCell ⟨w.heap.size + 1, 0, none⟩ (.int .i64 (a2 : Int))).setCell ⟨w.heap.size + 1 + 1, 0, none⟩ (.int .i64 0)).heap[w.heap.size]? = _
      rw [Below.heap_setCell _ _ _ _ (by show w.heap.size ≠ w.heap.size + 1 + 1; omega), Below.heap_setCell _ _ _ _ (by show w.heap.size ≠ w.heap.size + 1; omega)]
      exact hb1
    have m1 : wf.cell? ⟨w.heap.size + 1, 0, none⟩ = some (.int .i64 (a2 : Int)) := by
      have : wf.heap[w.heap.size + 1]? = some (.cells #[.int .i64 (a2 : Int)] 3 (0, 0)) := by
        rw [← hwf]
        show ((wb.setCell ⟨w.heap.size + 1, 0, none⟩ (.int .i64 (a2 : Int))).setCell ⟨w.heap.size + 1 + 1, 0, none⟩ (.int .i64 0)).heap[w.heap.size + 1]? = _
        rw [Below.heap_setCell _ _ _ _ (by show w.heap.size + 1 ≠ w.heap.size + 1 + 1; omega)]
        exact pset hb2 _ rfl
      rw [Lib.cell_of_heap this]; rfl
    have m2 : wf.cell? ⟨w.heap.size + 1 + 1, 0, none⟩ = some (.int .i64 0) := by
      have : wf.heap[w.heap.size + 1 + 1]? = some (.cells #[.int .i64 0] 33 (0, 0)) := by
        rw [← hwf]
        show ((wb.setCell ⟨w.heap.size + 1, 0, none⟩ (.int .i64 (a2 : Int))).setCell ⟨w.heap.size + 1 + 1, 0, none⟩ (.int .i64 0)).heap[w.heap.size + 1 + 1]? = _
        exact pset (A := #[.int .i64 0]) (by rw [Below.heap_setCell _ _ _ _ (by show w.heap.size + 1 + 1 ≠ w.heap.size + 1; omega)]; exact hb3) _ rfl
      rw [Lib.cell_of_heap this]; rfl
    have HF : Hid (Below w.heap.size w wf) := Lib.hid (by
      rw [← hwf, ← hwb]
      exact ((((((HBZ.out.setCell (p := ⟨w.heap.size, 0, none⟩) (Nat.le_refl _) _).setCell (p := ⟨w.heap.size, 1, none⟩) (Nat.le_refl _) _).setCell (p := ⟨w.heap.size, 0, none⟩) (Nat.le_refl _) _).setCell (p := ⟨w.heap.size, 1, none⟩) (Nat.le_refl _) _).setCell (p := ⟨w.heap.size + 1, 0, none⟩) (by show w.heap.size ≤ w.heap.size + 1; omega) _).setCell (p := ⟨w.heap.size + 1 + 1, 0, none⟩) (by show w.heap.size ≤ w.heap.size + 1 + 1; omega) _).drew)
    have HUF : Hid (BytW w.heap.size (.slice ua un uc) ws wf) := Lib.hid (by
      have key : ∀ (W0 : World) (q i : Nat) (u0 : Value), q ≤ w.heap.size + 2 → BytW w2.heap.size (.slice ua un uc) ws W0 → BytW w2.heap.size (.slice ua un uc) ws (W0.setCell ⟨q, i, none⟩ u0) := fun W0 q i u0 hq h => h.kp (Kp.rk (RK.set q i W0 u0) (by omega))
      rw [← hwf, ← hwb]
      exact ((key _ _ _ _ (by omega) (key _ _ _ _ (by omega) (key _ _ _ _ (by omega) (key _ _ _ _ (by omega) (key _ _ _ _ (by omega) (key _ _ _ _ (by omega) HUU.out)))))).kp (Kp.below ((Below.refl _ _).drew))).less (by omega))
    obtain ⟨m0, m0', _, _⟩ := ref_cells hf1
    rw [hwb, hwf]
    clear hwb hwf hb1 hb2 hb3 hko hf1 d0 d0' d1 d2 z0 z0' z1 z2 c0 c1 c2 c3 c4
    go_wp2_with fail
    refine leaves_cons (f := 80) (args := #[.pointer (some ⟨w.heap.size, 0, none⟩), .pointer (some ⟨w.heap.size + 1, 0, none⟩), .pointer (some ⟨w.heap.size + 1 + 1, 0, none⟩)]) (by simp) (by simp [go_sem]) ?_
    refine (lcatch_idle_t ⟨w.heap.size, 0, none⟩ ⟨w.heap.size + 1, 0, none⟩ ⟨w.heap.size + 1 + 1, 0, none⟩ _).mono ?_
    rintro x u wg ⟨rfl, rfl, rfl⟩
    simp [Leaves, settle, results, Tryz.results52, go_sem, m0, m0', m1, m2]
    exact ⟨⟨_, by rw [HNB.out], HUF.out⟩, HF.out⟩
end Go.Proofs.YtgaknbnhmoddcaaGreatDoor
namespace Go.Proofs.YtgaknbnhmoddcaaGreatDoor
open Go.RowKit Go.Lib
/-- What Arguments tells, in a row that the call made. -/
def ArgG (B : Nat) (out : List (List UInt8 × List Cel)) (u : Value) (W : World) : Prop := out.length ≤ 100000 ∧ OwnA B u out W
theorem rargs_read {tb off cap : Nat} {T : List Tok} (fx : Bool) {k : Nat} (w : World) (hr : TokRow tb off T w) (htb : tb < w.heap.size) (hT : T.length ≤ 100000 ∧ ∀ t ∈ T, t.text.length ≤ 100000) (hk : k < T.length) (hE : Env w) :
    Calls Tryz.prog 56 #[.slice (some ⟨tb, off, none⟩) T.length cap, .int .i64 (k : Int), .bool fx, .func (.func 57) #[] #[]] w fun x w' => ReadV (argsP fx T k) (ArgG (w.heap.size + 4)) x w' ∧ Below w.heap.size w w' := by
  refine lread_go_a w hr htb hT hk (argsP fx T k) (ArgG (w.heap.size + 4)) (fun y u W W' q hq hk h => ⟨h.1, OwnA.kp h.2 (Kp.rk hk (by omega))⟩) fun W hS hb => ?_
  refine (l_args W hS (by omega) (fun W' h' => hE.below (hb.trans (h'.mono (by omega))) (Nat.le_refl _))).mono ?_
  intro x W' h
  have hlt := hS.lt
  exact h.to fun y u hy => ⟨hy.1, hy.2.less (by omega)⟩
set_option maxRecDepth 100000 in
theorem args_ok {tb off cap : Nat} {T : List Tok} (fx : Bool) {k : Nat} (w : World) (hr : TokRow tb off T w) (htb : tb < w.heap.size) (hT : T.length ≤ 100000 ∧ ∀ t ∈ T, t.text.length ≤ 100000) (hk : k < T.length) (hE : Env w) :
    Calls Tryz.prog 24 #[.slice (some ⟨tb, off, none⟩) T.length cap, .int .i64 (k : Int), .bool fx] w fun x w' => ReadV (argsP fx T k) (ArgG (w.heap.size + 4)) x w' ∧ Below w.heap.size w w' := by
  have HR := Lib.hid (rargs_read (cap := cap) fx w hr htb hT hk hE)
  generalize argsP fx T k = R at HR ⊢
  clear hr htb hT hk hE
  go_enter Tryz.func24, Tryz.ntmps24
  go_wp2_with fail
  refine HR.out.mono ?_; rintro x w1 ⟨hx, hb⟩
  have HB := Lib.hid hb
  cases R with
  | error e =>
    have hx2 : x = .returned (.tuple #[.slice none 0 0, .int .i64 e.2, .int .i64 e.1]) := hx
    clear hx hb
    subst hx2
    go_wp2_with fail
    go_returns
    exact ⟨rfl, HB.out⟩
  | ok y =>
    obtain ⟨k', out⟩ := y
    obtain ⟨a, n, c, hx2, hg⟩ : ∃ a n c, x = .returned (.tuple #[.slice a n c, .int .i64 k', .int .i64 0]) ∧ ArgG (w.heap.size + 4) out (.slice a n c) w1 := hx
    have HG := Lib.hid hg
    clear hb hg
    subst hx2
    go_wp2_with fail
    go_returns
    exact ⟨⟨a, n, c, rfl, HG.out⟩, HB.out⟩
/-- What Directives tells, in a row that the call made. -/
def DirG (B : Nat) (out : List (List UInt8 × List (List UInt8 × List Cel))) (u : Value) (W : World) : Prop := out.length ≤ 100000 ∧ OwnD B u out W
theorem rdirs_read {tb off cap : Nat} {T : List Tok} (fx : Bool) {k : Nat} (w : World) (hr : TokRow tb off T w) (htb : tb < w.heap.size) (hT : T.length ≤ 100000 ∧ ∀ t ∈ T, t.text.length ≤ 100000) (hk : k < T.length) (hE : Env w) :
    Calls Tryz.prog 54 #[.slice (some ⟨tb, off, none⟩) T.length cap, .int .i64 (k : Int), .bool fx, .func (.func 55) #[] #[]] w fun x w' => ReadV (dirsP fx T k) (DirG (w.heap.size + 4)) x w' ∧ Below w.heap.size w w' := by
  refine lread_go_d w hr htb hT hk (dirsP fx T k) (DirG (w.heap.size + 4)) (fun y u W W' q hq hk h => ⟨h.1, OwnD.kp h.2 (Kp.rk hk (by omega))⟩) fun W hS hb => ?_
  refine (l_dirs W hS (by omega) (fun W' h' => hE.below (hb.trans (h'.mono (by omega))) (Nat.le_refl _))).mono ?_
  intro x W' h
  have hlt := hS.lt
  exact h.to fun y u hy => ⟨hy.1, hy.2.less (by omega)⟩
set_option maxRecDepth 100000 in
theorem dirs_ok {tb off cap : Nat} {T : List Tok} (fx : Bool) {k : Nat} (w : World) (hr : TokRow tb off T w) (htb : tb < w.heap.size) (hT : T.length ≤ 100000 ∧ ∀ t ∈ T, t.text.length ≤ 100000) (hk : k < T.length) (hE : Env w) :
    Calls Tryz.prog 23 #[.slice (some ⟨tb, off, none⟩) T.length cap, .int .i64 (k : Int), .bool fx] w fun x w' => ReadV (dirsP fx T k) (DirG (w.heap.size + 4)) x w' ∧ Below w.heap.size w w' := by
  have HR := Lib.hid (rdirs_read (cap := cap) fx w hr htb hT hk hE)
  generalize dirsP fx T k = R at HR ⊢
  clear hr htb hT hk hE
  go_enter Tryz.func23, Tryz.ntmps23
  go_wp2_with fail
  refine HR.out.mono ?_; rintro x w1 ⟨hx, hb⟩
  have HB := Lib.hid hb
  cases R with
  | error e =>
    have hx2 : x = .returned (.tuple #[.slice none 0 0, .int .i64 e.2, .int .i64 e.1]) := hx
    clear hx hb
    subst hx2
    go_wp2_with fail
    go_returns
    exact ⟨rfl, HB.out⟩
  | ok y =>
    obtain ⟨k', out⟩ := y
    obtain ⟨a, n, c, hx2, hg⟩ : ∃ a n c, x = .returned (.tuple #[.slice a n c, .int .i64 k', .int .i64 0]) ∧ DirG (w.heap.size + 4) out (.slice a n c) w1 := hx
    have HG := Lib.hid hg
    clear hb hg
    subst hx2
    go_wp2_with fail
    go_returns
    exact ⟨⟨a, n, c, rfl, HG.out⟩, HB.out⟩
set_option maxRecDepth 100000 in
theorem type_ok {tb off cap : Nat} {T : List Tok} {k : Nat} (w : World) (hr : TokRow tb off T w) (htb : tb < w.heap.size) (hT : T.length ≤ 100000 ∧ ∀ t ∈ T, t.text.length ≤ 100000) (hk : k < T.length) :
    Calls Tryz.prog 22 #[.slice (some ⟨tb, off, none⟩) T.length cap, .int .i64 (k : Int)] w fun x w' => ReadT w.heap.size (typG T 10 0 k) x w' ∧ Below w.heap.size w w' := by
  have HR : Hid (∀ W, Below w.heap.size w W → Calls Tryz.prog 52 #[.slice (some ⟨tb, off, none⟩) T.length cap, .int .i64 (k : Int), .bool true, .func (.func 53) #[] #[]] W fun x w' => ReadT W.heap.size (typG T 10 0 k) x w' ∧ Below W.heap.size W w') := Lib.hid fun W hW => by
    have hz := hW.size
    exact lread_go_t (cap := cap) W (hr.below hW htb) (by omega) hT hk
  generalize typG T 10 0 k = R at HR ⊢
  clear hr htb hT hk
  go_enter Tryz.func22, Tryz.ntmps22
  go_wp2_with fail
  obtain ⟨w0, hw0⟩ : ∃ w0, w.alloc (.cells #[.string ⟨#[]⟩, .slice none 0 0] 25 (0, 0)) = w0 := ⟨_, rfl⟩
  have HZ0 : Hid (w0.heap[w.heap.size]? = some (.cells #[.string ⟨#[]⟩, .slice none 0 0] 25 (0, 0))) := Lib.hid (by rw [← hw0]; exact heap_new _ _ _ rfl)
  have HB0 : Hid (Below w.heap.size w w0) := Lib.hid (by rw [← hw0]; exact (Below.refl _ _).alloc (Nat.le_refl _) _)
  rw [hw0]
  clear hw0
  refine (HR.out w0 HB0.out).mono ?_; rintro x w1 ⟨hx, hb⟩
  have hz0 := HB0.out.size
  have hlt0 := heap_lt HZ0.out
  have hlt1 := hb.size
  have HB1 : Hid (Below w.heap.size w w1) := Lib.hid (HB0.out.trans (hb.mono hz0))
  have HZ1 : Hid (w1.heap[w.heap.size]? = some (.cells #[.string ⟨#[]⟩, .slice none 0 0] 25 (0, 0))) := Lib.hid ((hb.block _ hlt0).trans HZ0.out)
  clear hb
  obtain ⟨d0, d1, z0, z1⟩ := ref_cells HZ1.out
  have hlt2 : w.heap.size < w1.heap.size := by omega
  have hlt3 : w.heap.size < w0.heap.size := hlt0
  clear hlt1 hz0 hlt0
  have key : ∀ (n : ByteArray) (u : Value) (W : World), W.heap[w.heap.size]? = some (.cells #[.string n, u] 25 (0, 0)) → W.cell? ⟨w.heap.size, 0, none⟩ = some (.string n) ∧ W.cell? ⟨w.heap.size, 1, none⟩ = some u := fun n u W h => ⟨Lib.cell_of_heap h 0, Lib.cell_of_heap h 1⟩
  have KEY := Lib.hid key
  clear key
  cases R with
  | error e =>
    have hx2 : x = .returned (.tuple #[.agg #[.string ⟨#[]⟩, .slice none 0 0], .int .i64 e.2, .int .i64 e.1]) := hx
    clear hx
    subst hx2
    go_wp2_with fail
    obtain ⟨wf, hwf⟩ : ∃ wf, (w1.setCell ⟨w.heap.size, 0, none⟩ (.string ⟨#[]⟩)).setCell ⟨w.heap.size, 1, none⟩ (.slice none 0 0) = wf := ⟨_, rfl⟩
    have hh : wf.heap[w.heap.size]? = some (.cells #[.string ⟨#[]⟩, .slice none 0 0] 25 (0, 0)) := by rw [← hwf]; exact pset (pset HZ1.out _ rfl) _ rfl
    have HF : Hid (Below w.heap.size w wf) := Lib.hid (by rw [← hwf]; exact (HB1.out.setCell (p := ⟨w.heap.size, 0, none⟩) (Nat.le_refl _) _).setCell (p := ⟨w.heap.size, 1, none⟩) (Nat.le_refl _) _)
    obtain ⟨m0, m1⟩ := KEY.out _ _ _ hh
    try rw [hwf]
    clear d0 d1 z0 z1 hh
    refine bodyPost_ret (by simp [results, Tryz.results22, go_sem, m0, m1]; try rfl) rfl ?_
    exact ⟨rfl, HF.out⟩
  | ok y =>
    obtain ⟨k2, a2, nm, ws⟩ := y
    obtain ⟨u, hx2, hu⟩ : ∃ u, x = .returned (.tuple #[.agg #[.string ⟨nm.toArray⟩, u], .int .i64 a2, .int .i64 0]) ∧ BytW w0.heap.size u ws w1 := hx
    obtain ⟨ua, un, uc, rfl⟩ := hu.form
    have HU := Lib.hid hu
    clear hu
    subst hx2
    obtain ⟨nb, hnb⟩ : ∃ nb : ByteArray, nb = ⟨nm.toArray⟩ := ⟨_, rfl⟩
    have HNB := Lib.hid hnb
    rw [← hnb]
    clear hnb
    go_wp2_with fail
    obtain ⟨wf, hwf⟩ : ∃ wf, (w1.setCell ⟨w.heap.size, 0, none⟩ (.string nb)).setCell ⟨w.heap.size, 1, none⟩ (.slice ua un uc) = wf := ⟨_, rfl⟩
    have hh : wf.heap[w.heap.size]? = some (.cells #[.string nb, .slice ua un uc] 25 (0, 0)) := by rw [← hwf]; exact pset (pset HZ1.out _ rfl) _ rfl
    have HF : Hid (Below w.heap.size w wf) := Lib.hid (by rw [← hwf]; exact (HB1.out.setCell (p := ⟨w.heap.size, 0, none⟩) (Nat.le_refl _) _).setCell (p := ⟨w.heap.size, 1, none⟩) (Nat.le_refl _) _)
    have HUF : Hid (BytW w.heap.size (.slice ua un uc) ws wf) := Lib.hid (by
      rw [← hwf]
      exact ((HU.out.kp (Kp.rk (RK.set w.heap.size 0 w1 (.string nb)) hlt3)).kp (Kp.rk (RK.set w.heap.size 1 _ (.slice ua un uc)) hlt3)).less (by omega))
    obtain ⟨m0, m1⟩ := KEY.out _ _ _ hh
    try rw [hwf]
    clear d0 d1 z0 z1 hh
    refine bodyPost_ret (by simp [results, Tryz.results22, go_sem, m0, m1]; try rfl) rfl ?_
    exact ⟨⟨_, by rw [HNB.out], HUF.out⟩, HF.out⟩
end Go.Proofs.YtgaknbnhmoddcaaGreatDoor
namespace Go.Proofs.YtgaknbnhmoddcaaGreatDoor
open Go.RowKit Go.Lib
/-- A row of names with slices behind them, read. -/
def XRow {α : Type} (Sl : Value → α → World → Prop) (b off : Nat) (L : List (List UInt8 × α)) (W : World) : Prop := ∀ (i : Nat) (h : i < L.length), W.cell? ⟨b, off + i * 2, none⟩ = some (.string ⟨L[i].1.toArray⟩) ∧ ∃ a n c, W.cell? ⟨b, off + i * 2 + 1, none⟩ = some (.slice a n c) ∧ Sl (.slice a n c) L[i].2 W
theorem XRow.below {α : Type} {Sl : Value → α → World → Prop} {b off : Nat} {L : List (List UInt8 × α)} {w w' : World} (h : XRow Sl b off L w) (hS : ∀ u x, Sl u x w → Sl u x w') (hb : Below w.heap.size w w') : XRow Sl b off L w' := by
  intro i hi
  obtain ⟨h0, a, n, c, h1, h2⟩ := h i hi
  have hlt := lt_of_cell h0
  exact ⟨(hb.cell (p := ⟨b, _, none⟩) hlt).trans h0, a, n, c, (hb.cell (p := ⟨b, _, none⟩) hlt).trans h1, hS _ _ h2⟩
def XSl {α : Type} (Sl : Value → α → World → Prop) (v : Value) (L : List (List UInt8 × α)) (W : World) : Prop := (∃ a cap, v = .slice a 0 cap ∧ L = []) ∨ ∃ b off cap, v = .slice (some ⟨b, off, none⟩) L.length cap ∧ XRow Sl b off L W ∧ 0 < L.length
theorem XSl.below {α : Type} {Sl : Value → α → World → Prop} {v : Value} {L : List (List UInt8 × α)} {w w' : World} (h : XSl Sl v L w) (hS : ∀ u x, Sl u x w → Sl u x w') (hb : Below w.heap.size w w') : XSl Sl v L w' := by
  rcases h with h | ⟨b, off, cap, h1, h2, h3⟩
  · exact Or.inl h
  · exact Or.inr ⟨b, off, cap, h1, h2.below hS hb, h3⟩
abbrev ArgSl : Value → List (List UInt8 × List Cel) → World → Prop := XSl CelSl
abbrev DirSl : Value → List (List UInt8 × List (List UInt8 × List Cel)) → World → Prop := XSl ArgSl
theorem ArgSl.below {v : Value} {L : List (List UInt8 × List Cel)} {w w' : World} (h : ArgSl v L w) (hb : Below w.heap.size w w') : ArgSl v L w' := XSl.below h (fun _ _ h => h.below hb) hb
theorem DirSl.below {v : Value} {L : List (List UInt8 × List (List UInt8 × List Cel))} {w w' : World} (h : DirSl v L w) (hb : Below w.heap.size w w') : DirSl v L w' := XSl.below h (fun _ _ h => ArgSl.below h hb) hb
theorem xFlat_get {α : Type} : ∀ (L : List (List UInt8 × α)) (U : List Value) (i : Nat) (h : i < L.length) (h' : i < U.length), U.length = L.length → (xFlat L U)[i * 2]? = some (.string ⟨L[i].1.toArray⟩) ∧ (xFlat L U)[i * 2 + 1]? = some U[i]
  | [], U, i, h, h', _ => by simp at h
  | (n, x) :: r, [], i, h, h', _ => by simp at h'
  | (n, x) :: r, u :: us, 0, h, h', _ => by simp [xFlat]
  | (n, x) :: r, u :: us, i + 1, h, h', hl => by
    have ih := xFlat_get r us i (by simpa using h) (by simpa using h') (by simpa using hl)
    rw [show (i + 1) * 2 = i * 2 + 1 + 1 from by omega]
    simp only [xFlat, List.getElem?_cons_succ, List.getElem_cons_succ]
    exact ih
theorem OwnX.xsl {α : Type} {T : TypeId} {Own Sl : Value → α → World → Prop} {B : Nat} {v : Value} {L : List (List UInt8 × α)} {W : World} (h : OwnX T Own B v L W) (hS : ∀ u x, Own u x W → Sl u x W) : XSl Sl v L W := by
  obtain ⟨U, hU, h2, h3⟩ := h
  rcases h2.2 with ⟨rfl, hz⟩ | ⟨g, cap, cur, rfl, hB, hg, hn, hc, hcs, ht⟩
  · exact Or.inl ⟨_, _, rfl, List.eq_nil_of_length_eq_zero hz⟩
  · by_cases h0 : L = []
    · subst h0
      exact Or.inl ⟨_, _, rfl, rfl⟩
    refine Or.inr ⟨g, 0, cap, rfl, ?_, List.length_pos_iff.2 h0⟩
    intro i hi
    obtain ⟨g0, g1⟩ := xFlat_get L U i hi (by omega) hU
    have F : ∀ j u, (xFlat L U)[j]? = some u → W.cell? ⟨g, 0 + j, none⟩ = some u := by
      intro j u hj
      have hjl : j < L.length * 2 := by rw [← xFlat_len L U hU]; exact (List.getElem?_eq_some_iff.1 hj).1
      rw [← ht, List.getElem?_take, if_pos hjl] at hj
      rw [Nat.zero_add]
      refine (Lib.cell_of_heap hg j).trans ?_
      simpa using hj
    obtain ⟨⟨a, n, c, e⟩, hx⟩ := h3 i hi (by omega)
    have e1 := F _ _ g1
    rw [e] at e1 hx
    exact ⟨F _ _ g0, a, n, c, e1, hS _ _ hx⟩
theorem OwnA.sl {B : Nat} {v : Value} {L : List (List UInt8 × List Cel)} {W : World} (h : OwnA B v L W) : ArgSl v L W := OwnX.xsl h fun u x hx => hx.sl
theorem OwnD.sl {B : Nat} {v : Value} {L : List (List UInt8 × List (List UInt8 × List Cel))} {W : World} (h : OwnD B v L W) : DirSl v L W := OwnX.xsl h fun u x hx => OwnA.sl hx
set_option maxRecDepth 100000 in
theorem sametype_yes (s : ByteArray) (ua va : Option Addr) (un uc vn vc : Nat) (ws : List UInt8) (B B' : Nat) (w : World) (h1 : Own B (.slice ua un uc) ws w) (h2 : Own B' (.slice va vn vc) ws w) :
    Calls Tryz.prog 27 #[.agg #[.string s, .slice ua un uc], .agg #[.string s, .slice va vn vc]] w fun e w' => e = .returned (.bool true) ∧ Below w.heap.size w w' := by
  have H1 : Hid (∀ W, Below w.heap.size w W → (convert 23 9 (.slice ua un uc)).run Tryz.prog W = .ok (.string ⟨ws.toArray⟩) W) := Lib.hid fun W hW => run_convert_own (h1.below hW)
  have H2 : Hid (∀ W, Below w.heap.size w W → (convert 23 9 (.slice va vn vc)).run Tryz.prog W = .ok (.string ⟨ws.toArray⟩) W) := Lib.hid fun W hW => run_convert_own (h2.below hW)
  have hss : (s.toList == s.toList) = true := by simp
  obtain ⟨sb, hsb⟩ : ∃ sb : ByteArray, sb = ⟨ws.toArray⟩ := ⟨_, rfl⟩
  have hbb : (sb.toList == sb.toList) = true := by simp
  rw [← hsb] at H1 H2
  clear h1 h2 hsb
  go_enter Tryz.func27, Tryz.ntmps27
  go_upto_region 1 with fail
  obtain ⟨w2, hw2⟩ : ∃ w2, (w.alloc (.cells #[.string s, .slice ua un uc] 25 (0, 0))).alloc (.cells #[.string s, .slice va vn vc] 25 (0, 0)) = w2 := ⟨_, rfl⟩
  have HB2 : Hid (Below w.heap.size w w2) := Lib.hid (by rw [← hw2]; exact ((Below.refl _ _).alloc (Nat.le_refl _) _).alloc (by simp) _)
  have k1 : w2.heap[w.heap.size]? = some (.cells #[.string s, .slice ua un uc] 25 (0, 0)) := by rw [← hw2]; exact heap_old (heap_new _ _ _ rfl)
  have k2 : w2.heap[w.heap.size + 1]? = some (.cells #[.string s, .slice va vn vc] 25 (0, 0)) := by rw [← hw2]; exact heap_new _ _ _ (by simp)
  obtain ⟨d0, d1, _, _⟩ := ref_cells k1
  obtain ⟨d2, d3, _, _⟩ := ref_cells k2
  have C1 := H1.out w2 HB2.out
  have C2 := H2.out w2 HB2.out
  have C3 := H1.out w2.drew HB2.out.drew
  have C4 := H2.out w2.drew HB2.out.drew
  try rw [hw2]
  clear hw2 k1 k2
  go_wp2_with fail
  go_ret
  exact ⟨rfl, HB2.out⟩
/-- A text's literal that fails: the laws' fails. -/
theorem failK_parts {l : List UInt8} {fx : Bool} {e : Int} {a : Nat} (h : failK l fx e a = true) : lex0 l = .ok (lexT l) ∧ litP fx (lexT l) 0 = .error (e, a) := by
  unfold failK at h
  simp only [Bool.and_eq_true, Bool.not_eq_true'] at h
  obtain ⟨h1, h2⟩ := h
  refine ⟨lexT_ok l (fun e => by rw [e] at h1; cases h1), ?_⟩
  cases hp : litP fx (lexT l) 0 with
  | ok x => rw [hp] at h2; cases h2
  | error x =>
    rw [hp] at h2
    simp only [Bool.and_eq_true, beq_iff_eq] at h2
    obtain ⟨x1, x2⟩ := x
    simp only at h2
    rw [h2.1, h2.2]
set_option maxRecDepth 100000 in
theorem fails18 (s : ByteArray) (hs : s.size ≤ 1000) (fx : Bool) (e : Int) (a : Nat) (h0 : 0 ≤ e) (h : failK s.data.toList fx e a = true) (w : World) (hE : EnvU w) (hE2 : Env w) :
    Calls Tryz.prog 26 #[.string s, .bool fx, .int .i64 e, .int .i64 (a : Int)] w fun x w' => x = .returned (.bool true) ∧ Below w.heap.size w w' := by
  obtain ⟨h1, h2⟩ := failK_parts h
  have HV := Lib.hid (value18_any s hs (lexT s.data.toList) h1 fx (by rw [h2]; intro e' h'; injection h' with h'; rw [← h']; exact h0) w hE hE2)
  rw [h2] at HV
  clear hE hE2 h1 h2 h hs
  go_enter Tryz.func26, Tryz.ntmps26
  go_wp2_with fail
  refine HV.out.mono ?_; rintro x w1 ⟨hx, hb⟩
  have hx2 : x = .returned (.tuple #[.slice none 0 0, .int .i64 (a : Int), .int .i64 e]) := hx
  have HB := Lib.hid hb
  clear hx hb
  subst hx2
  go_wp2_with fail
  go_ret
  exact ⟨ret_b (by simp), HB.out⟩
end Go.Proofs.YtgaknbnhmoddcaaGreatDoor
