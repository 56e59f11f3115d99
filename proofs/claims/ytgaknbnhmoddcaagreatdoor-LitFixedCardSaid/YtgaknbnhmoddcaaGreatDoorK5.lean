/- Walks and plain laws of this proof, joined from smaller texts (5). -/
import Derived.Laws.EntriesVeiled
import Derived.Laws.Tables
import Derived.Laws.CopyOwn
import Derived.Deep.LoopGhost
import Derived.Maps.AppendAt
import Derived.Lib.SliceRun
import Derived.Laws.StructEq
import Derived.ArgAppend
import Derived.Handy
import Derived.Test.YtgaknbnhmoddcaaGreatDoorShelf
import Derived.Deep.Draws
import Derived.Test.YtgaknbnhmoddcaaGreatDoorK4
set_option linter.unusedSimpArgs false
set_option linter.unusedVariables false
namespace Go.Proofs.YtgaknbnhmoddcaaGreatDoor
open Go.RowKit
def ctext (k : Nat) (x : List UInt8) : Bool := if k = 3 then textB x else if k = 4 then nameB x else if k = 5 then nameB x else x.isEmpty
def cnum (k : Nat) (n : Int) : Bool := if k = 1 then (n == 0 || n == 1) else if k = 2 then true else n == 0
def cnest (k : Nat) : Bool := k == 6 || k == 7
theorem nest_kind (c : Cel) : nestC c = cnest c.kind.toNat := by
  unfold nestC cnest
  have h6 : (c.kind == 6) = (c.kind.toNat == 6) := by
    rw [Bool.eq_iff_iff, beq_iff_eq, beq_iff_eq]
    exact ⟨fun h => by rw [h]; rfl, fun h => UInt8.toNat_inj.1 h⟩
  have h7 : (c.kind == 7) = (c.kind.toNat == 7) := by
    rw [Bool.eq_iff_iff, beq_iff_eq, beq_iff_eq]
    exact ⟨fun h => by rw [h]; rfl, fun h => UInt8.toNat_inj.1 h⟩
  rw [h6, h7]
theorem one_kind (c : Cel) : oneC c = (decide (c.kind.toNat ≤ 7) && (ctext c.kind.toNat c.text && cnum c.kind.toNat c.num && (if cnest c.kind.toNat then decide (0 ≤ c.many) else c.many == 0))) := by
  have key : ∀ k : Nat, (c.kind.toNat = k) ↔ c.kind = UInt8.ofNat k ∧ k < 256 := by
    intro k
    constructor
    · intro h
      have hlt := UInt8.toNat_lt c.kind
      refine ⟨UInt8.toNat_inj.1 ?_, by omega⟩
      rw [UInt8.toNat_ofNat', h]
      omega
    · rintro ⟨h, h2⟩
      rw [h, UInt8.toNat_ofNat']
      omega
  have big : 7 < c.kind.toNat → oneC c = false := by
    intro h
    unfold oneC
    have ne : ∀ k : UInt8, k.toNat ≤ 7 → c.kind ≠ k := fun k hk e => by rw [e] at h; omega
    rw [if_neg (ne 0 (by decide)), if_neg (ne 1 (by decide)), if_neg (ne 2 (by decide)), if_neg (ne 3 (by decide)), if_neg (by rintro (e | e); exact ne 4 (by decide) e; exact ne 5 (by decide) e), if_neg (by rintro (e | e); exact ne 6 (by decide) e; exact ne 7 (by decide) e)]
  by_cases hb : c.kind.toNat ≤ 7
  · rw [decide_eq_true hb, Bool.true_and]
    have h8 : c.kind.toNat = 0 ∨ c.kind.toNat = 1 ∨ c.kind.toNat = 2 ∨ c.kind.toNat = 3 ∨ c.kind.toNat = 4 ∨ c.kind.toNat = 5 ∨ c.kind.toNat = 6 ∨ c.kind.toNat = 7 := by omega
    unfold oneC ctext cnum cnest
    rcases h8 with h | h | h | h | h | h | h | h <;> (have hk := ((key _).1 h).1; rw [h, hk]; simp; try (cases c.text <;> cases (c.many == 0) <;> simp))
  · rw [decide_eq_false hb, Bool.false_and]
    exact big (by omega)
def tfun (k : Nat) : Nat := if k = 3 then 133 else if k = 4 then 134 else if k = 5 then 134 else 129
def nfun (k : Nat) : Nat := if k = 1 then 131 else if k = 2 then 132 else 130
def kindsA : Array Value := #[.func (.func 129) #[] #[], .func (.func 130) #[] #[], .bool false, .func (.func 129) #[] #[], .func (.func 131) #[] #[], .bool false, .func (.func 129) #[] #[], .func (.func 132) #[] #[], .bool false, .func (.func 133) #[] #[], .func (.func 130) #[] #[], .bool false, .func (.func 134) #[] #[], .func (.func 130) #[] #[], .bool false, .func (.func 134) #[] #[], .func (.func 130) #[] #[], .bool false, .func (.func 129) #[] #[], .func (.func 130) #[] #[], .bool true, .func (.func 129) #[] #[], .func (.func 130) #[] #[], .bool true]
theorem kindsA_get (k : Nat) (h : k ≤ 7) : kindsA[k * 3]? = some (.func (.func (tfun k)) #[] #[]) ∧ kindsA[k * 3 + 1]? = some (.func (.func (nfun k)) #[] #[]) ∧ kindsA[k * 3 + 2]? = some (.bool (cnest k)) := by
  have h8 : k = 0 ∨ k = 1 ∨ k = 2 ∨ k = 3 ∨ k = 4 ∨ k = 5 ∨ k = 6 ∨ k = 7 := by omega
  rcases h8 with rfl | rfl | rfl | rfl | rfl | rfl | rfl | rfl <;> exact ⟨rfl, rfl, rfl⟩
theorem ent_none : ∀ args w, (callFunc 129 args).run Tryz.prog w = .ok (.enter 129 args) w := enters_of Tryz.func129 (by kernel_rfl) rfl
theorem ent_zero : ∀ args w, (callFunc 130 args).run Tryz.prog w = .ok (.enter 130 args) w := enters_of Tryz.func130 (by kernel_rfl) rfl
theorem ent_name : ∀ args w, (callFunc 134 args).run Tryz.prog w = .ok (.enter 134 args) w := enters_of Tryz.func134 (by kernel_rfl) rfl
theorem ent_k1 : ∀ args w, (callFunc 131 args).run Tryz.prog w = .ok (.enter 131 args) w := enters_of Tryz.func131 (by kernel_rfl) rfl
theorem ent_k2 : ∀ args w, (callFunc 132 args).run Tryz.prog w = .ok (.enter 132 args) w := enters_of Tryz.func132 (by kernel_rfl) rfl
theorem ent_k3 : ∀ args w, (callFunc 133 args).run Tryz.prog w = .ok (.enter 133 args) w := enters_of Tryz.func133 (by kernel_rfl) rfl
theorem tfun_ent (k : Nat) : ∀ args w, (callFunc (tfun k) args).run Tryz.prog w = .ok (.enter (tfun k) args) w := by
  unfold tfun
  split
  · exact ent_k3
  · split
    · exact ent_name
    · split
      · exact ent_name
      · exact ent_none
theorem nfun_ent (k : Nat) : ∀ args w, (callFunc (nfun k) args).run Tryz.prog w = .ok (.enter (nfun k) args) w := by
  unfold nfun
  split
  · exact ent_k1
  · split
    · exact ent_k2
    · exact ent_zero
theorem none_any (s : ByteArray) (w : World) : Calls Tryz.prog 129 #[.string s] w fun e w' => e = .returned (.bool s.data.toList.isEmpty) ∧ Below w.heap.size w w' := by
  rcases empty_z s with ⟨h0, h1, h2, h3⟩ | ⟨h0, h1, h2, h3⟩
  · have : s.data.toList.isEmpty = false := by rw [← ByteArray.toList_eq]; exact h2
    rw [this]
    go_enter Tryz.func129, Tryz.ntmps129
    go_wp2_with fail
    go_ret
    exact ⟨rfl, Below.refl _ _⟩
  · have : s.data.toList.isEmpty = true := by rw [← ByteArray.toList_eq]; exact h2
    rw [this]
    go_enter Tryz.func129, Tryz.ntmps129
    go_wp2_with fail
    go_ret
    exact ⟨rfl, Below.refl _ _⟩
theorem zero_any (n : Int) (w : World) : Calls Tryz.prog 130 #[.int .i64 n] w fun e w' => e = .returned (.bool (n == 0)) ∧ Below w.heap.size w w' := by
  go_enter Tryz.func130, Tryz.ntmps130
  go_wp2_with fail
  go_ret
  exact ⟨rfl, Below.refl _ _⟩
theorem k1_any (n : Int) (w : World) : Calls Tryz.prog 131 #[.int .i64 n] w fun e w' => e = .returned (.bool (n == 0 || n == 1)) ∧ Below w.heap.size w w' := by
  by_cases h : n = 0
  · have h0 : (n == 0) = true := beq_iff_eq.2 h
    have hr : Hid ((n == 0 || n == 1) = true) := Lib.hid (by rw [h0]; rfl)
    clear h
    go_enter Tryz.func131, Tryz.ntmps131
    go_wp2_with fail
    go_ret
    exact ⟨ret_b hr.out.symm, Below.refl _ _⟩
  · have h0 : (n == 0) = false := beq_eq_false_iff_ne.2 h
    have hr : Hid ((n == 0 || n == 1) = (n == 1)) := Lib.hid (by rw [h0]; rfl)
    clear h
    go_enter Tryz.func131, Tryz.ntmps131
    go_wp2_with fail
    go_ret
    exact ⟨ret_b hr.out.symm, Below.refl _ _⟩
theorem k2_any (n : Int) (w : World) : Calls Tryz.prog 132 #[.int .i64 n] w fun e w' => e = .returned (.bool true) ∧ Below w.heap.size w w' := by
  go_enter Tryz.func132, Tryz.ntmps132
  go_wp2_with fail
  go_ret
  exact ⟨rfl, Below.refl _ _⟩
theorem chkE_text (l : List UInt8) : textB l = (chkE l == 0) := by
  unfold textB chkE
  by_cases q : 16384 < l.length
  · rw [if_pos q, decide_eq_false (by omega)]; rfl
  · rw [if_neg q, decide_eq_true (by omega), Bool.true_and]
    cases Lib.validD l <;> rfl
theorem chkE_cases (l : List UInt8) : chkE l = 0 ∨ chkE l = 4 ∨ chkE l = 10 := by
  unfold chkE
  by_cases q : 16384 < l.length
  · rw [if_pos q]; right; left; rfl
  · rw [if_neg q]
    cases Lib.validD l
    · right; right; rfl
    · left; rfl
theorem k3_any (s : ByteArray) (hs : s.size ≤ 1000000) (w : World) (hE : EnvU w) : Calls Tryz.prog 133 #[.string s] w fun e w' => e = .returned (.bool (textB s.data.toList)) ∧ Below w.heap.size w w' := by
  have H := Lib.hid (tcheck_any s hs w hE)
  rw [chkE_text]
  have hc := chkE_cases s.data.toList
  clear hE
  generalize chkE s.data.toList = c at *
  rcases hc with rfl | rfl | rfl
  all_goals
    go_enter Tryz.func133, Tryz.ntmps133
    go_wp2_with fail
    refine H.out.mono ?_; rintro e w1 ⟨rfl, hb⟩
    go_wp2_with fail
    go_ret
    exact ⟨rfl, hb⟩
theorem tfun_any (k : Nat) (s : ByteArray) (hs : s.size ≤ 1000000) (w : World) (hE : EnvU w) : Calls Tryz.prog (tfun k) #[.string s] w fun e w' => e = .returned (.bool (ctext k s.data.toList)) ∧ Below w.heap.size w w' := by
  unfold tfun ctext
  by_cases h3 : k = 3
  · rw [if_pos h3, if_pos h3]; exact k3_any s hs w hE
  rw [if_neg h3, if_neg h3]
  by_cases h4 : k = 4
  · rw [if_pos h4, if_pos h4]; exact cname_any s hs w
  rw [if_neg h4, if_neg h4]
  by_cases h5 : k = 5
  · rw [if_pos h5, if_pos h5]; exact cname_any s hs w
  rw [if_neg h5, if_neg h5]; exact none_any s w
theorem nfun_any (k : Nat) (n : Int) (w : World) : Calls Tryz.prog (nfun k) #[.int .i64 n] w fun e w' => e = .returned (.bool (cnum k n)) ∧ Below w.heap.size w w' := by
  unfold nfun cnum
  by_cases h1 : k = 1
  · rw [if_pos h1, if_pos h1]; exact k1_any n w
  rw [if_neg h1, if_neg h1]
  by_cases h2 : k = 2
  · rw [if_pos h2, if_pos h2]; exact k2_any n w
  rw [if_neg h2, if_neg h2]; exact zero_any n w
theorem kindsA_one : kindsA.all (·.oneCell') = true := by kernel_rfl
set_option maxRecDepth 100000 in
theorem kinds_any (w : World) : Calls Tryz.prog 112 #[] w fun e w' => e = .returned (.agg kindsA) ∧ Below w.heap.size w w' := by
  have hn : Hid (∀ O, (w.alloc O).heap[w.heap.size]? = some O) := Lib.hid (heap_alloc_new w)
  go_enter Tryz.func112, Tryz.ntmps112
  go_wp2_with (refine wpList_store_row rfl 184 _ _ rfl w.heap.size kindsA rfl rfl 184 #[.nilFunc, .nilFunc, .bool false, .nilFunc, .nilFunc, .bool false, .nilFunc, .nilFunc, .bool false, .nilFunc, .nilFunc, .bool false, .nilFunc, .nilFunc, .bool false, .nilFunc, .nilFunc, .bool false, .nilFunc, .nilFunc, .bool false, .nilFunc, .nilFunc, .bool false] (hn.out _) (by kernel_rfl) rfl kindsA_one ?_)
  refine bodyPost_ret (v := .agg kindsA) (results_cell_row rfl _ _ w.heap.size 184 kindsA (0, 0) _ rfl (setRow_heap _ _ _ kindsA _ _ (hn.out _)) Tryz.underlying184 rfl (by kernel_rfl)) rfl ⟨rfl, ?_⟩
  exact below_setRow ((Below.refl _ _).alloc (Nat.le_refl _) _) (Nat.le_refl _) _
end Go.Proofs.YtgaknbnhmoddcaaGreatDoor
namespace Go.Proofs.YtgaknbnhmoddcaaGreatDoor
open Go.RowKit
/-- A slice that reads as texts. -/
def StrSl (v : Value) (l : List ByteArray) (W : World) : Prop := (∃ a cap, v = .slice a 0 cap ∧ l = []) ∨ ∃ b off cap, v = .slice (some ⟨b, off, none⟩) l.length cap ∧ ∀ (j : Nat) x, l[j]? = some x → W.cell? ⟨b, off + j, none⟩ = some (.string x)
theorem OwnS.sl {B : Nat} {v : Value} {l : List ByteArray} {w : World} (h : OwnS B v l w) : StrSl v l w := by
  rcases h.cells with ⟨h1, h2⟩ | ⟨g, cap, h1, h2, h3, h4⟩
  · exact Or.inl ⟨_, _, h1, h2⟩
  · exact Or.inr ⟨g, 0, cap, h1, h4⟩
end Go.Proofs.YtgaknbnhmoddcaaGreatDoor
namespace Go.Proofs.YtgaknbnhmoddcaaGreatDoor
open Go.RowKit
theorem StrSl.below {v : Value} {l : List ByteArray} {w w' : World} (h : StrSl v l w) (hb : Below w.heap.size w w') : StrSl v l w' := by
  rcases h with h | ⟨b, off, cap, h1, h2⟩
  · exact Or.inl h
  · refine Or.inr ⟨b, off, cap, h1, fun j x hj => ?_⟩
    exact (hb.cell (p := ⟨b, _, none⟩) (lt_of_cell (h2 j x hj))).trans (h2 j x hj)
end Go.Proofs.YtgaknbnhmoddcaaGreatDoor
namespace Go.Proofs.YtgaknbnhmoddcaaGreatDoor
open Go.RowKit
/-- What behind's inner function finds: the cells, the kinds, itself, the ends. -/
structure BH (w0 : World) (V : List Cel) (b off cap bv ba bw be g : Nat) (es : Array Value) (W : World) : Prop where
  hv : W.heap[bv]? = some (.cells #[.slice (some ⟨b, off, none⟩) V.length cap] 22 (0, 0))
  ha : W.heap[ba]? = some (.cells kindsA 184 (0, 0))
  hw : W.heap[bw]? = some (.cells #[.func (.func 113) #[] #[.pointer (some ⟨bv, 0, none⟩), .pointer (some ⟨ba, 0, none⟩), .pointer (some ⟨bw, 0, none⟩), .pointer (some ⟨be, 0, none⟩)]] 186 (0, 0))
  he : W.heap[be]? = some (.cells #[.slice (some ⟨g, 0, none⟩) V.length V.length] 131 (0, 0))
  hg : W.heap[g]? = some (.cells es 3 (0, 0))
  size : es.size = V.length
  bel : Below w0.heap.size w0 W
  lv : w0.heap.size ≤ bv
  la : w0.heap.size ≤ ba
  lw : w0.heap.size ≤ bw
  le : w0.heap.size ≤ be
  lg : w0.heap.size ≤ g
  nv : bv ≠ g
  na : ba ≠ g
  nw : bw ≠ g
  ne : be ≠ g
section
variable {w0 : World} {V : List Cel} {b off cap bv ba bw be g : Nat} {es : Array Value} {W W' : World}
theorem BH.below (h : BH w0 V b off cap bv ba bw be g es W) (hb : Below W.heap.size W W') : BH w0 V b off cap bv ba bw be g es W' :=
  { h with
    hv := (hb.block _ (heap_lt h.hv)).trans h.hv
    ha := (hb.block _ (heap_lt h.ha)).trans h.ha
    hw := (hb.block _ (heap_lt h.hw)).trans h.hw
    he := (hb.block _ (heap_lt h.he)).trans h.he
    hg := (hb.block _ (heap_lt h.hg)).trans h.hg
    bel := h.bel.trans (hb.mono h.bel.size) }
theorem BH.alloc (h : BH w0 V b off cap bv ba bw be g es W) (o : Obj) : BH w0 V b off cap bv ba bw be g es (W.alloc o) := h.below ((Below.refl _ _).alloc (Nat.le_refl _) _)
theorem BH.grown (h : BH w0 V b off cap bv ba bw be g es W) (hb : W.grownBy W' (some g)) {es' : Array Value} (hg : W'.heap[g]? = some (.cells es' 3 (0, 0))) (hs : es'.size = es.size) : BH w0 V b off cap bv ba bw be g es' W' :=
  { h with
    hv := (hb.block _ (heap_lt h.hv) (fun e => h.nv (Option.some.inj e))).trans h.hv
    ha := (hb.block _ (heap_lt h.ha) (fun e => h.na (Option.some.inj e))).trans h.ha
    hw := (hb.block _ (heap_lt h.hw) (fun e => h.nw (Option.some.inj e))).trans h.hw
    he := (hb.block _ (heap_lt h.he) (fun e => h.ne (Option.some.inj e))).trans h.he
    hg := hg
    size := hs.trans h.size
    bel := h.bel.grown hb h.bel.size (fun k hk => by have := Option.some.inj hk; have := h.lg; omega) }
end
theorem grown_below {W W' : World} (hb : Below W.heap.size W W') (row : Option Nat) : W.grownBy W' row := ⟨hb.os, hb.tape, hb.output, hb.size, fun k hk _ => hb.block k hk⟩
theorem grown_trans {W W' W'' : World} {row : Option Nat} (h : W.grownBy W' row) (h' : W'.grownBy W'' row) : W.grownBy W'' row :=
  ⟨h'.os.trans h.os, h'.tape.trans h.tape, h'.output.trans h.output, Nat.le_trans h.size h'.size, fun k hk hne => (h'.block k (Nat.lt_of_lt_of_le hk h.size) hne).trans (h.block k hk hne)⟩
/-- What a call of behind's inner function hands back: the place, and the ends that it wrote. -/
def BEnd (V : List Cel) (k d g : Nat) (es : Array Value) (r : Int) (e : Ending) (W W' : World) : Prop :=
  e = .returned (.int .i64 r) ∧ W.grownBy W' (some g) ∧ ∃ es' : Array Value, W'.heap[g]? = some (.cells es' 3 (0, 0)) ∧ es'.size = es.size ∧
    ∀ n, valN d (V.drop k) = some n → (∀ i, i < k ∨ k + n ≤ i → es'[i]? = es[i]?) ∧ ∀ i, k ≤ i → i < k + n → es'[i]? = some (.int .i64 (endI V i 16))
theorem bend_no {V : List Cel} {k d g : Nat} {es : Array Value} {W W' : World} (hn : valN d (V.drop k) = none) (hg : W.heap[g]? = some (.cells es 3 (0, 0))) (hb : Below W.heap.size W W') : BEnd V k d g es (endI V k d) (.returned (.int .i64 (-1))) W W' := by
  have : endI V k d = -1 := by unfold endI; rw [hn]
  rw [this]
  refine ⟨rfl, grown_below hb _, es, (hb.block _ (heap_lt hg)).trans hg, rfl, ?_⟩
  intro n h
  rw [hn] at h; cases h
set_option maxRecDepth 100000 in
set_option maxHeartbeats 1000000 in
theorem bw_big (w0 : World) (V : List Cel) (b off cap bv ba bw be g : Nat) (es : Array Value) (W : World) (k d : Nat) (hB : BH w0 V b off cap bv ba bw be g es W) (kk : Nat) (nx tx : ByteArray) (nu mn : Int)
    (hk : k < V.length) (hl : V.length ≤ 100000) (hd : d ≤ 16)
    (c0 : W.cell? ⟨b, off + k * 5, none⟩ = some (.int .u8 (kk : Int))) (c1 : W.cell? ⟨b, off + k * 5 + 1, none⟩ = some (.string nx)) (c2 : W.cell? ⟨b, off + k * 5 + 2, none⟩ = some (.string tx)) (c3 : W.cell? ⟨b, off + k * 5 + 3, none⟩ = some (.int .i64 nu)) (c4 : W.cell? ⟨b, off + k * 5 + 4, none⟩ = some (.int .i64 mn))
    (h7 : 7 < kk) (h8 : kk ≤ 255) :
    Calls Tryz.prog 113 #[.int .i64 (k : Int), .int .i64 (d : Int), .pointer (some ⟨bv, 0, none⟩), .pointer (some ⟨ba, 0, none⟩), .pointer (some ⟨bw, 0, none⟩), .pointer (some ⟨be, 0, none⟩)] W fun e w' => e = .returned (.int .i64 (-1)) ∧ Below W.heap.size W w' := by
  have v0 : W.cell? ⟨bv, 0, none⟩ = some (.slice (some ⟨b, off, none⟩) V.length cap) := by rw [Lib.cell_of_heap hB.hv]; rfl
  clear hB
  go_enter Tryz.func113, Tryz.ntmps113
  go_wp2_with fail
  go_ret
  exact ⟨rfl, (Below.refl _ _).alloc (Nat.le_refl _) _⟩
set_option maxRecDepth 100000 in
set_option maxHeartbeats 1000000 in
theorem bw_text (w0 : World) (V : List Cel) (b off cap bv ba bw be g : Nat) (es : Array Value) (W : World) (k d : Nat) (hB : BH w0 V b off cap bv ba bw be g es W) (kk : Nat) (nx tx : ByteArray) (nu mn : Int)
    (hk : k < V.length) (hl : V.length ≤ 100000) (hd : d ≤ 16)
    (c0 : W.cell? ⟨b, off + k * 5, none⟩ = some (.int .u8 (kk : Int))) (c1 : W.cell? ⟨b, off + k * 5 + 1, none⟩ = some (.string nx)) (c2 : W.cell? ⟨b, off + k * 5 + 2, none⟩ = some (.string tx)) (c3 : W.cell? ⟨b, off + k * 5 + 3, none⟩ = some (.int .i64 nu)) (c4 : W.cell? ⟨b, off + k * 5 + 4, none⟩ = some (.int .i64 mn))
    (hk7 : kk ≤ 7) (HT : Hid (∀ w : World, Below W.heap.size W w → Calls Tryz.prog (tfun kk) #[.string tx] w fun e w' => e = .returned (.bool false) ∧ Below w.heap.size w w')) :
    Calls Tryz.prog 113 #[.int .i64 (k : Int), .int .i64 (d : Int), .pointer (some ⟨bv, 0, none⟩), .pointer (some ⟨ba, 0, none⟩), .pointer (some ⟨bw, 0, none⟩), .pointer (some ⟨be, 0, none⟩)] W fun e w' => e = .returned (.int .i64 (-1)) ∧ Below W.heap.size W w' := by
  have v0 : W.cell? ⟨bv, 0, none⟩ = some (.slice (some ⟨b, off, none⟩) V.length cap) := by rw [Lib.cell_of_heap hB.hv]; rfl
  have lba := heap_lt hB.ha
  have lbv := heap_lt hB.hv
  obtain ⟨a0, a1, a2⟩ := kindsA_get kk hk7
  have k0 : W.cell? ⟨ba, kk * 3, none⟩ = some (.func (.func (tfun kk)) #[] #[]) := by rw [Lib.cell_of_heap hB.ha]; exact a0
  have k1 : W.cell? ⟨ba, kk * 3 + 1, none⟩ = some (.func (.func (nfun kk)) #[] #[]) := by rw [Lib.cell_of_heap hB.ha]; exact a1
  have k2 : W.cell? ⟨ba, kk * 3 + 2, none⟩ = some (.bool (cnest kk)) := by rw [Lib.cell_of_heap hB.ha]; exact a2
  have ht := tfun_ent kk
  have hn := nfun_ent kk
  clear a0 a1 a2
  generalize tfun kk = ft at *
  generalize nfun kk = fn at *
  generalize cnest kk = nest at *
  have HB := Lib.hid hB
  clear hB
  go_enter Tryz.func113, Tryz.ntmps113
  go_wp2_with fail
  refine (HT.out _ (((Below.refl _ _).alloc (Nat.le_refl _) _).alloc (by simp) _)).mono ?_; rintro e w1 ⟨rfl, hb⟩
  have hb1 : Below W.heap.size W w1 := (((Below.refl _ _).alloc (Nat.le_refl _) _).alloc (by simp) _).trans (hb.mono (by simp; omega))
  have hc : w1.heap[W.heap.size]? = some (.cells #[.int .u8 (kk : Int), .string nx, .string tx, .int .i64 nu, .int .i64 mn] 63 (0, 0)) := (hb.block _ (by simp; omega)).trans (heap_old (heap_new _ _ _ rfl))
  have hq : w1.heap[W.heap.size + 1]? = some (.cells #[.func (.func ft) #[] #[], .func (.func fn) #[] #[], .bool nest] 183 (0, 0)) := (hb.block _ (by simp)).trans (heap_new _ _ _ (by simp))
  clear hb
  have w1c0 : w1.cell? ⟨W.heap.size, 0, none⟩ = some (.int .u8 (kk : Int)) := by rw [Lib.cell_of_heap hc]; rfl
  have w1c1 : w1.cell? ⟨W.heap.size, 1, none⟩ = some (.string nx) := by rw [Lib.cell_of_heap hc]; rfl
  have w1c2 : w1.cell? ⟨W.heap.size, 2, none⟩ = some (.string tx) := by rw [Lib.cell_of_heap hc]; rfl
  have w1c3 : w1.cell? ⟨W.heap.size, 3, none⟩ = some (.int .i64 nu) := by rw [Lib.cell_of_heap hc]; rfl
  have w1c4 : w1.cell? ⟨W.heap.size, 4, none⟩ = some (.int .i64 mn) := by rw [Lib.cell_of_heap hc]; rfl
  have w1q0 : w1.cell? ⟨W.heap.size + 1, 0, none⟩ = some (.func (.func ft) #[] #[]) := by rw [Lib.cell_of_heap hq]; rfl
  have w1q1 : w1.cell? ⟨W.heap.size + 1, 1, none⟩ = some (.func (.func fn) #[] #[]) := by rw [Lib.cell_of_heap hq]; rfl
  have w1q2 : w1.cell? ⟨W.heap.size + 1, 2, none⟩ = some (.bool nest) := by rw [Lib.cell_of_heap hq]; rfl
  have HC := Lib.hid hc
  have HQ := Lib.hid hq
  have HB1 := Lib.hid hb1
  clear hc hq hb1
  go_wp2_with fail
  go_ret
  exact ⟨rfl, HB1.out⟩
set_option maxRecDepth 100000 in
set_option maxHeartbeats 1000000 in
theorem bw_num (w0 : World) (V : List Cel) (b off cap bv ba bw be g : Nat) (es : Array Value) (W : World) (k d : Nat) (hB : BH w0 V b off cap bv ba bw be g es W) (kk : Nat) (nx tx : ByteArray) (nu mn : Int)
    (hk : k < V.length) (hl : V.length ≤ 100000) (hd : d ≤ 16)
    (c0 : W.cell? ⟨b, off + k * 5, none⟩ = some (.int .u8 (kk : Int))) (c1 : W.cell? ⟨b, off + k * 5 + 1, none⟩ = some (.string nx)) (c2 : W.cell? ⟨b, off + k * 5 + 2, none⟩ = some (.string tx)) (c3 : W.cell? ⟨b, off + k * 5 + 3, none⟩ = some (.int .i64 nu)) (c4 : W.cell? ⟨b, off + k * 5 + 4, none⟩ = some (.int .i64 mn))
    (hk7 : kk ≤ 7) (HT : Hid (∀ w : World, Below W.heap.size W w → Calls Tryz.prog (tfun kk) #[.string tx] w fun e w' => e = .returned (.bool true) ∧ Below w.heap.size w w'))
    (HN : Hid (∀ w : World, Calls Tryz.prog (nfun kk) #[.int .i64 nu] w fun e w' => e = .returned (.bool false) ∧ Below w.heap.size w w')) :
    Calls Tryz.prog 113 #[.int .i64 (k : Int), .int .i64 (d : Int), .pointer (some ⟨bv, 0, none⟩), .pointer (some ⟨ba, 0, none⟩), .pointer (some ⟨bw, 0, none⟩), .pointer (some ⟨be, 0, none⟩)] W fun e w' => e = .returned (.int .i64 (-1)) ∧ Below W.heap.size W w' := by
  have v0 : W.cell? ⟨bv, 0, none⟩ = some (.slice (some ⟨b, off, none⟩) V.length cap) := by rw [Lib.cell_of_heap hB.hv]; rfl
  have lba := heap_lt hB.ha
  have lbv := heap_lt hB.hv
  obtain ⟨a0, a1, a2⟩ := kindsA_get kk hk7
  have k0 : W.cell? ⟨ba, kk * 3, none⟩ = some (.func (.func (tfun kk)) #[] #[]) := by rw [Lib.cell_of_heap hB.ha]; exact a0
  have k1 : W.cell? ⟨ba, kk * 3 + 1, none⟩ = some (.func (.func (nfun kk)) #[] #[]) := by rw [Lib.cell_of_heap hB.ha]; exact a1
  have k2 : W.cell? ⟨ba, kk * 3 + 2, none⟩ = some (.bool (cnest kk)) := by rw [Lib.cell_of_heap hB.ha]; exact a2
  have ht := tfun_ent kk
  have hn := nfun_ent kk
  clear a0 a1 a2
  generalize tfun kk = ft at *
  generalize nfun kk = fn at *
  generalize cnest kk = nest at *
  have HB := Lib.hid hB
  clear hB
  go_enter Tryz.func113, Tryz.ntmps113
  go_wp2_with fail
  refine (HT.out _ (((Below.refl _ _).alloc (Nat.le_refl _) _).alloc (by simp) _)).mono ?_; rintro e w1 ⟨rfl, hb⟩
  have hb1 : Below W.heap.size W w1 := (((Below.refl _ _).alloc (Nat.le_refl _) _).alloc (by simp) _).trans (hb.mono (by simp; omega))
  have hc : w1.heap[W.heap.size]? = some (.cells #[.int .u8 (kk : Int), .string nx, .string tx, .int .i64 nu, .int .i64 mn] 63 (0, 0)) := (hb.block _ (by simp; omega)).trans (heap_old (heap_new _ _ _ rfl))
  have hq : w1.heap[W.heap.size + 1]? = some (.cells #[.func (.func ft) #[] #[], .func (.func fn) #[] #[], .bool nest] 183 (0, 0)) := (hb.block _ (by simp)).trans (heap_new _ _ _ (by simp))
  clear hb
  have w1c0 : w1.cell? ⟨W.heap.size, 0, none⟩ = some (.int .u8 (kk : Int)) := by rw [Lib.cell_of_heap hc]; rfl
  have w1c1 : w1.cell? ⟨W.heap.size, 1, none⟩ = some (.string nx) := by rw [Lib.cell_of_heap hc]; rfl
  have w1c2 : w1.cell? ⟨W.heap.size, 2, none⟩ = some (.string tx) := by rw [Lib.cell_of_heap hc]; rfl
  have w1c3 : w1.cell? ⟨W.heap.size, 3, none⟩ = some (.int .i64 nu) := by rw [Lib.cell_of_heap hc]; rfl
  have w1c4 : w1.cell? ⟨W.heap.size, 4, none⟩ = some (.int .i64 mn) := by rw [Lib.cell_of_heap hc]; rfl
  have w1q0 : w1.cell? ⟨W.heap.size + 1, 0, none⟩ = some (.func (.func ft) #[] #[]) := by rw [Lib.cell_of_heap hq]; rfl
  have w1q1 : w1.cell? ⟨W.heap.size + 1, 1, none⟩ = some (.func (.func fn) #[] #[]) := by rw [Lib.cell_of_heap hq]; rfl
  have w1q2 : w1.cell? ⟨W.heap.size + 1, 2, none⟩ = some (.bool nest) := by rw [Lib.cell_of_heap hq]; rfl
  have HC := Lib.hid hc
  have HQ := Lib.hid hq
  have HB1 := Lib.hid hb1
  clear hc hq hb1
  go_wp2_with fail
  refine (HN.out _).mono ?_; rintro e w2 ⟨rfl, hb⟩
  clear w1c0 w1c1 w1c2 w1c3 w1c4 w1q0 w1q1 w1q2
  have hb2 : Below W.heap.size W w2 := HB1.out.trans (hb.mono HB1.out.size)
  have hc : w2.heap[W.heap.size]? = some (.cells #[.int .u8 (kk : Int), .string nx, .string tx, .int .i64 nu, .int .i64 mn] 63 (0, 0)) := (hb.block _ (heap_lt HC.out)).trans HC.out
  have hq : w2.heap[W.heap.size + 1]? = some (.cells #[.func (.func ft) #[] #[], .func (.func fn) #[] #[], .bool nest] 183 (0, 0)) := (hb.block _ (heap_lt HQ.out)).trans HQ.out
  clear hb
  have w2c0 : w2.cell? ⟨W.heap.size, 0, none⟩ = some (.int .u8 (kk : Int)) := by rw [Lib.cell_of_heap hc]; rfl
  have w2c1 : w2.cell? ⟨W.heap.size, 1, none⟩ = some (.string nx) := by rw [Lib.cell_of_heap hc]; rfl
  have w2c2 : w2.cell? ⟨W.heap.size, 2, none⟩ = some (.string tx) := by rw [Lib.cell_of_heap hc]; rfl
  have w2c3 : w2.cell? ⟨W.heap.size, 3, none⟩ = some (.int .i64 nu) := by rw [Lib.cell_of_heap hc]; rfl
  have w2c4 : w2.cell? ⟨W.heap.size, 4, none⟩ = some (.int .i64 mn) := by rw [Lib.cell_of_heap hc]; rfl
  have w2q0 : w2.cell? ⟨W.heap.size + 1, 0, none⟩ = some (.func (.func ft) #[] #[]) := by rw [Lib.cell_of_heap hq]; rfl
  have w2q1 : w2.cell? ⟨W.heap.size + 1, 1, none⟩ = some (.func (.func fn) #[] #[]) := by rw [Lib.cell_of_heap hq]; rfl
  have w2q2 : w2.cell? ⟨W.heap.size + 1, 2, none⟩ = some (.bool nest) := by rw [Lib.cell_of_heap hq]; rfl
  have HC2 := Lib.hid hc
  have HQ2 := Lib.hid hq
  have HB2 := Lib.hid hb2
  clear hc hq hb2 HC HQ HB1
  go_wp2_with fail
  go_ret
  exact ⟨rfl, HB2.out⟩
set_option maxRecDepth 100000 in
set_option maxHeartbeats 1000000 in
theorem bw_neg (w0 : World) (V : List Cel) (b off cap bv ba bw be g : Nat) (es : Array Value) (W : World) (k d : Nat) (hB : BH w0 V b off cap bv ba bw be g es W) (kk : Nat) (nx tx : ByteArray) (nu mn : Int)
    (hk : k < V.length) (hl : V.length ≤ 100000) (hd : d ≤ 16)
    (c0 : W.cell? ⟨b, off + k * 5, none⟩ = some (.int .u8 (kk : Int))) (c1 : W.cell? ⟨b, off + k * 5 + 1, none⟩ = some (.string nx)) (c2 : W.cell? ⟨b, off + k * 5 + 2, none⟩ = some (.string tx)) (c3 : W.cell? ⟨b, off + k * 5 + 3, none⟩ = some (.int .i64 nu)) (c4 : W.cell? ⟨b, off + k * 5 + 4, none⟩ = some (.int .i64 mn))
    (hk7 : kk ≤ 7) (HT : Hid (∀ w : World, Below W.heap.size W w → Calls Tryz.prog (tfun kk) #[.string tx] w fun e w' => e = .returned (.bool true) ∧ Below w.heap.size w w'))
    (HN : Hid (∀ w : World, Calls Tryz.prog (nfun kk) #[.int .i64 nu] w fun e w' => e = .returned (.bool true) ∧ Below w.heap.size w w'))
    (hm : mn < 0) :
    Calls Tryz.prog 113 #[.int .i64 (k : Int), .int .i64 (d : Int), .pointer (some ⟨bv, 0, none⟩), .pointer (some ⟨ba, 0, none⟩), .pointer (some ⟨bw, 0, none⟩), .pointer (some ⟨be, 0, none⟩)] W fun e w' => e = .returned (.int .i64 (-1)) ∧ Below W.heap.size W w' := by
  have v0 : W.cell? ⟨bv, 0, none⟩ = some (.slice (some ⟨b, off, none⟩) V.length cap) := by rw [Lib.cell_of_heap hB.hv]; rfl
  have lba := heap_lt hB.ha
  have lbv := heap_lt hB.hv
  obtain ⟨a0, a1, a2⟩ := kindsA_get kk hk7
  have k0 : W.cell? ⟨ba, kk * 3, none⟩ = some (.func (.func (tfun kk)) #[] #[]) := by rw [Lib.cell_of_heap hB.ha]; exact a0
  have k1 : W.cell? ⟨ba, kk * 3 + 1, none⟩ = some (.func (.func (nfun kk)) #[] #[]) := by rw [Lib.cell_of_heap hB.ha]; exact a1
  have k2 : W.cell? ⟨ba, kk * 3 + 2, none⟩ = some (.bool (cnest kk)) := by rw [Lib.cell_of_heap hB.ha]; exact a2
  have ht := tfun_ent kk
  have hn := nfun_ent kk
  clear a0 a1 a2
  generalize tfun kk = ft at *
  generalize nfun kk = fn at *
  generalize cnest kk = nest at *
  have HB := Lib.hid hB
  clear hB
  go_enter Tryz.func113, Tryz.ntmps113
  go_wp2_with fail
  refine (HT.out _ (((Below.refl _ _).alloc (Nat.le_refl _) _).alloc (by simp) _)).mono ?_; rintro e w1 ⟨rfl, hb⟩
  have hb1 : Below W.heap.size W w1 := (((Below.refl _ _).alloc (Nat.le_refl _) _).alloc (by simp) _).trans (hb.mono (by simp; omega))
  have hc : w1.heap[W.heap.size]? = some (.cells #[.int .u8 (kk : Int), .string nx, .string tx, .int .i64 nu, .int .i64 mn] 63 (0, 0)) := (hb.block _ (by simp; omega)).trans (heap_old (heap_new _ _ _ rfl))
  have hq : w1.heap[W.heap.size + 1]? = some (.cells #[.func (.func ft) #[] #[], .func (.func fn) #[] #[], .bool nest] 183 (0, 0)) := (hb.block _ (by simp)).trans (heap_new _ _ _ (by simp))
  clear hb
  have w1c0 : w1.cell? ⟨W.heap.size, 0, none⟩ = some (.int .u8 (kk : Int)) := by rw [Lib.cell_of_heap hc]; rfl
  have w1c1 : w1.cell? ⟨W.heap.size, 1, none⟩ = some (.string nx) := by rw [Lib.cell_of_heap hc]; rfl
  have w1c2 : w1.cell? ⟨W.heap.size, 2, none⟩ = some (.string tx) := by rw [Lib.cell_of_heap hc]; rfl
  have w1c3 : w1.cell? ⟨W.heap.size, 3, none⟩ = some (.int .i64 nu) := by rw [Lib.cell_of_heap hc]; rfl
  have w1c4 : w1.cell? ⟨W.heap.size, 4, none⟩ = some (.int .i64 mn) := by rw [Lib.cell_of_heap hc]; rfl
  have w1q0 : w1.cell? ⟨W.heap.size + 1, 0, none⟩ = some (.func (.func ft) #[] #[]) := by rw [Lib.cell_of_heap hq]; rfl
  have w1q1 : w1.cell? ⟨W.heap.size + 1, 1, none⟩ = some (.func (.func fn) #[] #[]) := by rw [Lib.cell_of_heap hq]; rfl
  have w1q2 : w1.cell? ⟨W.heap.size + 1, 2, none⟩ = some (.bool nest) := by rw [Lib.cell_of_heap hq]; rfl
  have HC := Lib.hid hc
  have HQ := Lib.hid hq
  have HB1 := Lib.hid hb1
  clear hc hq hb1
  go_wp2_with fail
  refine (HN.out _).mono ?_; rintro e w2 ⟨rfl, hb⟩
  clear w1c0 w1c1 w1c2 w1c3 w1c4 w1q0 w1q1 w1q2
  have hb2 : Below W.heap.size W w2 := HB1.out.trans (hb.mono HB1.out.size)
  have hc : w2.heap[W.heap.size]? = some (.cells #[.int .u8 (kk : Int), .string nx, .string tx, .int .i64 nu, .int .i64 mn] 63 (0, 0)) := (hb.block _ (heap_lt HC.out)).trans HC.out
  have hq : w2.heap[W.heap.size + 1]? = some (.cells #[.func (.func ft) #[] #[], .func (.func fn) #[] #[], .bool nest] 183 (0, 0)) := (hb.block _ (heap_lt HQ.out)).trans HQ.out
  clear hb
  have w2c0 : w2.cell? ⟨W.heap.size, 0, none⟩ = some (.int .u8 (kk : Int)) := by rw [Lib.cell_of_heap hc]; rfl
  have w2c1 : w2.cell? ⟨W.heap.size, 1, none⟩ = some (.string nx) := by rw [Lib.cell_of_heap hc]; rfl
  have w2c2 : w2.cell? ⟨W.heap.size, 2, none⟩ = some (.string tx) := by rw [Lib.cell_of_heap hc]; rfl
  have w2c3 : w2.cell? ⟨W.heap.size, 3, none⟩ = some (.int .i64 nu) := by rw [Lib.cell_of_heap hc]; rfl
  have w2c4 : w2.cell? ⟨W.heap.size, 4, none⟩ = some (.int .i64 mn) := by rw [Lib.cell_of_heap hc]; rfl
  have w2q0 : w2.cell? ⟨W.heap.size + 1, 0, none⟩ = some (.func (.func ft) #[] #[]) := by rw [Lib.cell_of_heap hq]; rfl
  have w2q1 : w2.cell? ⟨W.heap.size + 1, 1, none⟩ = some (.func (.func fn) #[] #[]) := by rw [Lib.cell_of_heap hq]; rfl
  have w2q2 : w2.cell? ⟨W.heap.size + 1, 2, none⟩ = some (.bool nest) := by rw [Lib.cell_of_heap hq]; rfl
  have HC2 := Lib.hid hc
  have HQ2 := Lib.hid hq
  have HB2 := Lib.hid hb2
  clear hc hq hb2 HC HQ HB1
  go_wp2_with fail
  go_ret
  exact ⟨rfl, HB2.out⟩
set_option maxRecDepth 100000 in
set_option maxHeartbeats 1000000 in
theorem bw_leaf (w0 : World) (V : List Cel) (b off cap bv ba bw be g : Nat) (es : Array Value) (W : World) (k d : Nat) (hB : BH w0 V b off cap bv ba bw be g es W) (kk : Nat) (nx tx : ByteArray) (nu mn : Int)
    (hk : k < V.length) (hl : V.length ≤ 100000) (hd : d ≤ 16)
    (c0 : W.cell? ⟨b, off + k * 5, none⟩ = some (.int .u8 (kk : Int))) (c1 : W.cell? ⟨b, off + k * 5 + 1, none⟩ = some (.string nx)) (c2 : W.cell? ⟨b, off + k * 5 + 2, none⟩ = some (.string tx)) (c3 : W.cell? ⟨b, off + k * 5 + 3, none⟩ = some (.int .i64 nu)) (c4 : W.cell? ⟨b, off + k * 5 + 4, none⟩ = some (.int .i64 mn))
    (hk7 : kk ≤ 7) (HT : Hid (∀ w : World, Below W.heap.size W w → Calls Tryz.prog (tfun kk) #[.string tx] w fun e w' => e = .returned (.bool true) ∧ Below w.heap.size w w'))
    (HN : Hid (∀ w : World, Calls Tryz.prog (nfun kk) #[.int .i64 nu] w fun e w' => e = .returned (.bool true) ∧ Below w.heap.size w w'))
    (hm0 : 0 ≤ mn) (hcn : cnest kk = false) (hm : 0 < mn) :
    Calls Tryz.prog 113 #[.int .i64 (k : Int), .int .i64 (d : Int), .pointer (some ⟨bv, 0, none⟩), .pointer (some ⟨ba, 0, none⟩), .pointer (some ⟨bw, 0, none⟩), .pointer (some ⟨be, 0, none⟩)] W fun e w' => e = .returned (.int .i64 (-1)) ∧ Below W.heap.size W w' := by
  have v0 : W.cell? ⟨bv, 0, none⟩ = some (.slice (some ⟨b, off, none⟩) V.length cap) := by rw [Lib.cell_of_heap hB.hv]; rfl
  have lba := heap_lt hB.ha
  have lbv := heap_lt hB.hv
  obtain ⟨a0, a1, a2⟩ := kindsA_get kk hk7
  have k0 : W.cell? ⟨ba, kk * 3, none⟩ = some (.func (.func (tfun kk)) #[] #[]) := by rw [Lib.cell_of_heap hB.ha]; exact a0
  have k1 : W.cell? ⟨ba, kk * 3 + 1, none⟩ = some (.func (.func (nfun kk)) #[] #[]) := by rw [Lib.cell_of_heap hB.ha]; exact a1
  have k2 : W.cell? ⟨ba, kk * 3 + 2, none⟩ = some (.bool (cnest kk)) := by rw [Lib.cell_of_heap hB.ha]; exact a2
  have ht := tfun_ent kk
  have hn := nfun_ent kk
  clear a0 a1 a2
  generalize tfun kk = ft at *
  generalize nfun kk = fn at *
  rw [hcn] at k2
  clear hcn
  have HB := Lib.hid hB
  clear hB
  go_enter Tryz.func113, Tryz.ntmps113
  go_wp2_with fail
  refine (HT.out _ (((Below.refl _ _).alloc (Nat.le_refl _) _).alloc (by simp) _)).mono ?_; rintro e w1 ⟨rfl, hb⟩
  have hb1 : Below W.heap.size W w1 := (((Below.refl _ _).alloc (Nat.le_refl _) _).alloc (by simp) _).trans (hb.mono (by simp; omega))
  have hc : w1.heap[W.heap.size]? = some (.cells #[.int .u8 (kk : Int), .string nx, .string tx, .int .i64 nu, .int .i64 mn] 63 (0, 0)) := (hb.block _ (by simp; omega)).trans (heap_old (heap_new _ _ _ rfl))
  have hq : w1.heap[W.heap.size + 1]? = some (.cells #[.func (.func ft) #[] #[], .func (.func fn) #[] #[], .bool false] 183 (0, 0)) := (hb.block _ (by simp)).trans (heap_new _ _ _ (by simp))
  clear hb
  have w1c0 : w1.cell? ⟨W.heap.size, 0, none⟩ = some (.int .u8 (kk : Int)) := by rw [Lib.cell_of_heap hc]; rfl
  have w1c1 : w1.cell? ⟨W.heap.size, 1, none⟩ = some (.string nx) := by rw [Lib.cell_of_heap hc]; rfl
  have w1c2 : w1.cell? ⟨W.heap.size, 2, none⟩ = some (.string tx) := by rw [Lib.cell_of_heap hc]; rfl
  have w1c3 : w1.cell? ⟨W.heap.size, 3, none⟩ = some (.int .i64 nu) := by rw [Lib.cell_of_heap hc]; rfl
  have w1c4 : w1.cell? ⟨W.heap.size, 4, none⟩ = some (.int .i64 mn) := by rw [Lib.cell_of_heap hc]; rfl
  have w1q0 : w1.cell? ⟨W.heap.size + 1, 0, none⟩ = some (.func (.func ft) #[] #[]) := by rw [Lib.cell_of_heap hq]; rfl
  have w1q1 : w1.cell? ⟨W.heap.size + 1, 1, none⟩ = some (.func (.func fn) #[] #[]) := by rw [Lib.cell_of_heap hq]; rfl
  have w1q2 : w1.cell? ⟨W.heap.size + 1, 2, none⟩ = some (.bool false) := by rw [Lib.cell_of_heap hq]; rfl
  have HC := Lib.hid hc
  have HQ := Lib.hid hq
  have HB1 := Lib.hid hb1
  clear hc hq hb1
  go_wp2_with fail
  refine (HN.out _).mono ?_; rintro e w2 ⟨rfl, hb⟩
  clear w1c0 w1c1 w1c2 w1c3 w1c4 w1q0 w1q1 w1q2
  have hb2 : Below W.heap.size W w2 := HB1.out.trans (hb.mono HB1.out.size)
  have hc : w2.heap[W.heap.size]? = some (.cells #[.int .u8 (kk : Int), .string nx, .string tx, .int .i64 nu, .int .i64 mn] 63 (0, 0)) := (hb.block _ (heap_lt HC.out)).trans HC.out
  have hq : w2.heap[W.heap.size + 1]? = some (.cells #[.func (.func ft) #[] #[], .func (.func fn) #[] #[], .bool false] 183 (0, 0)) := (hb.block _ (heap_lt HQ.out)).trans HQ.out
  clear hb
  have w2c0 : w2.cell? ⟨W.heap.size, 0, none⟩ = some (.int .u8 (kk : Int)) := by rw [Lib.cell_of_heap hc]; rfl
  have w2c1 : w2.cell? ⟨W.heap.size, 1, none⟩ = some (.string nx) := by rw [Lib.cell_of_heap hc]; rfl
  have w2c2 : w2.cell? ⟨W.heap.size, 2, none⟩ = some (.string tx) := by rw [Lib.cell_of_heap hc]; rfl
  have w2c3 : w2.cell? ⟨W.heap.size, 3, none⟩ = some (.int .i64 nu) := by rw [Lib.cell_of_heap hc]; rfl
  have w2c4 : w2.cell? ⟨W.heap.size, 4, none⟩ = some (.int .i64 mn) := by rw [Lib.cell_of_heap hc]; rfl
  have w2q0 : w2.cell? ⟨W.heap.size + 1, 0, none⟩ = some (.func (.func ft) #[] #[]) := by rw [Lib.cell_of_heap hq]; rfl
  have w2q1 : w2.cell? ⟨W.heap.size + 1, 1, none⟩ = some (.func (.func fn) #[] #[]) := by rw [Lib.cell_of_heap hq]; rfl
  have w2q2 : w2.cell? ⟨W.heap.size + 1, 2, none⟩ = some (.bool false) := by rw [Lib.cell_of_heap hq]; rfl
  have HC2 := Lib.hid hc
  have HQ2 := Lib.hid hq
  have HB2 := Lib.hid hb2
  clear hc hq hb2 HC HQ HB1
  go_wp2_with fail
  go_ret
  exact ⟨rfl, HB2.out⟩
set_option maxRecDepth 100000 in
set_option maxHeartbeats 1000000 in
theorem bw_deep (w0 : World) (V : List Cel) (b off cap bv ba bw be g : Nat) (es : Array Value) (W : World) (k d : Nat) (hB : BH w0 V b off cap bv ba bw be g es W) (kk : Nat) (nx tx : ByteArray) (nu mn : Int)
    (hk : k < V.length) (hl : V.length ≤ 100000) (hd : d ≤ 16)
    (c0 : W.cell? ⟨b, off + k * 5, none⟩ = some (.int .u8 (kk : Int))) (c1 : W.cell? ⟨b, off + k * 5 + 1, none⟩ = some (.string nx)) (c2 : W.cell? ⟨b, off + k * 5 + 2, none⟩ = some (.string tx)) (c3 : W.cell? ⟨b, off + k * 5 + 3, none⟩ = some (.int .i64 nu)) (c4 : W.cell? ⟨b, off + k * 5 + 4, none⟩ = some (.int .i64 mn))
    (hk7 : kk ≤ 7) (HT : Hid (∀ w : World, Below W.heap.size W w → Calls Tryz.prog (tfun kk) #[.string tx] w fun e w' => e = .returned (.bool true) ∧ Below w.heap.size w w'))
    (HN : Hid (∀ w : World, Calls Tryz.prog (nfun kk) #[.int .i64 nu] w fun e w' => e = .returned (.bool true) ∧ Below w.heap.size w w'))
    (hm0 : 0 ≤ mn) (hcn : cnest kk = true) (hd0 : d = 0) :
    Calls Tryz.prog 113 #[.int .i64 (k : Int), .int .i64 (d : Int), .pointer (some ⟨bv, 0, none⟩), .pointer (some ⟨ba, 0, none⟩), .pointer (some ⟨bw, 0, none⟩), .pointer (some ⟨be, 0, none⟩)] W fun e w' => e = .returned (.int .i64 (-1)) ∧ Below W.heap.size W w' := by
  have v0 : W.cell? ⟨bv, 0, none⟩ = some (.slice (some ⟨b, off, none⟩) V.length cap) := by rw [Lib.cell_of_heap hB.hv]; rfl
  have lba := heap_lt hB.ha
  have lbv := heap_lt hB.hv
  obtain ⟨a0, a1, a2⟩ := kindsA_get kk hk7
  have k0 : W.cell? ⟨ba, kk * 3, none⟩ = some (.func (.func (tfun kk)) #[] #[]) := by rw [Lib.cell_of_heap hB.ha]; exact a0
  have k1 : W.cell? ⟨ba, kk * 3 + 1, none⟩ = some (.func (.func (nfun kk)) #[] #[]) := by rw [Lib.cell_of_heap hB.ha]; exact a1
  have k2 : W.cell? ⟨ba, kk * 3 + 2, none⟩ = some (.bool (cnest kk)) := by rw [Lib.cell_of_heap hB.ha]; exact a2
  have ht := tfun_ent kk
  have hn := nfun_ent kk
  clear a0 a1 a2
  generalize tfun kk = ft at *
  generalize nfun kk = fn at *
  rw [hcn] at k2
  clear hcn
  have HB := Lib.hid hB
  clear hB
  go_enter Tryz.func113, Tryz.ntmps113
  go_wp2_with fail
  refine (HT.out _ (((Below.refl _ _).alloc (Nat.le_refl _) _).alloc (by simp) _)).mono ?_; rintro e w1 ⟨rfl, hb⟩
  have hb1 : Below W.heap.size W w1 := (((Below.refl _ _).alloc (Nat.le_refl _) _).alloc (by simp) _).trans (hb.mono (by simp; omega))
  have hc : w1.heap[W.heap.size]? = some (.cells #[.int .u8 (kk : Int), .string nx, .string tx, .int .i64 nu, .int .i64 mn] 63 (0, 0)) := (hb.block _ (by simp; omega)).trans (heap_old (heap_new _ _ _ rfl))
  have hq : w1.heap[W.heap.size + 1]? = some (.cells #[.func (.func ft) #[] #[], .func (.func fn) #[] #[], .bool true] 183 (0, 0)) := (hb.block _ (by simp)).trans (heap_new _ _ _ (by simp))
  clear hb
  have w1c0 : w1.cell? ⟨W.heap.size, 0, none⟩ = some (.int .u8 (kk : Int)) := by rw [Lib.cell_of_heap hc]; rfl
  have w1c1 : w1.cell? ⟨W.heap.size, 1, none⟩ = some (.string nx) := by rw [Lib.cell_of_heap hc]; rfl
  have w1c2 : w1.cell? ⟨W.heap.size, 2, none⟩ = some (.string tx) := by rw [Lib.cell_of_heap hc]; rfl
  have w1c3 : w1.cell? ⟨W.heap.size, 3, none⟩ = some (.int .i64 nu) := by rw [Lib.cell_of_heap hc]; rfl
  have w1c4 : w1.cell? ⟨W.heap.size, 4, none⟩ = some (.int .i64 mn) := by rw [Lib.cell_of_heap hc]; rfl
  have w1q0 : w1.cell? ⟨W.heap.size + 1, 0, none⟩ = some (.func (.func ft) #[] #[]) := by rw [Lib.cell_of_heap hq]; rfl
  have w1q1 : w1.cell? ⟨W.heap.size + 1, 1, none⟩ = some (.func (.func fn) #[] #[]) := by rw [Lib.cell_of_heap hq]; rfl
  have w1q2 : w1.cell? ⟨W.heap.size + 1, 2, none⟩ = some (.bool true) := by rw [Lib.cell_of_heap hq]; rfl
  have HC := Lib.hid hc
  have HQ := Lib.hid hq
  have HB1 := Lib.hid hb1
  clear hc hq hb1
  go_wp2_with fail
  refine (HN.out _).mono ?_; rintro e w2 ⟨rfl, hb⟩
  clear w1c0 w1c1 w1c2 w1c3 w1c4 w1q0 w1q1 w1q2
  have hb2 : Below W.heap.size W w2 := HB1.out.trans (hb.mono HB1.out.size)
  have hc : w2.heap[W.heap.size]? = some (.cells #[.int .u8 (kk : Int), .string nx, .string tx, .int .i64 nu, .int .i64 mn] 63 (0, 0)) := (hb.block _ (heap_lt HC.out)).trans HC.out
  have hq : w2.heap[W.heap.size + 1]? = some (.cells #[.func (.func ft) #[] #[], .func (.func fn) #[] #[], .bool true] 183 (0, 0)) := (hb.block _ (heap_lt HQ.out)).trans HQ.out
  clear hb
  have w2c0 : w2.cell? ⟨W.heap.size, 0, none⟩ = some (.int .u8 (kk : Int)) := by rw [Lib.cell_of_heap hc]; rfl
  have w2c1 : w2.cell? ⟨W.heap.size, 1, none⟩ = some (.string nx) := by rw [Lib.cell_of_heap hc]; rfl
  have w2c2 : w2.cell? ⟨W.heap.size, 2, none⟩ = some (.string tx) := by rw [Lib.cell_of_heap hc]; rfl
  have w2c3 : w2.cell? ⟨W.heap.size, 3, none⟩ = some (.int .i64 nu) := by rw [Lib.cell_of_heap hc]; rfl
  have w2c4 : w2.cell? ⟨W.heap.size, 4, none⟩ = some (.int .i64 mn) := by rw [Lib.cell_of_heap hc]; rfl
  have w2q0 : w2.cell? ⟨W.heap.size + 1, 0, none⟩ = some (.func (.func ft) #[] #[]) := by rw [Lib.cell_of_heap hq]; rfl
  have w2q1 : w2.cell? ⟨W.heap.size + 1, 1, none⟩ = some (.func (.func fn) #[] #[]) := by rw [Lib.cell_of_heap hq]; rfl
  have w2q2 : w2.cell? ⟨W.heap.size + 1, 2, none⟩ = some (.bool true) := by rw [Lib.cell_of_heap hq]; rfl
  have HC2 := Lib.hid hc
  have HQ2 := Lib.hid hq
  have HB2 := Lib.hid hb2
  clear hc hq hb2 HC HQ HB1
  go_wp2_with fail
  go_ret
  exact ⟨rfl, HB2.out⟩
end Go.Proofs.YtgaknbnhmoddcaaGreatDoor
namespace Go.Proofs.YtgaknbnhmoddcaaGreatDoor
open Go.RowKit
theorem heap_set {w : World} {b i : Nat} {cs : Array Value} {t : TypeId} (v : Value) (h : w.heap[b]? = some (.cells cs t (0, 0))) : (w.setCell ⟨b, i, none⟩ v).heap[b]? = some (.cells (cs.setIfInBounds i v) t (0, 0)) := by
  rw [setCell_eq_setRow w b i cs t (0, 0) v h]; exact setRow_heap w b cs _ t (0, 0) h
theorem grown_set {W w : World} {g i : Nat} (h : W.grownBy w (some g)) (v : Value) : W.grownBy (w.setCell ⟨g, i, none⟩ v) (some g) :=
  ⟨h.os, h.tape, h.output, by simpa using h.size, fun k hk hne => by
    rw [Below.heap_setCell _ _ _ _ (fun e => hne (by rw [e]))]
    exact h.block k hk hne⟩
theorem bend_yes {V : List Cel} {k d n g : Nat} {es ez : Array Value} {W wz : World} (hn : valN d (V.drop k) = some n) (hd : d ≤ 16) (hk : k < V.length) (hs : es.size = V.length) (hgz : wz.heap[g]? = some (.cells ez 3 (0, 0))) (hsz : ez.size = es.size) (hw : W.grownBy wz (some g))
    (h1 : ∀ i, i < k + 1 ∨ k + n ≤ i → ez[i]? = es[i]?) (h2 : ∀ i, k + 1 ≤ i → i < k + n → ez[i]? = some (.int .i64 (endI V i 16))) :
    BEnd V k d g es (endI V k d) (.returned (.int .i64 ((k + n : Nat) : Int))) W (wz.setCell ⟨g, k, none⟩ (.int .i64 ((k + n : Nat) : Int))) := by
  have he : endI V k d = ((k + n : Nat) : Int) := by unfold endI; rw [hn]
  have he16 : endI V k 16 = ((k + n : Nat) : Int) := by unfold endI; rw [valN_mono hd _ _ hn]
  rw [he]
  refine ⟨rfl, grown_set hw _, _, heap_set _ hgz, by simp [hsz], ?_⟩
  intro n' hn'
  obtain rfl : n = n' := by rw [hn] at hn'; exact Option.some.inj hn'
  have hpos := (valN_le _ _ _ hn).1
  refine ⟨?_, ?_⟩
  · intro i hi
    rw [Array.getElem?_setIfInBounds]
    rw [if_neg (by omega)]
    exact h1 i (by omega)
  · intro i hi1 hi2
    rw [Array.getElem?_setIfInBounds]
    by_cases hik : k = i
    · subst hik
      rw [if_pos rfl, if_pos (by omega), he16]
    · rw [if_neg hik]
      exact h2 i (by omega) hi2
set_option maxRecDepth 100000 in
set_option maxHeartbeats 1000000 in
theorem bw_zero_leaf (w0 : World) (V : List Cel) (b off cap bv ba bw be g : Nat) (es : Array Value) (W : World) (k d : Nat) (hB : BH w0 V b off cap bv ba bw be g es W) (kk : Nat) (nx tx : ByteArray) (nu : Int)
    (hk : k < V.length) (hl : V.length ≤ 100000) (hd : d ≤ 16)
    (c0 : W.cell? ⟨b, off + k * 5, none⟩ = some (.int .u8 (kk : Int))) (c1 : W.cell? ⟨b, off + k * 5 + 1, none⟩ = some (.string nx)) (c2 : W.cell? ⟨b, off + k * 5 + 2, none⟩ = some (.string tx)) (c3 : W.cell? ⟨b, off + k * 5 + 3, none⟩ = some (.int .i64 nu)) (c4 : W.cell? ⟨b, off + k * 5 + 4, none⟩ = some (.int .i64 0))
    (hk7 : kk ≤ 7) (HT : Hid (∀ w : World, Below W.heap.size W w → Calls Tryz.prog (tfun kk) #[.string tx] w fun e w' => e = .returned (.bool true) ∧ Below w.heap.size w w'))
    (HN : Hid (∀ w : World, Calls Tryz.prog (nfun kk) #[.int .i64 nu] w fun e w' => e = .returned (.bool true) ∧ Below w.heap.size w w'))
    (hcn : cnest kk = false) (hval : valN d (V.drop k) = some 1) :
    Calls Tryz.prog 113 #[.int .i64 (k : Int), .int .i64 (d : Int), .pointer (some ⟨bv, 0, none⟩), .pointer (some ⟨ba, 0, none⟩), .pointer (some ⟨bw, 0, none⟩), .pointer (some ⟨be, 0, none⟩)] W fun e w' => BEnd V k d g es (endI V k d) e W w' := by
  have v0 : W.cell? ⟨bv, 0, none⟩ = some (.slice (some ⟨b, off, none⟩) V.length cap) := by rw [Lib.cell_of_heap hB.hv]; rfl
  have HV := Lib.hid hval
  clear hval
  have lba := heap_lt hB.ha
  have lbv := heap_lt hB.hv
  obtain ⟨a0, a1, a2⟩ := kindsA_get kk hk7
  have k0 : W.cell? ⟨ba, kk * 3, none⟩ = some (.func (.func (tfun kk)) #[] #[]) := by rw [Lib.cell_of_heap hB.ha]; exact a0
  have k1 : W.cell? ⟨ba, kk * 3 + 1, none⟩ = some (.func (.func (nfun kk)) #[] #[]) := by rw [Lib.cell_of_heap hB.ha]; exact a1
  have k2 : W.cell? ⟨ba, kk * 3 + 2, none⟩ = some (.bool (cnest kk)) := by rw [Lib.cell_of_heap hB.ha]; exact a2
  have ht := tfun_ent kk
  have hn := nfun_ent kk
  clear a0 a1 a2
  generalize tfun kk = ft at *
  generalize nfun kk = fn at *
  rw [hcn] at k2
  clear hcn
  have HB := Lib.hid hB
  clear hB
  have HES : Hid (es.size = V.length) := Lib.hid HB.out.size
  go_enter Tryz.func113, Tryz.ntmps113
  go_wp2_with fail
  refine (HT.out _ (((Below.refl _ _).alloc (Nat.le_refl _) _).alloc (by simp) _)).mono ?_; rintro e w1 ⟨rfl, hb⟩
  have hb1 : Below W.heap.size W w1 := (((Below.refl _ _).alloc (Nat.le_refl _) _).alloc (by simp) _).trans (hb.mono (by simp; omega))
  have hc : w1.heap[W.heap.size]? = some (.cells #[.int .u8 (kk : Int), .string nx, .string tx, .int .i64 nu, .int .i64 0] 63 (0, 0)) := (hb.block _ (by simp; omega)).trans (heap_old (heap_new _ _ _ rfl))
  have hq : w1.heap[W.heap.size + 1]? = some (.cells #[.func (.func ft) #[] #[], .func (.func fn) #[] #[], .bool false] 183 (0, 0)) := (hb.block _ (by simp)).trans (heap_new _ _ _ (by simp))
  clear hb
  have w1c0 : w1.cell? ⟨W.heap.size, 0, none⟩ = some (.int .u8 (kk : Int)) := by rw [Lib.cell_of_heap hc]; rfl
  have w1c1 : w1.cell? ⟨W.heap.size, 1, none⟩ = some (.string nx) := by rw [Lib.cell_of_heap hc]; rfl
  have w1c2 : w1.cell? ⟨W.heap.size, 2, none⟩ = some (.string tx) := by rw [Lib.cell_of_heap hc]; rfl
  have w1c3 : w1.cell? ⟨W.heap.size, 3, none⟩ = some (.int .i64 nu) := by rw [Lib.cell_of_heap hc]; rfl
  have w1c4 : w1.cell? ⟨W.heap.size, 4, none⟩ = some (.int .i64 0) := by rw [Lib.cell_of_heap hc]; rfl
  have w1q0 : w1.cell? ⟨W.heap.size + 1, 0, none⟩ = some (.func (.func ft) #[] #[]) := by rw [Lib.cell_of_heap hq]; rfl
  have w1q1 : w1.cell? ⟨W.heap.size + 1, 1, none⟩ = some (.func (.func fn) #[] #[]) := by rw [Lib.cell_of_heap hq]; rfl
  have w1q2 : w1.cell? ⟨W.heap.size + 1, 2, none⟩ = some (.bool false) := by rw [Lib.cell_of_heap hq]; rfl
  have HC := Lib.hid hc
  have HQ := Lib.hid hq
  have HB1 := Lib.hid hb1
  clear hc hq hb1
  go_wp2_with fail
  refine (HN.out _).mono ?_; rintro e w2 ⟨rfl, hb⟩
  clear w1c0 w1c1 w1c2 w1c3 w1c4 w1q0 w1q1 w1q2
  have hb2 : Below W.heap.size W w2 := HB1.out.trans (hb.mono HB1.out.size)
  have hc : w2.heap[W.heap.size]? = some (.cells #[.int .u8 (kk : Int), .string nx, .string tx, .int .i64 nu, .int .i64 0] 63 (0, 0)) := (hb.block _ (heap_lt HC.out)).trans HC.out
  have hq : w2.heap[W.heap.size + 1]? = some (.cells #[.func (.func ft) #[] #[], .func (.func fn) #[] #[], .bool false] 183 (0, 0)) := (hb.block _ (heap_lt HQ.out)).trans HQ.out
  clear hb
  have w2c0 : w2.cell? ⟨W.heap.size, 0, none⟩ = some (.int .u8 (kk : Int)) := by rw [Lib.cell_of_heap hc]; rfl
  have w2c1 : w2.cell? ⟨W.heap.size, 1, none⟩ = some (.string nx) := by rw [Lib.cell_of_heap hc]; rfl
  have w2c2 : w2.cell? ⟨W.heap.size, 2, none⟩ = some (.string tx) := by rw [Lib.cell_of_heap hc]; rfl
  have w2c3 : w2.cell? ⟨W.heap.size, 3, none⟩ = some (.int .i64 nu) := by rw [Lib.cell_of_heap hc]; rfl
  have w2c4 : w2.cell? ⟨W.heap.size, 4, none⟩ = some (.int .i64 0) := by rw [Lib.cell_of_heap hc]; rfl
  have w2q0 : w2.cell? ⟨W.heap.size + 1, 0, none⟩ = some (.func (.func ft) #[] #[]) := by rw [Lib.cell_of_heap hq]; rfl
  have w2q1 : w2.cell? ⟨W.heap.size + 1, 1, none⟩ = some (.func (.func fn) #[] #[]) := by rw [Lib.cell_of_heap hq]; rfl
  have w2q2 : w2.cell? ⟨W.heap.size + 1, 2, none⟩ = some (.bool false) := by rw [Lib.cell_of_heap hq]; rfl
  have HC2 := Lib.hid hc
  have HQ2 := Lib.hid hq
  have HB2 := Lib.hid hb2
  clear hc hq hb2 HC HQ HB1
  have hbh := HB.out.below HB2.out
  have e0 : w2.cell? ⟨be, 0, none⟩ = some (.slice (some ⟨g, 0, none⟩) V.length V.length) := by rw [Lib.cell_of_heap hbh.he]; rfl
  have hks : k < es.size := by rw [hbh.size]; exact hk
  have e1 : w2.cell? ⟨g, k, none⟩ = some (es[k]) := by rw [Lib.cell_of_heap hbh.hg]; exact Array.getElem?_eq_getElem hks
  have e2 : w2.frozen? ⟨g, k, none⟩ = false := Lib.frozen_of_heap hbh.hg k
  generalize es[k] = ek at *
  have HBH := Lib.hid hbh
  clear hbh
  go_wp2_with fail
  refine wp_loop_rounds 1 ?_; rw [rounds_succ]
  go_wp2_with fail
  go_ret
  exact bend_yes (n := 1) HV.out hd hk HES.out HBH.out.hg rfl (grown_below HB2.out _) (fun i _ => rfl) (fun i h1 h2 => by omega)
set_option maxRecDepth 100000 in
set_option maxHeartbeats 1000000 in
theorem bw_zero_nest (w0 : World) (V : List Cel) (b off cap bv ba bw be g : Nat) (es : Array Value) (W : World) (k d : Nat) (hB : BH w0 V b off cap bv ba bw be g es W) (kk : Nat) (nx tx : ByteArray) (nu : Int)
    (hk : k < V.length) (hl : V.length ≤ 100000) (hd : d ≤ 16)
    (c0 : W.cell? ⟨b, off + k * 5, none⟩ = some (.int .u8 (kk : Int))) (c1 : W.cell? ⟨b, off + k * 5 + 1, none⟩ = some (.string nx)) (c2 : W.cell? ⟨b, off + k * 5 + 2, none⟩ = some (.string tx)) (c3 : W.cell? ⟨b, off + k * 5 + 3, none⟩ = some (.int .i64 nu)) (c4 : W.cell? ⟨b, off + k * 5 + 4, none⟩ = some (.int .i64 0))
    (hk7 : kk ≤ 7) (HT : Hid (∀ w : World, Below W.heap.size W w → Calls Tryz.prog (tfun kk) #[.string tx] w fun e w' => e = .returned (.bool true) ∧ Below w.heap.size w w'))
    (HN : Hid (∀ w : World, Calls Tryz.prog (nfun kk) #[.int .i64 nu] w fun e w' => e = .returned (.bool true) ∧ Below w.heap.size w w'))
    (hcn : cnest kk = true) (hd1 : 0 < d) (hval : valN d (V.drop k) = some 1) :
    Calls Tryz.prog 113 #[.int .i64 (k : Int), .int .i64 (d : Int), .pointer (some ⟨bv, 0, none⟩), .pointer (some ⟨ba, 0, none⟩), .pointer (some ⟨bw, 0, none⟩), .pointer (some ⟨be, 0, none⟩)] W fun e w' => BEnd V k d g es (endI V k d) e W w' := by
  have v0 : W.cell? ⟨bv, 0, none⟩ = some (.slice (some ⟨b, off, none⟩) V.length cap) := by rw [Lib.cell_of_heap hB.hv]; rfl
  have HV := Lib.hid hval
  clear hval
  have lba := heap_lt hB.ha
  have lbv := heap_lt hB.hv
  obtain ⟨a0, a1, a2⟩ := kindsA_get kk hk7
  have k0 : W.cell? ⟨ba, kk * 3, none⟩ = some (.func (.func (tfun kk)) #[] #[]) := by rw [Lib.cell_of_heap hB.ha]; exact a0
  have k1 : W.cell? ⟨ba, kk * 3 + 1, none⟩ = some (.func (.func (nfun kk)) #[] #[]) := by rw [Lib.cell_of_heap hB.ha]; exact a1
  have k2 : W.cell? ⟨ba, kk * 3 + 2, none⟩ = some (.bool (cnest kk)) := by rw [Lib.cell_of_heap hB.ha]; exact a2
  have ht := tfun_ent kk
  have hn := nfun_ent kk
  clear a0 a1 a2
  generalize tfun kk = ft at *
  generalize nfun kk = fn at *
  rw [hcn] at k2
  clear hcn
  have HB := Lib.hid hB
  clear hB
  have HES : Hid (es.size = V.length) := Lib.hid HB.out.size
  go_enter Tryz.func113, Tryz.ntmps113
  go_wp2_with fail
  refine (HT.out _ (((Below.refl _ _).alloc (Nat.le_refl _) _).alloc (by simp) _)).mono ?_; rintro e w1 ⟨rfl, hb⟩
  have hb1 : Below W.heap.size W w1 := (((Below.refl _ _).alloc (Nat.le_refl _) _).alloc (by simp) _).trans (hb.mono (by simp; omega))
  have hc : w1.heap[W.heap.size]? = some (.cells #[.int .u8 (kk : Int), .string nx, .string tx, .int .i64 nu, .int .i64 0] 63 (0, 0)) := (hb.block _ (by simp; omega)).trans (heap_old (heap_new _ _ _ rfl))
  have hq : w1.heap[W.heap.size + 1]? = some (.cells #[.func (.func ft) #[] #[], .func (.func fn) #[] #[], .bool true] 183 (0, 0)) := (hb.block _ (by simp)).trans (heap_new _ _ _ (by simp))
  clear hb
  have w1c0 : w1.cell? ⟨W.heap.size, 0, none⟩ = some (.int .u8 (kk : Int)) := by rw [Lib.cell_of_heap hc]; rfl
  have w1c1 : w1.cell? ⟨W.heap.size, 1, none⟩ = some (.string nx) := by rw [Lib.cell_of_heap hc]; rfl
  have w1c2 : w1.cell? ⟨W.heap.size, 2, none⟩ = some (.string tx) := by rw [Lib.cell_of_heap hc]; rfl
  have w1c3 : w1.cell? ⟨W.heap.size, 3, none⟩ = some (.int .i64 nu) := by rw [Lib.cell_of_heap hc]; rfl
  have w1c4 : w1.cell? ⟨W.heap.size, 4, none⟩ = some (.int .i64 0) := by rw [Lib.cell_of_heap hc]; rfl
  have w1q0 : w1.cell? ⟨W.heap.size + 1, 0, none⟩ = some (.func (.func ft) #[] #[]) := by rw [Lib.cell_of_heap hq]; rfl
  have w1q1 : w1.cell? ⟨W.heap.size + 1, 1, none⟩ = some (.func (.func fn) #[] #[]) := by rw [Lib.cell_of_heap hq]; rfl
  have w1q2 : w1.cell? ⟨W.heap.size + 1, 2, none⟩ = some (.bool true) := by rw [Lib.cell_of_heap hq]; rfl
  have HC := Lib.hid hc
  have HQ := Lib.hid hq
  have HB1 := Lib.hid hb1
  clear hc hq hb1
  go_wp2_with fail
  refine (HN.out _).mono ?_; rintro e w2 ⟨rfl, hb⟩
  clear w1c0 w1c1 w1c2 w1c3 w1c4 w1q0 w1q1 w1q2
  have hb2 : Below W.heap.size W w2 := HB1.out.trans (hb.mono HB1.out.size)
  have hc : w2.heap[W.heap.size]? = some (.cells #[.int .u8 (kk : Int), .string nx, .string tx, .int .i64 nu, .int .i64 0] 63 (0, 0)) := (hb.block _ (heap_lt HC.out)).trans HC.out
  have hq : w2.heap[W.heap.size + 1]? = some (.cells #[.func (.func ft) #[] #[], .func (.func fn) #[] #[], .bool true] 183 (0, 0)) := (hb.block _ (heap_lt HQ.out)).trans HQ.out
  clear hb
  have w2c0 : w2.cell? ⟨W.heap.size, 0, none⟩ = some (.int .u8 (kk : Int)) := by rw [Lib.cell_of_heap hc]; rfl
  have w2c1 : w2.cell? ⟨W.heap.size, 1, none⟩ = some (.string nx) := by rw [Lib.cell_of_heap hc]; rfl
  have w2c2 : w2.cell? ⟨W.heap.size, 2, none⟩ = some (.string tx) := by rw [Lib.cell_of_heap hc]; rfl
  have w2c3 : w2.cell? ⟨W.heap.size, 3, none⟩ = some (.int .i64 nu) := by rw [Lib.cell_of_heap hc]; rfl
  have w2c4 : w2.cell? ⟨W.heap.size, 4, none⟩ = some (.int .i64 0) := by rw [Lib.cell_of_heap hc]; rfl
  have w2q0 : w2.cell? ⟨W.heap.size + 1, 0, none⟩ = some (.func (.func ft) #[] #[]) := by rw [Lib.cell_of_heap hq]; rfl
  have w2q1 : w2.cell? ⟨W.heap.size + 1, 1, none⟩ = some (.func (.func fn) #[] #[]) := by rw [Lib.cell_of_heap hq]; rfl
  have w2q2 : w2.cell? ⟨W.heap.size + 1, 2, none⟩ = some (.bool true) := by rw [Lib.cell_of_heap hq]; rfl
  have HC2 := Lib.hid hc
  have HQ2 := Lib.hid hq
  have HB2 := Lib.hid hb2
  clear hc hq hb2 HC HQ HB1
  have hbh := HB.out.below HB2.out
  have e0 : w2.cell? ⟨be, 0, none⟩ = some (.slice (some ⟨g, 0, none⟩) V.length V.length) := by rw [Lib.cell_of_heap hbh.he]; rfl
  have hks : k < es.size := by rw [hbh.size]; exact hk
  have e1 : w2.cell? ⟨g, k, none⟩ = some (es[k]) := by rw [Lib.cell_of_heap hbh.hg]; exact Array.getElem?_eq_getElem hks
  have e2 : w2.frozen? ⟨g, k, none⟩ = false := Lib.frozen_of_heap hbh.hg k
  generalize es[k] = ek at *
  have HBH := Lib.hid hbh
  clear hbh
  go_wp2_with fail
  refine wp_loop_rounds 1 ?_; rw [rounds_succ]
  go_wp2_with fail
  go_ret
  exact bend_yes (n := 1) HV.out hd hk HES.out HBH.out.hg rfl (grown_below HB2.out _) (fun i _ => rfl) (fun i h1 h2 => by omega)
end Go.Proofs.YtgaknbnhmoddcaaGreatDoor
namespace Go.Proofs.YtgaknbnhmoddcaaGreatDoor
open Go.RowKit
theorem bend_none {w0 : World} {V : List Cel} {b off cap bv ba bw be g k d : Nat} {es ez : Array Value} {W wz : World} (hn : valN d (V.drop k) = none) (hB : BH w0 V b off cap bv ba bw be g ez wz) (hs : es.size = V.length) (hw : W.grownBy wz (some g)) :
    BEnd V k d g es (endI V k d) (.returned (.int .i64 (-1))) W wz := by
  have he : endI V k d = -1 := by unfold endI; rw [hn]
  rw [he]
  refine ⟨rfl, hw, ez, hB.hg, by rw [hB.size, hs], ?_⟩
  intro n h
  rw [hn] at h; cases h
theorem BH.other {w0 : World} {V : List Cel} {b off cap bv ba bw be g r : Nat} {es : Array Value} {W W' : World} (h : BH w0 V b off cap bv ba bw be g es W) (hb : W.grownBy W' (some r)) (hr : w0.heap.size ≤ r) (hM : bv < r ∧ ba < r ∧ bw < r ∧ be < r ∧ g < r) : BH w0 V b off cap bv ba bw be g es W' :=
  { h with
    hv := (hb.block _ (heap_lt h.hv) (fun e => by have := Option.some.inj e; omega)).trans h.hv
    ha := (hb.block _ (heap_lt h.ha) (fun e => by have := Option.some.inj e; omega)).trans h.ha
    hw := (hb.block _ (heap_lt h.hw) (fun e => by have := Option.some.inj e; omega)).trans h.hw
    he := (hb.block _ (heap_lt h.he) (fun e => by have := Option.some.inj e; omega)).trans h.he
    hg := (hb.block _ (heap_lt h.hg) (fun e => by have := Option.some.inj e; omega)).trans h.hg
    bel := h.bel.grown hb h.bel.size (fun k hk => by have := Option.some.inj hk; omega) }
theorem grown_new {W w w' : World} {g r : Nat} (h : W.grownBy w (some g)) (hb : w.grownBy w' (some r)) (hr : W.heap.size ≤ r) : W.grownBy w' (some g) :=
  ⟨hb.os.trans h.os, hb.tape.trans h.tape, hb.output.trans h.output, Nat.le_trans h.size hb.size, fun i hi hne => (hb.block i (Nat.lt_of_lt_of_le hi h.size) (fun e => by have := Option.some.inj e; omega)).trans (h.block i hi hne)⟩
theorem fill_next {V : List Cel} {k u p n : Nat} {es esr es5 : Array Value} (hp : p = k + 1 + u) (h : (∀ i, i < k + 1 ∨ k + 1 + u ≤ i → esr[i]? = es[i]?) ∧ ∀ i, k + 1 ≤ i → i < k + 1 + u → esr[i]? = some (.int .i64 (endI V i 16)))
    (h5 : (∀ i, i < p ∨ p + n ≤ i → es5[i]? = esr[i]?) ∧ ∀ i, p ≤ i → i < p + n → es5[i]? = some (.int .i64 (endI V i 16))) :
    (∀ i, i < k + 1 ∨ k + 1 + (u + n) ≤ i → es5[i]? = es[i]?) ∧ ∀ i, k + 1 ≤ i → i < k + 1 + (u + n) → es5[i]? = some (.int .i64 (endI V i 16)) := by
  subst hp
  refine ⟨fun i hi => ?_, fun i h1 h2 => ?_⟩
  · rw [h5.1 i (by omega)]
    exact h.1 i (by omega)
  · by_cases hi : i < k + 1 + u
    · rw [h5.1 i (by omega)]; exact h.2 i h1 hi
    · exact h5.2 i (by omega) (by omega)
theorem amongB_app (nm : List (List UInt8)) (x : List UInt8) : amongB (nm ++ [[]]) x = (amongB nm x || x.isEmpty) := by
  unfold amongB
  rw [List.any_append]
  cases x <;> simp
set_option maxRecDepth 100000 in
set_option maxHeartbeats 1000000 in
theorem bw_list (w0 : World) (V : List Cel) (b off cap bv ba bw be g : Nat) (es : Array Value) (W : World) (k d : Nat) (hB : BH w0 V b off cap bv ba bw be g es W) (kk : Nat) (nx tx : ByteArray) (nu : Int) (m : Nat)
    (hk : k < V.length) (hl : V.length ≤ 100000) (hd : d ≤ 16)
    (c0 : W.cell? ⟨b, off + k * 5, none⟩ = some (.int .u8 (kk : Int))) (c1 : W.cell? ⟨b, off + k * 5 + 1, none⟩ = some (.string nx)) (c2 : W.cell? ⟨b, off + k * 5 + 2, none⟩ = some (.string tx)) (c3 : W.cell? ⟨b, off + k * 5 + 3, none⟩ = some (.int .i64 nu)) (c4 : W.cell? ⟨b, off + k * 5 + 4, none⟩ = some (.int .i64 (m : Int)))
    (hk7 : kk ≤ 7) (HT : Hid (∀ w : World, Below W.heap.size W w → Calls Tryz.prog (tfun kk) #[.string tx] w fun e w' => e = .returned (.bool true) ∧ Below w.heap.size w w'))
    (HN : Hid (∀ w : World, Calls Tryz.prog (nfun kk) #[.int .i64 nu] w fun e w' => e = .returned (.bool true) ∧ Below w.heap.size w w'))
    (hkk : kk = 6) (hcn : cnest kk = true) (hd1 : 0 < d) (hm0 : 0 < m) (hmx : (m : Int) ≤ 9223372036854775807)
    (HROW : Hid (CelRow b off V w0)) (hbl : b < w0.heap.size) (HSM : Hid (∀ c ∈ V, c.name.length ≤ 100000)) (o : Option Nat) (hkids : kidsN (valN (d - 1)) true m [] (V.drop (k + 1)) = o) (hval : valN d (V.drop k) = o.map (1 + ·))
    (HTX : Hid (∀ (W' : World) (x : ByteArray), x.size ≤ 100000 → Below w0.heap.size w0 W' → Calls Tryz.prog 49 #[.string x] W' fun e w' => e = .returned (.int .i64 (chkE x.data.toList)) ∧ Below W'.heap.size W' w'))
    (HIH : Hid (∀ (W' : World) (es' : Array Value) (p : Nat), p < V.length → BH w0 V b off cap bv ba bw be g es' W' → Calls Tryz.prog 113 #[.int .i64 (p : Int), .int .i64 ((d : Int) - 1), .pointer (some ⟨bv, 0, none⟩), .pointer (some ⟨ba, 0, none⟩), .pointer (some ⟨bw, 0, none⟩), .pointer (some ⟨be, 0, none⟩)] W' fun e w' => BEnd V p (d - 1) g es' (endI V p (d - 1)) e W' w')) :
    Calls Tryz.prog 113 #[.int .i64 (k : Int), .int .i64 (d : Int), .pointer (some ⟨bv, 0, none⟩), .pointer (some ⟨ba, 0, none⟩), .pointer (some ⟨bw, 0, none⟩), .pointer (some ⟨be, 0, none⟩)] W fun e w' => BEnd V k d g es (endI V k d) e W w' := by
  have v0 : W.cell? ⟨bv, 0, none⟩ = some (.slice (some ⟨b, off, none⟩) V.length cap) := by rw [Lib.cell_of_heap hB.hv]; rfl
  have HV := Lib.hid hval
  have HK0 := Lib.hid (KS.start hkids)
  have HKK := Lib.hid hkk
  have hd2 : ((d : Int) == 0) = false := by rw [beq_eq_false_iff_ne]; omega
  have t6 : ((kk : Int) == 6) = true := by rw [HKK.out]; rfl
  have t7 : ((kk : Int) == 7) = false := by rw [HKK.out]; rfl
  clear hval hkids hkk
  have lba := heap_lt hB.ha
  have lbv := heap_lt hB.hv
  obtain ⟨a0, a1, a2⟩ := kindsA_get kk hk7
  have k0 : W.cell? ⟨ba, kk * 3, none⟩ = some (.func (.func (tfun kk)) #[] #[]) := by rw [Lib.cell_of_heap hB.ha]; exact a0
  have k1 : W.cell? ⟨ba, kk * 3 + 1, none⟩ = some (.func (.func (nfun kk)) #[] #[]) := by rw [Lib.cell_of_heap hB.ha]; exact a1
  have k2 : W.cell? ⟨ba, kk * 3 + 2, none⟩ = some (.bool (cnest kk)) := by rw [Lib.cell_of_heap hB.ha]; exact a2
  have ht := tfun_ent kk
  have hn := nfun_ent kk
  clear a0 a1 a2
  generalize tfun kk = ft at *
  generalize nfun kk = fn at *
  rw [hcn] at k2
  clear hcn
  have HB := Lib.hid hB
  clear hB
  have HES : Hid (es.size = V.length) := Lib.hid HB.out.size
  have hmm := @run_makeMap Tryz.prog
  go_enter Tryz.func113, Tryz.ntmps113
  go_wp2_with fail
  refine (HT.out _ (((Below.refl _ _).alloc (Nat.le_refl _) _).alloc (by simp) _)).mono ?_; rintro e w1 ⟨rfl, hb⟩
  have hb1 : Below W.heap.size W w1 := (((Below.refl _ _).alloc (Nat.le_refl _) _).alloc (by simp) _).trans (hb.mono (by simp; omega))
  have hc : w1.heap[W.heap.size]? = some (.cells #[.int .u8 (kk : Int), .string nx, .string tx, .int .i64 nu, .int .i64 (m : Int)] 63 (0, 0)) := (hb.block _ (by simp; omega)).trans (heap_old (heap_new _ _ _ rfl))
  have hq : w1.heap[W.heap.size + 1]? = some (.cells #[.func (.func ft) #[] #[], .func (.func fn) #[] #[], .bool true] 183 (0, 0)) := (hb.block _ (by simp)).trans (heap_new _ _ _ (by simp))
  clear hb
  have w1c0 : w1.cell? ⟨W.heap.size, 0, none⟩ = some (.int .u8 (kk : Int)) := by rw [Lib.cell_of_heap hc]; rfl
  have w1c1 : w1.cell? ⟨W.heap.size, 1, none⟩ = some (.string nx) := by rw [Lib.cell_of_heap hc]; rfl
  have w1c2 : w1.cell? ⟨W.heap.size, 2, none⟩ = some (.string tx) := by rw [Lib.cell_of_heap hc]; rfl
  have w1c3 : w1.cell? ⟨W.heap.size, 3, none⟩ = some (.int .i64 nu) := by rw [Lib.cell_of_heap hc]; rfl
  have w1c4 : w1.cell? ⟨W.heap.size, 4, none⟩ = some (.int .i64 (m : Int)) := by rw [Lib.cell_of_heap hc]; rfl
  have w1q0 : w1.cell? ⟨W.heap.size + 1, 0, none⟩ = some (.func (.func ft) #[] #[]) := by rw [Lib.cell_of_heap hq]; rfl
  have w1q1 : w1.cell? ⟨W.heap.size + 1, 1, none⟩ = some (.func (.func fn) #[] #[]) := by rw [Lib.cell_of_heap hq]; rfl
  have w1q2 : w1.cell? ⟨W.heap.size + 1, 2, none⟩ = some (.bool true) := by rw [Lib.cell_of_heap hq]; rfl
  have HC := Lib.hid hc
  have HQ := Lib.hid hq
  have HB1 := Lib.hid hb1
  clear hc hq hb1
  go_wp2_with fail
  refine (HN.out _).mono ?_; rintro e w2 ⟨rfl, hb⟩
  clear w1c0 w1c1 w1c2 w1c3 w1c4 w1q0 w1q1 w1q2
  have hb2 : Below W.heap.size W w2 := HB1.out.trans (hb.mono HB1.out.size)
  have hc : w2.heap[W.heap.size]? = some (.cells #[.int .u8 (kk : Int), .string nx, .string tx, .int .i64 nu, .int .i64 (m : Int)] 63 (0, 0)) := (hb.block _ (heap_lt HC.out)).trans HC.out
  have hq : w2.heap[W.heap.size + 1]? = some (.cells #[.func (.func ft) #[] #[], .func (.func fn) #[] #[], .bool true] 183 (0, 0)) := (hb.block _ (heap_lt HQ.out)).trans HQ.out
  clear hb
  have w2c0 : w2.cell? ⟨W.heap.size, 0, none⟩ = some (.int .u8 (kk : Int)) := by rw [Lib.cell_of_heap hc]; rfl
  have w2c1 : w2.cell? ⟨W.heap.size, 1, none⟩ = some (.string nx) := by rw [Lib.cell_of_heap hc]; rfl
  have w2c2 : w2.cell? ⟨W.heap.size, 2, none⟩ = some (.string tx) := by rw [Lib.cell_of_heap hc]; rfl
  have w2c3 : w2.cell? ⟨W.heap.size, 3, none⟩ = some (.int .i64 nu) := by rw [Lib.cell_of_heap hc]; rfl
  have w2c4 : w2.cell? ⟨W.heap.size, 4, none⟩ = some (.int .i64 (m : Int)) := by rw [Lib.cell_of_heap hc]; rfl
  have w2q0 : w2.cell? ⟨W.heap.size + 1, 0, none⟩ = some (.func (.func ft) #[] #[]) := by rw [Lib.cell_of_heap hq]; rfl
  have w2q1 : w2.cell? ⟨W.heap.size + 1, 1, none⟩ = some (.func (.func fn) #[] #[]) := by rw [Lib.cell_of_heap hq]; rfl
  have w2q2 : w2.cell? ⟨W.heap.size + 1, 2, none⟩ = some (.bool true) := by rw [Lib.cell_of_heap hq]; rfl
  have HC2 := Lib.hid hc
  have HQ2 := Lib.hid hq
  have HB2 := Lib.hid hb2
  clear hc hq hb2 HC HQ HB1
  obtain ⟨wm, hrun, hN, hgr⟩ := (NamesM.made w2).update ⟨#[]⟩ (by decide) (by decide)
  have HNM : Hid (NamesM w2.heap.size ([] ++ [[]]) wm) := Lib.hid hN
  have hz2 := HB2.out.size
  have hgw : W.grownBy wm (some g) := ⟨hgr.os.trans HB2.out.os, hgr.tape.trans HB2.out.tape, hgr.output.trans HB2.out.output, Nat.le_trans hz2 (Nat.le_trans (by simp) hgr.size), fun i hi _ => ((hgr.block i (by simp; omega) (fun e => by have := Option.some.inj e; omega)).trans (Below.heap_alloc _ _ _ (by omega))).trans (HB2.out.block i hi)⟩
  have hbm : BH w0 V b off cap bv ba bw be g es wm := HB.out.below ⟨hgw.os, hgw.tape, hgw.output, hgw.size, fun i hi => ((hgr.block i (by simp; omega) (fun e => by have := Option.some.inj e; omega)).trans (Below.heap_alloc _ _ _ (by omega))).trans (HB2.out.block i hi)⟩
  have hcm : wm.heap[W.heap.size]? = some (.cells #[.int .u8 (kk : Int), .string nx, .string tx, .int .i64 nu, .int .i64 (m : Int)] 63 (0, 0)) := ((hgr.block _ (by have := heap_lt HC2.out; simp; omega) (fun e => by have h1 := Option.some.inj e; have h2 := heap_lt HC2.out; omega)).trans (Below.heap_alloc _ _ _ (heap_lt HC2.out))).trans HC2.out
  have HGW := Lib.hid hgw
  have HBM := Lib.hid hbm
  have HCM := Lib.hid hcm
  have m4 : wm.cell? ⟨W.heap.size, 4, none⟩ = some (.int .i64 (m : Int)) := by rw [Lib.cell_of_heap hcm]; rfl
  clear hgw hbm hcm
  go_wp2_with fail
  clear hrun hmm ht hn m4
  have LM : Hid (bv < w2.heap.size ∧ ba < w2.heap.size ∧ bw < w2.heap.size ∧ be < w2.heap.size ∧ g < w2.heap.size) := Lib.hid ⟨Nat.lt_of_lt_of_le (heap_lt HB.out.hv) hz2, Nat.lt_of_lt_of_le (heap_lt HB.out.ha) hz2, Nat.lt_of_lt_of_le (heap_lt HB.out.hw) hz2, Nat.lt_of_lt_of_le (heap_lt HB.out.he) hz2, Nat.lt_of_lt_of_le (heap_lt HB.out.hg) hz2⟩
  have L0 : w0.heap.size ≤ w2.heap.size := Nat.le_trans HB.out.bel.size hz2
  have lW : W.heap.size < w2.heap.size := heap_lt HC2.out
  have lgW : g < W.heap.size := heap_lt HB.out.hg
  clear hN hgr w2c0 w2c1 w2c2 w2c3 w2c4 w2q0 w2q1 w2q2 HQ2 HC2 HB2 HB hz2
  generalize w2.heap.size = bm at *
  go_loopg [12, 79] m (fun gk nv ct wr => ∃ (j : Nat) (esr : Array Value), ct = .int .i64 j ∧ gk + j = m ∧ Hid (BH w0 V b off cap bv ba bw be g esr wr) ∧ Hid (W.grownBy wr (some g)) ∧
    ((∃ (p u : Nat) (nm : List (List UInt8)), nv = .int .i64 (p : Int) ∧ p ≤ V.length ∧ Hid (p = k + 1 + u) ∧ nm.length ≤ j ∧ j ≤ u ∧ Hid (KS V (d - 1) k true o gk nm u) ∧ Hid (NamesM bm (nm ++ [[]]) wr) ∧ Hid (wr.heap[W.heap.size]? = some (.cells #[.int .u8 (kk : Int), .string nx, .string tx, .int .i64 nu, .int .i64 (m : Int)] 63 (0, 0))) ∧
      Hid ((∀ i, i < k + 1 ∨ k + 1 + u ≤ i → esr[i]? = es[i]?) ∧ ∀ i, k + 1 ≤ i → i < k + 1 + u → esr[i]? = some (.int .i64 (endI V i 16)))) ∨ (nv = .int .i64 (-1) ∧ Hid (o = none))))
  case atStart => exact ⟨0, es, rfl, by omega, HBM, HGW, Or.inl ⟨k + 1, 0, [], by go_num, by omega, Lib.hid rfl, Nat.le_refl _, Nat.le_refl _, HK0, HNM, HCM, Lib.hid ⟨fun i _ => rfl, fun i h1 h2 => by omega⟩⟩⟩
  case round =>
    rename World => wr
    obtain ⟨j, esr, rfl, hj, HBr, HGr, hrel2⟩ := hrel
    rcases hrel2 with ⟨p, u, nm, rfl, hp, HPU, hnm, hju, HK, HN, HC, HF⟩ | ⟨rfl, HO⟩
    · by_cases hg0 : gk = 0
      · subst hg0
        have HO := Lib.hid HK.out.done
        have e0 : wr.cell? ⟨be, 0, none⟩ = some (.slice (some ⟨g, 0, none⟩) V.length V.length) := by rw [Lib.cell_of_heap HBr.out.he]; rfl
        have hks : k < esr.size := by rw [HBr.out.size]; exact hk
        have e1 : wr.cell? ⟨g, k, none⟩ = some (esr[k]) := by rw [Lib.cell_of_heap HBr.out.hg]; exact Array.getElem?_eq_getElem hks
        have e2 : wr.frozen? ⟨g, k, none⟩ = false := Lib.frozen_of_heap HBr.out.hg k
        generalize esr[k] = ek at *
        have hval2 : valN d (V.drop k) = some (1 + u) := by rw [HV.out, HO.out]; rfl
        have HPK : Hid (p = k + (1 + u)) := Lib.hid (by rw [HPU.out]; omega)
        have HFIN : Hid (BEnd V k d g es (endI V k d) (.returned (.int .i64 (p : Int))) W (wr.setCell ⟨g, k, none⟩ (.int .i64 (p : Int)))) := Lib.hid (by
          rw [HPK.out]
          exact bend_yes hval2 hd hk HES.out HBr.out.hg (by rw [HBr.out.size, HES.out]) HGr.out (fun i h => HF.out.1 i (by omega)) (fun i h1 h2 => HF.out.2 i h1 (by omega)))
        clear hval2
        go_wp2_with fail
        go_ret
        exact HFIN.out
      · obtain ⟨g1, rfl⟩ : ∃ g1, gk = g1 + 1 := ⟨gk - 1, by omega⟩
        clear hg0
        have r0 : wr.cell? ⟨bv, 0, none⟩ = some (.slice (some ⟨b, off, none⟩) V.length cap) := by rw [Lib.cell_of_heap HBr.out.hv]; rfl
        by_cases hpl : p < V.length
        · obtain ⟨_, r1, _⟩ := (HROW.out.below HBr.out.bel hbl) p hpl
          have r2 : wr.cell? ⟨W.heap.size, 0, none⟩ = some (.int .u8 (kk : Int)) := by rw [Lib.cell_of_heap HC.out]; rfl
          have hxz : (⟨V[p].name.toArray⟩ : ByteArray).size = V[p].name.length := by show V[p].name.toArray.size = _; simp
          have hxl : (⟨V[p].name.toArray⟩ : ByteArray).data.toList = V[p].name := by simp
          have hxs : (⟨V[p].name.toArray⟩ : ByteArray).size ≤ 100000 := by rw [hxz]; exact HSM.out _ (List.getElem_mem _)
          have HBAD := Lib.hid (fun h => HK.out.bad HPU.out hpl h)
          have HFAIL := Lib.hid (fun h h' => HK.out.fail HPU.out hpl h h')
          have HNEXT := Lib.hid (fun n h h' => HK.out.next (n := n) HPU.out hpl h h')
          rw [← hxl] at HBAD HFAIL HNEXT
          clear hxz hxl
          generalize (⟨V[p].name.toArray⟩ : ByteArray) = x at *
          have hu : u ≤ 100000 := by have := HPU.out; omega
          have hlook := HN.out.lookup x (by unfold maxLen; omega)
          rw [amongB_app] at hlook
          obtain ⟨wn, hrun, hN2, hgr⟩ := HN.out.update x (by unfold maxLen; omega) (by simp; omega)
          rcases empty_z x with ⟨z0, z1, z2, z3⟩ | ⟨z0, z1, z2, z3⟩
          · have hne : x.data.toList.isEmpty = false := by rw [← ByteArray.toList_eq]; exact z2
            have HO := Lib.hid (HBAD.out (by unfold okN; rw [if_pos rfl]; exact hne))
            clear hne hlook hrun hgr hN2
            have HFIN : Hid (BEnd V k d g es (endI V k d) (.returned (.int .i64 (-1))) W wr) := Lib.hid (bend_none (by rw [HV.out, HO.out]; rfl) HBr.out HES.out HGr.out)
            go_wp2_with fail
            go_ret
            exact HFIN.out
          · clear hlook
            have hok : okN true nm x.data.toList = true := by rw [z3]; rfl
            have HB5 : Hid (BH w0 V b off cap bv ba bw be g esr wn) := Lib.hid (HBr.out.other hgr L0 LM.out)
            have q0 : wn.cell? ⟨bw, 0, none⟩ = some (.func (.func 113) #[] #[.pointer (some ⟨bv, 0, none⟩), .pointer (some ⟨ba, 0, none⟩), .pointer (some ⟨bw, 0, none⟩), .pointer (some ⟨be, 0, none⟩)]) := by rw [Lib.cell_of_heap HB5.out.hw]; rfl
            have HGn : Hid (W.grownBy wn (some g)) := Lib.hid (grown_new HGr.out hgr (by omega))
            have HCn : Hid (wn.heap[W.heap.size]? = some (.cells #[.int .u8 (kk : Int), .string nx, .string tx, .int .i64 nu, .int .i64 (m : Int)] 63 (0, 0))) := Lib.hid ((hgr.block _ (heap_lt HC.out) (fun e => by have := Option.some.inj e; omega)).trans HC.out)
            have HNn := Lib.hid hN2
            clear hgr hN2
            cases hv : valN (d - 1) (V.drop p) with
            | none =>
              have HO := Lib.hid (HFAIL.out hok hv)
              have HI : Hid (Calls Tryz.prog 113 #[.int .i64 (p : Int), .int .i64 ((d : Int) - 1), .pointer (some ⟨bv, 0, none⟩), .pointer (some ⟨ba, 0, none⟩), .pointer (some ⟨bw, 0, none⟩), .pointer (some ⟨be, 0, none⟩)] wn fun e w' => BEnd V p (d - 1) g esr (-1) e wn w') := Lib.hid (by
                have := HIH.out wn esr p hpl HB5.out
                rw [endI_none hv] at this
                exact this)
              clear hv hok
              go_wp2_with fail
              refine HI.out.mono ?_; rintro e w5 hbe
              obtain ⟨rfl, hg5, es5, hh5, hs5, hf5⟩ := hbe
              have HB6 := Lib.hid (HB5.out.grown hg5 hh5 hs5)
              have HG6 := Lib.hid (grown_trans HGn.out hg5)
              clear hg5 hh5 hs5 hf5
              go_wp2_with fail
              go_roundg g1
              case measure => omega
              case rel => exact ⟨j + 1, es5, by go_num, by omega, HB6, HG6, Or.inr ⟨rfl, HO⟩⟩
            | some n =>
              have HO := Lib.hid (HNEXT.out n hok hv)
              have HI : Hid (Calls Tryz.prog 113 #[.int .i64 (p : Int), .int .i64 ((d : Int) - 1), .pointer (some ⟨bv, 0, none⟩), .pointer (some ⟨ba, 0, none⟩), .pointer (some ⟨bw, 0, none⟩), .pointer (some ⟨be, 0, none⟩)] wn fun e w' => BEnd V p (d - 1) g esr ((p + n : Nat) : Int) e wn w') := Lib.hid (by
                have := HIH.out wn esr p hpl HB5.out
                rw [endI_some hv] at this
                exact this)
              have hn1 := (valN_le _ _ _ hv).1
              have hn2 := (valN_le _ _ _ hv).2
              rw [List.length_drop] at hn2
              have HV2 := Lib.hid hv
              obtain ⟨p2, hp2⟩ : ∃ p2, p + n = p2 := ⟨_, rfl⟩
              have HP2 : Hid (p2 = k + 1 + (u + n)) := Lib.hid (by rw [← hp2, HPU.out]; omega)
              have hp3 : p2 ≤ V.length := by omega
              rw [hp2] at HI
              clear hv hok hp2 hn2
              go_wp2_with fail
              refine HI.out.mono ?_; rintro e w5 hbe
              obtain ⟨rfl, hg5, es5, hh5, hs5, hf5⟩ := hbe
              have HB6 := Lib.hid (HB5.out.grown hg5 hh5 hs5)
              have HG6 := Lib.hid (grown_trans HGn.out hg5)
              have HF6 := Lib.hid (fill_next HPU.out HF.out (hf5 n HV2.out))
              have HN6 : Hid (NamesM bm ((x.data.toList :: nm) ++ [[]]) w5) := Lib.hid (HNn.out.grown hg5 (fun e => by have h1 := Option.some.inj e; have h2 := LM.out.2.2.2.2; omega))
              have HC6 := Lib.hid ((hg5.block _ (heap_lt HCn.out) (fun e => by have h1 := Option.some.inj e; omega)).trans HCn.out)
              clear hg5 hh5 hs5 hf5
              go_wp2_with fail
              go_roundg g1
              case measure => omega
              case rel => exact ⟨j + 1, es5, by go_num, by omega, HB6, HG6, Or.inl ⟨p2, u + n, x.data.toList :: nm, rfl, hp3, HP2, by simp; omega, by omega, HO, HN6, HC6, HF6⟩⟩
        · have HO := Lib.hid (HK.out.out_ (by have := HPU.out; omega))
          have HFIN : Hid (BEnd V k d g es (endI V k d) (.returned (.int .i64 (-1))) W wr) := Lib.hid (bend_none (by rw [HV.out, HO.out]; rfl) HBr.out HES.out HGr.out)
          go_wp2_with fail
          go_ret
          exact HFIN.out
    · have HFIN : Hid (BEnd V k d g es (endI V k d) (.returned (.int .i64 (-1))) W wr) := Lib.hid (bend_none (by rw [HV.out, HO.out]; rfl) HBr.out HES.out HGr.out)
      by_cases hg0 : gk = 0
      · subst hg0
        go_wp2_with fail
        go_ret
        exact HFIN.out
      · have hlt : j < m := by omega
        go_wp2_with fail
        go_ret
        exact HFIN.out
end Go.Proofs.YtgaknbnhmoddcaaGreatDoor
namespace Go.Proofs.YtgaknbnhmoddcaaGreatDoor
open Go.RowKit
set_option maxRecDepth 100000 in
set_option maxHeartbeats 1000000 in
theorem bw_obj (w0 : World) (V : List Cel) (b off cap bv ba bw be g : Nat) (es : Array Value) (W : World) (k d : Nat) (hB : BH w0 V b off cap bv ba bw be g es W) (kk : Nat) (nx tx : ByteArray) (nu : Int) (m : Nat)
    (hk : k < V.length) (hl : V.length ≤ 100000) (hd : d ≤ 16)
    (c0 : W.cell? ⟨b, off + k * 5, none⟩ = some (.int .u8 (kk : Int))) (c1 : W.cell? ⟨b, off + k * 5 + 1, none⟩ = some (.string nx)) (c2 : W.cell? ⟨b, off + k * 5 + 2, none⟩ = some (.string tx)) (c3 : W.cell? ⟨b, off + k * 5 + 3, none⟩ = some (.int .i64 nu)) (c4 : W.cell? ⟨b, off + k * 5 + 4, none⟩ = some (.int .i64 (m : Int)))
    (hk7 : kk ≤ 7) (HT : Hid (∀ w : World, Below W.heap.size W w → Calls Tryz.prog (tfun kk) #[.string tx] w fun e w' => e = .returned (.bool true) ∧ Below w.heap.size w w'))
    (HN : Hid (∀ w : World, Calls Tryz.prog (nfun kk) #[.int .i64 nu] w fun e w' => e = .returned (.bool true) ∧ Below w.heap.size w w'))
    (hkk : kk = 7) (hcn : cnest kk = true) (hd1 : 0 < d) (hm0 : 0 < m) (hmx : (m : Int) ≤ 9223372036854775807)
    (HROW : Hid (CelRow b off V w0)) (hbl : b < w0.heap.size) (HSM : Hid (∀ c ∈ V, c.name.length ≤ 100000)) (o : Option Nat) (hkids : kidsN (valN (d - 1)) false m [] (V.drop (k + 1)) = o) (hval : valN d (V.drop k) = o.map (1 + ·))
    (HTX : Hid (∀ (W' : World) (x : ByteArray), x.size ≤ 100000 → Below w0.heap.size w0 W' → Calls Tryz.prog 49 #[.string x] W' fun e w' => e = .returned (.int .i64 (chkE x.data.toList)) ∧ Below W'.heap.size W' w'))
    (HIH : Hid (∀ (W' : World) (es' : Array Value) (p : Nat), p < V.length → BH w0 V b off cap bv ba bw be g es' W' → Calls Tryz.prog 113 #[.int .i64 (p : Int), .int .i64 ((d : Int) - 1), .pointer (some ⟨bv, 0, none⟩), .pointer (some ⟨ba, 0, none⟩), .pointer (some ⟨bw, 0, none⟩), .pointer (some ⟨be, 0, none⟩)] W' fun e w' => BEnd V p (d - 1) g es' (endI V p (d - 1)) e W' w')) :
    Calls Tryz.prog 113 #[.int .i64 (k : Int), .int .i64 (d : Int), .pointer (some ⟨bv, 0, none⟩), .pointer (some ⟨ba, 0, none⟩), .pointer (some ⟨bw, 0, none⟩), .pointer (some ⟨be, 0, none⟩)] W fun e w' => BEnd V k d g es (endI V k d) e W w' := by
  have v0 : W.cell? ⟨bv, 0, none⟩ = some (.slice (some ⟨b, off, none⟩) V.length cap) := by rw [Lib.cell_of_heap hB.hv]; rfl
  have HV := Lib.hid hval
  have HK0 := Lib.hid (KS.start hkids)
  have HKK := Lib.hid hkk
  have hd2 : ((d : Int) == 0) = false := by rw [beq_eq_false_iff_ne]; omega
  have t6 : ((kk : Int) == 6) = false := by rw [HKK.out]; rfl
  have t7 : ((kk : Int) == 7) = true := by rw [HKK.out]; rfl
  clear hval hkids hkk
  have lba := heap_lt hB.ha
  have lbv := heap_lt hB.hv
  obtain ⟨a0, a1, a2⟩ := kindsA_get kk hk7
  have k0 : W.cell? ⟨ba, kk * 3, none⟩ = some (.func (.func (tfun kk)) #[] #[]) := by rw [Lib.cell_of_heap hB.ha]; exact a0
  have k1 : W.cell? ⟨ba, kk * 3 + 1, none⟩ = some (.func (.func (nfun kk)) #[] #[]) := by rw [Lib.cell_of_heap hB.ha]; exact a1
  have k2 : W.cell? ⟨ba, kk * 3 + 2, none⟩ = some (.bool (cnest kk)) := by rw [Lib.cell_of_heap hB.ha]; exact a2
  have ht := tfun_ent kk
  have hn := nfun_ent kk
  clear a0 a1 a2
  generalize tfun kk = ft at *
  generalize nfun kk = fn at *
  rw [hcn] at k2
  clear hcn
  have HB := Lib.hid hB
  clear hB
  have HES : Hid (es.size = V.length) := Lib.hid HB.out.size
  have hmm := @run_makeMap Tryz.prog
  go_enter Tryz.func113, Tryz.ntmps113
  go_wp2_with fail
  refine (HT.out _ (((Below.refl _ _).alloc (Nat.le_refl _) _).alloc (by simp) _)).mono ?_; rintro e w1 ⟨rfl, hb⟩
  have hb1 : Below W.heap.size W w1 := (((Below.refl _ _).alloc (Nat.le_refl _) _).alloc (by simp) _).trans (hb.mono (by simp; omega))
  have hc : w1.heap[W.heap.size]? = some (.cells #[.int .u8 (kk : Int), .string nx, .string tx, .int .i64 nu, .int .i64 (m : Int)] 63 (0, 0)) := (hb.block _ (by simp; omega)).trans (heap_old (heap_new _ _ _ rfl))
  have hq : w1.heap[W.heap.size + 1]? = some (.cells #[.func (.func ft) #[] #[], .func (.func fn) #[] #[], .bool true] 183 (0, 0)) := (hb.block _ (by simp)).trans (heap_new _ _ _ (by simp))
  clear hb
  have w1c0 : w1.cell? ⟨W.heap.size, 0, none⟩ = some (.int .u8 (kk : Int)) := by rw [Lib.cell_of_heap hc]; rfl
  have w1c1 : w1.cell? ⟨W.heap.size, 1, none⟩ = some (.string nx) := by rw [Lib.cell_of_heap hc]; rfl
  have w1c2 : w1.cell? ⟨W.heap.size, 2, none⟩ = some (.string tx) := by rw [Lib.cell_of_heap hc]; rfl
  have w1c3 : w1.cell? ⟨W.heap.size, 3, none⟩ = some (.int .i64 nu) := by rw [Lib.cell_of_heap hc]; rfl
  have w1c4 : w1.cell? ⟨W.heap.size, 4, none⟩ = some (.int .i64 (m : Int)) := by rw [Lib.cell_of_heap hc]; rfl
  have w1q0 : w1.cell? ⟨W.heap.size + 1, 0, none⟩ = some (.func (.func ft) #[] #[]) := by rw [Lib.cell_of_heap hq]; rfl
  have w1q1 : w1.cell? ⟨W.heap.size + 1, 1, none⟩ = some (.func (.func fn) #[] #[]) := by rw [Lib.cell_of_heap hq]; rfl
  have w1q2 : w1.cell? ⟨W.heap.size + 1, 2, none⟩ = some (.bool true) := by rw [Lib.cell_of_heap hq]; rfl
  have HC := Lib.hid hc
  have HQ := Lib.hid hq
  have HB1 := Lib.hid hb1
  clear hc hq hb1
  go_wp2_with fail
  refine (HN.out _).mono ?_; rintro e w2 ⟨rfl, hb⟩
  clear w1c0 w1c1 w1c2 w1c3 w1c4 w1q0 w1q1 w1q2
  have hb2 : Below W.heap.size W w2 := HB1.out.trans (hb.mono HB1.out.size)
  have hc : w2.heap[W.heap.size]? = some (.cells #[.int .u8 (kk : Int), .string nx, .string tx, .int .i64 nu, .int .i64 (m : Int)] 63 (0, 0)) := (hb.block _ (heap_lt HC.out)).trans HC.out
  have hq : w2.heap[W.heap.size + 1]? = some (.cells #[.func (.func ft) #[] #[], .func (.func fn) #[] #[], .bool true] 183 (0, 0)) := (hb.block _ (heap_lt HQ.out)).trans HQ.out
  clear hb
  have w2c0 : w2.cell? ⟨W.heap.size, 0, none⟩ = some (.int .u8 (kk : Int)) := by rw [Lib.cell_of_heap hc]; rfl
  have w2c1 : w2.cell? ⟨W.heap.size, 1, none⟩ = some (.string nx) := by rw [Lib.cell_of_heap hc]; rfl
  have w2c2 : w2.cell? ⟨W.heap.size, 2, none⟩ = some (.string tx) := by rw [Lib.cell_of_heap hc]; rfl
  have w2c3 : w2.cell? ⟨W.heap.size, 3, none⟩ = some (.int .i64 nu) := by rw [Lib.cell_of_heap hc]; rfl
  have w2c4 : w2.cell? ⟨W.heap.size, 4, none⟩ = some (.int .i64 (m : Int)) := by rw [Lib.cell_of_heap hc]; rfl
  have w2q0 : w2.cell? ⟨W.heap.size + 1, 0, none⟩ = some (.func (.func ft) #[] #[]) := by rw [Lib.cell_of_heap hq]; rfl
  have w2q1 : w2.cell? ⟨W.heap.size + 1, 1, none⟩ = some (.func (.func fn) #[] #[]) := by rw [Lib.cell_of_heap hq]; rfl
  have w2q2 : w2.cell? ⟨W.heap.size + 1, 2, none⟩ = some (.bool true) := by rw [Lib.cell_of_heap hq]; rfl
  have HC2 := Lib.hid hc
  have HQ2 := Lib.hid hq
  have HB2 := Lib.hid hb2
  clear hc hq hb2 HC HQ HB1
  obtain ⟨wm, hrun, hN, hgr⟩ := (NamesM.made w2).update ⟨#[]⟩ (by decide) (by decide)
  have HNM : Hid (NamesM w2.heap.size ([] ++ [[]]) wm) := Lib.hid hN
  have hz2 := HB2.out.size
  have hgw : W.grownBy wm (some g) := ⟨hgr.os.trans HB2.out.os, hgr.tape.trans HB2.out.tape, hgr.output.trans HB2.out.output, Nat.le_trans hz2 (Nat.le_trans (by simp) hgr.size), fun i hi _ => ((hgr.block i (by simp; omega) (fun e => by have := Option.some.inj e; omega)).trans (Below.heap_alloc _ _ _ (by omega))).trans (HB2.out.block i hi)⟩
  have hbm : BH w0 V b off cap bv ba bw be g es wm := HB.out.below ⟨hgw.os, hgw.tape, hgw.output, hgw.size, fun i hi => ((hgr.block i (by simp; omega) (fun e => by have := Option.some.inj e; omega)).trans (Below.heap_alloc _ _ _ (by omega))).trans (HB2.out.block i hi)⟩
  have hcm : wm.heap[W.heap.size]? = some (.cells #[.int .u8 (kk : Int), .string nx, .string tx, .int .i64 nu, .int .i64 (m : Int)] 63 (0, 0)) := ((hgr.block _ (by have := heap_lt HC2.out; simp; omega) (fun e => by have h1 := Option.some.inj e; have h2 := heap_lt HC2.out; omega)).trans (Below.heap_alloc _ _ _ (heap_lt HC2.out))).trans HC2.out
  have HGW := Lib.hid hgw
  have HBM := Lib.hid hbm
  have HCM := Lib.hid hcm
  have m4 : wm.cell? ⟨W.heap.size, 4, none⟩ = some (.int .i64 (m : Int)) := by rw [Lib.cell_of_heap hcm]; rfl
  clear hgw hbm hcm
  go_wp2_with fail
  clear hrun hmm ht hn m4
  have LM : Hid (bv < w2.heap.size ∧ ba < w2.heap.size ∧ bw < w2.heap.size ∧ be < w2.heap.size ∧ g < w2.heap.size) := Lib.hid ⟨Nat.lt_of_lt_of_le (heap_lt HB.out.hv) hz2, Nat.lt_of_lt_of_le (heap_lt HB.out.ha) hz2, Nat.lt_of_lt_of_le (heap_lt HB.out.hw) hz2, Nat.lt_of_lt_of_le (heap_lt HB.out.he) hz2, Nat.lt_of_lt_of_le (heap_lt HB.out.hg) hz2⟩
  have L0 : w0.heap.size ≤ w2.heap.size := Nat.le_trans HB.out.bel.size hz2
  have lW : W.heap.size < w2.heap.size := heap_lt HC2.out
  have lgW : g < W.heap.size := heap_lt HB.out.hg
  clear hN hgr w2c0 w2c1 w2c2 w2c3 w2c4 w2q0 w2q1 w2q2 HQ2 HC2 HB2 HB hz2
  generalize w2.heap.size = bm at *
  go_loopg [12, 79] m (fun gk nv ct wr => ∃ (j : Nat) (esr : Array Value), ct = .int .i64 j ∧ gk + j = m ∧ Hid (BH w0 V b off cap bv ba bw be g esr wr) ∧ Hid (W.grownBy wr (some g)) ∧
    ((∃ (p u : Nat) (nm : List (List UInt8)), nv = .int .i64 (p : Int) ∧ p ≤ V.length ∧ Hid (p = k + 1 + u) ∧ nm.length ≤ j ∧ j ≤ u ∧ Hid (KS V (d - 1) k false o gk nm u) ∧ Hid (NamesM bm (nm ++ [[]]) wr) ∧ Hid (wr.heap[W.heap.size]? = some (.cells #[.int .u8 (kk : Int), .string nx, .string tx, .int .i64 nu, .int .i64 (m : Int)] 63 (0, 0))) ∧
      Hid ((∀ i, i < k + 1 ∨ k + 1 + u ≤ i → esr[i]? = es[i]?) ∧ ∀ i, k + 1 ≤ i → i < k + 1 + u → esr[i]? = some (.int .i64 (endI V i 16)))) ∨ (nv = .int .i64 (-1) ∧ Hid (o = none))))
  case atStart => exact ⟨0, es, rfl, by omega, HBM, HGW, Or.inl ⟨k + 1, 0, [], by go_num, by omega, Lib.hid rfl, Nat.le_refl _, Nat.le_refl _, HK0, HNM, HCM, Lib.hid ⟨fun i _ => rfl, fun i h1 h2 => by omega⟩⟩⟩
  case round =>
    rename World => wr
    obtain ⟨j, esr, rfl, hj, HBr, HGr, hrel2⟩ := hrel
    rcases hrel2 with ⟨p, u, nm, rfl, hp, HPU, hnm, hju, HK, HN, HC, HF⟩ | ⟨rfl, HO⟩
    · by_cases hg0 : gk = 0
      · subst hg0
        have HO := Lib.hid HK.out.done
        have e0 : wr.cell? ⟨be, 0, none⟩ = some (.slice (some ⟨g, 0, none⟩) V.length V.length) := by rw [Lib.cell_of_heap HBr.out.he]; rfl
        have hks : k < esr.size := by rw [HBr.out.size]; exact hk
        have e1 : wr.cell? ⟨g, k, none⟩ = some (esr[k]) := by rw [Lib.cell_of_heap HBr.out.hg]; exact Array.getElem?_eq_getElem hks
        have e2 : wr.frozen? ⟨g, k, none⟩ = false := Lib.frozen_of_heap HBr.out.hg k
        generalize esr[k] = ek at *
        have hval2 : valN d (V.drop k) = some (1 + u) := by rw [HV.out, HO.out]; rfl
        have HPK : Hid (p = k + (1 + u)) := Lib.hid (by rw [HPU.out]; omega)
        have HFIN : Hid (BEnd V k d g es (endI V k d) (.returned (.int .i64 (p : Int))) W (wr.setCell ⟨g, k, none⟩ (.int .i64 (p : Int)))) := Lib.hid (by
          rw [HPK.out]
          exact bend_yes hval2 hd hk HES.out HBr.out.hg (by rw [HBr.out.size, HES.out]) HGr.out (fun i h => HF.out.1 i (by omega)) (fun i h1 h2 => HF.out.2 i h1 (by omega)))
        clear hval2
        go_wp2_with fail
        go_ret
        exact HFIN.out
      · obtain ⟨g1, rfl⟩ : ∃ g1, gk = g1 + 1 := ⟨gk - 1, by omega⟩
        clear hg0
        have r0 : wr.cell? ⟨bv, 0, none⟩ = some (.slice (some ⟨b, off, none⟩) V.length cap) := by rw [Lib.cell_of_heap HBr.out.hv]; rfl
        by_cases hpl : p < V.length
        · obtain ⟨_, r1, _⟩ := (HROW.out.below HBr.out.bel hbl) p hpl
          have r2 : wr.cell? ⟨W.heap.size, 0, none⟩ = some (.int .u8 (kk : Int)) := by rw [Lib.cell_of_heap HC.out]; rfl
          have hxz : (⟨V[p].name.toArray⟩ : ByteArray).size = V[p].name.length := by show V[p].name.toArray.size = _; simp
          have hxl : (⟨V[p].name.toArray⟩ : ByteArray).data.toList = V[p].name := by simp
          have hxs : (⟨V[p].name.toArray⟩ : ByteArray).size ≤ 100000 := by rw [hxz]; exact HSM.out _ (List.getElem_mem _)
          have HBAD := Lib.hid (fun h => HK.out.bad HPU.out hpl h)
          have HFAIL := Lib.hid (fun h h' => HK.out.fail HPU.out hpl h h')
          have HNEXT := Lib.hid (fun n h h' => HK.out.next (n := n) HPU.out hpl h h')
          rw [← hxl] at HBAD HFAIL HNEXT
          clear hxz hxl
          generalize (⟨V[p].name.toArray⟩ : ByteArray) = x at *
          have hu : u ≤ 100000 := by have := HPU.out; omega
          have hlook := HN.out.lookup x (by unfold maxLen; omega)
          rw [amongB_app] at hlook
          obtain ⟨wn, hrun, hN2, hgr⟩ := HN.out.update x (by unfold maxLen; omega) (by simp; omega)
          cases hq : (amongB nm x.data.toList || x.data.toList.isEmpty) with
          | true =>
            rw [hq, if_pos rfl] at hlook
            have HO := Lib.hid (HBAD.out (by
              unfold okN
              rw [if_neg Bool.false_ne_true]
              cases h1 : x.data.toList.isEmpty with
              | true => simp
              | false => rw [h1, Bool.or_false] at hq; simp [hq]))
            clear hq hrun hgr hN2
            have HFIN : Hid (BEnd V k d g es (endI V k d) (.returned (.int .i64 (-1))) W wr) := Lib.hid (bend_none (by rw [HV.out, HO.out]; rfl) HBr.out HES.out HGr.out)
            go_wp2_with fail
            go_ret
            exact HFIN.out
          | false =>
            rw [hq, if_neg Bool.false_ne_true] at hlook
            rw [Bool.or_eq_false_iff] at hq
            have HT := Lib.hid (HTX.out wr x hxs HBr.out.bel)
            by_cases hchk : chkE x.data.toList = 0
            · have hok0 : okN false nm x.data.toList = true := by
                unfold okN
                rw [if_neg Bool.false_ne_true, hq.1, hq.2, chkE_text, hchk]; rfl
              have HOK := Lib.hid hok0
              rw [hchk] at HT
              clear hok0 hq hchk hrun hgr hN2
              go_wp2_with fail
              refine HT.out.mono ?_; rintro e w6 ⟨rfl, hb6⟩
              clear hlook
              have HBs := Lib.hid (HBr.out.below hb6)
              have HGs := Lib.hid (grown_trans HGr.out (grown_below hb6 _))
              have HCs : Hid (w6.heap[W.heap.size]? = some (.cells #[.int .u8 (kk : Int), .string nx, .string tx, .int .i64 nu, .int .i64 (m : Int)] 63 (0, 0))) := Lib.hid ((hb6.block _ (heap_lt HC.out)).trans HC.out)
              have HNs := Lib.hid (HN.out.below hb6)
              obtain ⟨wn, hrun, hN2, hgr⟩ := HNs.out.update x (by unfold maxLen; omega) (by simp; omega)
              clear hb6
              have hok : okN false nm x.data.toList = true := HOK.out
              have HB5 : Hid (BH w0 V b off cap bv ba bw be g esr wn) := Lib.hid (HBs.out.other hgr L0 LM.out)
              have q0 : wn.cell? ⟨bw, 0, none⟩ = some (.func (.func 113) #[] #[.pointer (some ⟨bv, 0, none⟩), .pointer (some ⟨ba, 0, none⟩), .pointer (some ⟨bw, 0, none⟩), .pointer (some ⟨be, 0, none⟩)]) := by rw [Lib.cell_of_heap HB5.out.hw]; rfl
              have HGn : Hid (W.grownBy wn (some g)) := Lib.hid (grown_new HGs.out hgr (by omega))
              have HCn : Hid (wn.heap[W.heap.size]? = some (.cells #[.int .u8 (kk : Int), .string nx, .string tx, .int .i64 nu, .int .i64 (m : Int)] 63 (0, 0))) := Lib.hid ((hgr.block _ (heap_lt HCs.out) (fun e => by have := Option.some.inj e; omega)).trans HCs.out)
              have HNn := Lib.hid hN2
              clear hgr hN2
              cases hv : valN (d - 1) (V.drop p) with
              | none =>
                have HO := Lib.hid (HFAIL.out hok hv)
                have HI : Hid (Calls Tryz.prog 113 #[.int .i64 (p : Int), .int .i64 ((d : Int) - 1), .pointer (some ⟨bv, 0, none⟩), .pointer (some ⟨ba, 0, none⟩), .pointer (some ⟨bw, 0, none⟩), .pointer (some ⟨be, 0, none⟩)] wn fun e w' => BEnd V p (d - 1) g esr (-1) e wn w') := Lib.hid (by
                  have := HIH.out wn esr p hpl HB5.out
                  rw [endI_none hv] at this
                  exact this)
                clear hv hok
                go_wp2_with fail
                refine HI.out.mono ?_; rintro e w5 hbe
                obtain ⟨rfl, hg5, es5, hh5, hs5, hf5⟩ := hbe
                have HB6 := Lib.hid (HB5.out.grown hg5 hh5 hs5)
                have HG6 := Lib.hid (grown_trans HGn.out hg5)
                clear hg5 hh5 hs5 hf5
                go_wp2_with fail
                go_roundg g1
                case measure => omega
                case rel => exact ⟨j + 1, es5, by go_num, by omega, HB6, HG6, Or.inr ⟨rfl, HO⟩⟩
              | some n =>
                have HO := Lib.hid (HNEXT.out n hok hv)
                have HI : Hid (Calls Tryz.prog 113 #[.int .i64 (p : Int), .int .i64 ((d : Int) - 1), .pointer (some ⟨bv, 0, none⟩), .pointer (some ⟨ba, 0, none⟩), .pointer (some ⟨bw, 0, none⟩), .pointer (some ⟨be, 0, none⟩)] wn fun e w' => BEnd V p (d - 1) g esr ((p + n : Nat) : Int) e wn w') := Lib.hid (by
                  have := HIH.out wn esr p hpl HB5.out
                  rw [endI_some hv] at this
                  exact this)
                have hn1 := (valN_le _ _ _ hv).1
                have hn2 := (valN_le _ _ _ hv).2
                rw [List.length_drop] at hn2
                have HV2 := Lib.hid hv
                obtain ⟨p2, hp2⟩ : ∃ p2, p + n = p2 := ⟨_, rfl⟩
                have HP2 : Hid (p2 = k + 1 + (u + n)) := Lib.hid (by rw [← hp2, HPU.out]; omega)
                have hp3 : p2 ≤ V.length := by omega
                rw [hp2] at HI
                clear hv hok hp2 hn2
                go_wp2_with fail
                refine HI.out.mono ?_; rintro e w5 hbe
                obtain ⟨rfl, hg5, es5, hh5, hs5, hf5⟩ := hbe
                have HB6 := Lib.hid (HB5.out.grown hg5 hh5 hs5)
                have HG6 := Lib.hid (grown_trans HGn.out hg5)
                have HF6 := Lib.hid (fill_next HPU.out HF.out (hf5 n HV2.out))
                have HN6 : Hid (NamesM bm ((x.data.toList :: nm) ++ [[]]) w5) := Lib.hid (HNn.out.grown hg5 (fun e => by have h1 := Option.some.inj e; have h2 := LM.out.2.2.2.2; omega))
                have HC6 := Lib.hid ((hg5.block _ (heap_lt HCn.out) (fun e => by have h1 := Option.some.inj e; omega)).trans HCn.out)
                clear hg5 hh5 hs5 hf5
                go_wp2_with fail
                go_roundg g1
                case measure => omega
                case rel => exact ⟨j + 1, es5, by go_num, by omega, HB6, HG6, Or.inl ⟨p2, u + n, x.data.toList :: nm, rfl, hp3, HP2, by simp; omega, by omega, HO, HN6, HC6, HF6⟩⟩
            · have hne0 : (chkE x.data.toList != 0) = true := by rw [bne_iff_ne]; exact hchk
              have HO := Lib.hid (HBAD.out (by
                unfold okN
                have : textB x.data.toList = false := by rw [chkE_text]; exact beq_eq_false_iff_ne.2 hchk
                rw [if_neg Bool.false_ne_true, this]; simp))
              have HFIN : Hid (∀ w6 : World, Below wr.heap.size wr w6 → BEnd V k d g es (endI V k d) (.returned (.int .i64 (-1))) W w6) := Lib.hid (fun w6 h6 => bend_none (by rw [HV.out, HO.out]; rfl) (HBr.out.below h6) HES.out (grown_trans HGr.out (grown_below h6 _)))
              clear hq hchk hrun hgr hN2
              generalize chkE x.data.toList = ce at *
              go_wp2_with fail
              refine HT.out.mono ?_; rintro e w6 ⟨rfl, hb6⟩
              have HFIN2 := Lib.hid (HFIN.out _ hb6)
              clear hlook hb6
              go_wp2_with fail
              go_ret
              exact HFIN2.out
        · have HO := Lib.hid (HK.out.out_ (by have := HPU.out; omega))
          have HFIN : Hid (BEnd V k d g es (endI V k d) (.returned (.int .i64 (-1))) W wr) := Lib.hid (bend_none (by rw [HV.out, HO.out]; rfl) HBr.out HES.out HGr.out)
          go_wp2_with fail
          go_ret
          exact HFIN.out
    · have HFIN : Hid (BEnd V k d g es (endI V k d) (.returned (.int .i64 (-1))) W wr) := Lib.hid (bend_none (by rw [HV.out, HO.out]; rfl) HBr.out HES.out HGr.out)
      by_cases hg0 : gk = 0
      · subst hg0
        go_wp2_with fail
        go_ret
        exact HFIN.out
      · have hlt : j < m := by omega
        go_wp2_with fail
        go_ret
        exact HFIN.out
end Go.Proofs.YtgaknbnhmoddcaaGreatDoor
namespace Go.Proofs.YtgaknbnhmoddcaaGreatDoor
open Go.RowKit
theorem valN_drop (V : List Cel) (k d : Nat) (hk : k < V.length) : valN d (V.drop k) = if oneC V[k] then (if nestC V[k] then (match d with | 0 => none | d' + 1 => (kidsN (valN d') (V[k].kind == 6) V[k].many.toNat [] (V.drop (k + 1))).map (1 + ·)) else some 1) else none := by
  rw [List.drop_eq_getElem_cons hk]
  cases d with
  | zero =>
    rw [valN_zero, headN_cons]
    cases oneC V[k] <;> cases nestC V[k] <;> rfl
  | succ d => rw [valN_more, headN_cons]
theorem behind_case (w0 : World) (V : List Cel) (b off cap bv ba bw be g : Nat) (hrow : CelRow b off V w0) (hbl : b < w0.heap.size) (hs : SmallV V) (hE : EnvU w0)
    (HSM : Hid (∀ c ∈ V, c.name.length ≤ 100000)) (HTX : Hid (∀ (W' : World) (x : ByteArray), x.size ≤ 100000 → Below w0.heap.size w0 W' → Calls Tryz.prog 49 #[.string x] W' fun e w' => e = .returned (.int .i64 (chkE x.data.toList)) ∧ Below W'.heap.size W' w'))
    (d : Nat) (hd : d ≤ 16) (W : World) (es : Array Value) (k : Nat) (hk : k < V.length) (hB : BH w0 V b off cap bv ba bw be g es W)
    (HIH : 0 < d → Hid (∀ (W' : World) (es' : Array Value) (p : Nat), p < V.length → BH w0 V b off cap bv ba bw be g es' W' → Calls Tryz.prog 113 #[.int .i64 (p : Int), .int .i64 ((d : Int) - 1), .pointer (some ⟨bv, 0, none⟩), .pointer (some ⟨ba, 0, none⟩), .pointer (some ⟨bw, 0, none⟩), .pointer (some ⟨be, 0, none⟩)] W' fun e w' => BEnd V p (d - 1) g es' (endI V p (d - 1)) e W' w')) :
    Calls Tryz.prog 113 #[.int .i64 (k : Int), .int .i64 (d : Int), .pointer (some ⟨bv, 0, none⟩), .pointer (some ⟨ba, 0, none⟩), .pointer (some ⟨bw, 0, none⟩), .pointer (some ⟨be, 0, none⟩)] W fun e w' => BEnd V k d g es (endI V k d) e W w' := by
  obtain ⟨c0, c1, c2, c3, c4⟩ := (hrow.below hB.bel hbl) k hk
  obtain ⟨s1, s2, s3, s4⟩ := hs.2 V[k] (List.getElem_mem _)
  have htz : (⟨V[k].text.toArray⟩ : ByteArray).size = V[k].text.length := by show V[k].text.toArray.size = _; simp
  have hkl := UInt8.toNat_lt V[k].kind
  have hone := one_kind V[k]
  have hnest := nest_kind V[k]
  have hval := valN_drop V k d hk
  have no : ∀ {e : Ending} {w' : World}, valN d (V.drop k) = none → e = .returned (.int .i64 (-1)) ∧ Below W.heap.size W w' → BEnd V k d g es (endI V k d) e W w' := by
    rintro e w' hn ⟨rfl, hb⟩
    exact bend_no hn hB.hg hb
  by_cases h7 : 7 < V[k].kind.toNat
  · have hn : valN d (V.drop k) = none := by rw [hval, hone, decide_eq_false (by omega)]; rfl
    exact (bw_big w0 V b off cap bv ba bw be g es W k d hB _ _ _ _ _ hk hs.1 hd c0 c1 c2 c3 c4 h7 (by omega)).mono fun e w' h => no hn h
  rw [decide_eq_true (by omega), Bool.true_and] at hone
  have HT : Hid (∀ w : World, Below W.heap.size W w → Calls Tryz.prog (tfun V[k].kind.toNat) #[.string ⟨V[k].text.toArray⟩] w fun e w' => e = .returned (.bool (ctext V[k].kind.toNat V[k].text)) ∧ Below w.heap.size w w') := Lib.hid fun w hw => by
    have := tfun_any V[k].kind.toNat ⟨V[k].text.toArray⟩ (by omega) w (hE.below (hB.bel.trans (hw.mono hB.bel.size)))
    simpa using this
  have HN : Hid (∀ w : World, Calls Tryz.prog (nfun V[k].kind.toNat) #[.int .i64 V[k].num] w fun e w' => e = .returned (.bool (cnum V[k].kind.toNat V[k].num)) ∧ Below w.heap.size w w') := Lib.hid fun w => nfun_any _ _ w
  cases ht : ctext V[k].kind.toNat V[k].text with
  | false =>
    rw [ht] at HT hone
    have hn : valN d (V.drop k) = none := by rw [hval, hone]; rfl
    exact (bw_text w0 V b off cap bv ba bw be g es W k d hB _ _ _ _ _ hk hs.1 hd c0 c1 c2 c3 c4 (by omega) HT).mono fun e w' h => no hn h
  | true =>
    rw [ht, Bool.true_and] at hone
    rw [ht] at HT
    cases hnu : cnum V[k].kind.toNat V[k].num with
    | false =>
      rw [hnu] at HN hone
      have hn : valN d (V.drop k) = none := by rw [hval, hone]; rfl
      exact (bw_num w0 V b off cap bv ba bw be g es W k d hB _ _ _ _ _ hk hs.1 hd c0 c1 c2 c3 c4 (by omega) HT HN).mono fun e w' h => no hn h
    | true =>
      rw [hnu, Bool.true_and] at hone
      rw [hnu] at HN
      by_cases hm : V[k].many < 0
      · have hn : valN d (V.drop k) = none := by
          rw [hval, hone]
          cases cnest V[k].kind.toNat with
          | true => rw [if_pos rfl, decide_eq_false (by omega)]; rfl
          | false => rw [if_neg Bool.false_ne_true, beq_eq_false_iff_ne.2 (by omega)]; rfl
        exact (bw_neg w0 V b off cap bv ba bw be g es W k d hB _ _ _ _ _ hk hs.1 hd c0 c1 c2 c3 c4 (by omega) HT HN hm).mono fun e w' h => no hn h
      · cases hcn : cnest V[k].kind.toNat with
        | false =>
          rw [hcn, if_neg Bool.false_ne_true] at hone
          by_cases hm0 : V[k].many = 0
          · rw [hm0] at c4 hone
            have hv1 : valN d (V.drop k) = some 1 := by rw [hval, hone, hnest, hcn]; rfl
            exact bw_zero_leaf w0 V b off cap bv ba bw be g es W k d hB _ _ _ _ hk hs.1 hd c0 c1 c2 c3 c4 (by omega) HT HN hcn hv1
          · have hn : valN d (V.drop k) = none := by rw [hval, hone, beq_eq_false_iff_ne.2 hm0]; rfl
            exact (bw_leaf w0 V b off cap bv ba bw be g es W k d hB _ _ _ _ _ hk hs.1 hd c0 c1 c2 c3 c4 (by omega) HT HN (by omega) hcn (by omega)).mono fun e w' h => no hn h
        | true =>
          rw [hcn, if_pos rfl, decide_eq_true (by omega)] at hone
          by_cases hd0 : d = 0
          · have hn : valN d (V.drop k) = none := by rw [hval, hone, hnest, hcn]; subst hd0; rfl
            exact (bw_deep w0 V b off cap bv ba bw be g es W k d hB _ _ _ _ _ hk hs.1 hd c0 c1 c2 c3 c4 (by omega) HT HN (by omega) hcn hd0).mono fun e w' h => no hn h
          · obtain ⟨d', rfl⟩ : ∃ d', d = d' + 1 := ⟨d - 1, by omega⟩
            rw [hone, hnest, hcn, if_pos rfl, if_pos rfl] at hval
            dsimp only at hval
            obtain ⟨m, hm2⟩ := Int.eq_ofNat_of_zero_le (show 0 ≤ V[k].many by omega)
            rw [hm2] at c4
            have hmt : V[k].many.toNat = m := by rw [hm2]; rfl
            rw [hmt] at hval
            by_cases hm0 : m = 0
            · subst hm0
              have hv1 : valN (d' + 1) (V.drop k) = some 1 := by rw [hval]; cases V.drop (k + 1) <;> rfl
              exact bw_zero_nest w0 V b off cap bv ba bw be g es W k (d' + 1) hB _ _ _ _ hk hs.1 hd c0 c1 c2 c3 c4 (by omega) HT HN hcn (by omega) hv1
            · have hmx : (m : Int) ≤ 9223372036854775807 := by rw [← hm2]; exact s4.2
              have h67 : V[k].kind.toNat = 6 ∨ V[k].kind.toNat = 7 := by
                unfold cnest at hcn
                rw [Bool.or_eq_true, beq_iff_eq, beq_iff_eq] at hcn
                exact hcn
              rcases h67 with h6 | h6
              · have hk6 : (V[k].kind == 6) = true := beq_iff_eq.2 (UInt8.toNat_inj.1 h6)
                rw [hk6] at hval
                exact bw_list w0 V b off cap bv ba bw be g es W k (d' + 1) hB _ _ _ _ m hk hs.1 hd c0 c1 c2 c3 c4 (by omega) HT HN h6 hcn (by omega) (by omega) hmx (Lib.hid hrow) hbl HSM _ rfl hval HTX (HIH (by omega))
              · have hk6 : (V[k].kind == 6) = false := beq_eq_false_iff_ne.2 fun e => by rw [e] at h6; exact absurd h6 (by decide)
                rw [hk6] at hval
                exact bw_obj w0 V b off cap bv ba bw be g es W k (d' + 1) hB _ _ _ _ m hk hs.1 hd c0 c1 c2 c3 c4 (by omega) HT HN h6 hcn (by omega) (by omega) hmx (Lib.hid hrow) hbl HSM _ rfl hval HTX (HIH (by omega))
theorem behind_walk (w0 : World) (V : List Cel) (b off cap bv ba bw be g : Nat) (hrow : CelRow b off V w0) (hbl : b < w0.heap.size) (hs : SmallV V) (hE : EnvU w0) :
    ∀ d : Nat, d ≤ 16 → ∀ (W : World) (es : Array Value) (k : Nat), k < V.length → BH w0 V b off cap bv ba bw be g es W →
      Calls Tryz.prog 113 #[.int .i64 (k : Int), .int .i64 (d : Int), .pointer (some ⟨bv, 0, none⟩), .pointer (some ⟨ba, 0, none⟩), .pointer (some ⟨bw, 0, none⟩), .pointer (some ⟨be, 0, none⟩)] W fun e w' => BEnd V k d g es (endI V k d) e W w' := by
  have HSM : Hid (∀ c ∈ V, c.name.length ≤ 100000) := Lib.hid fun c hc => (hs.2 c hc).1
  have HTX : Hid (∀ (W' : World) (x : ByteArray), x.size ≤ 100000 → Below w0.heap.size w0 W' → Calls Tryz.prog 49 #[.string x] W' fun e w' => e = .returned (.int .i64 (chkE x.data.toList)) ∧ Below W'.heap.size W' w') := Lib.hid fun W' x hx hb => tcheck_any x (by omega) W' (hE.below hb)
  intro d
  induction d with
  | zero => 
    intro hd W es k hk hB
    exact behind_case w0 V b off cap bv ba bw be g hrow hbl hs hE HSM HTX 0 hd W es k hk hB (fun h => absurd h (by decide))
  | succ d ih =>
    intro hd W es k hk hB
    refine behind_case w0 V b off cap bv ba bw be g hrow hbl hs hE HSM HTX (d + 1) hd W es k hk hB (fun _ => Lib.hid fun W' es' p hp hB' => ?_)
    have := ih (by omega) W' es' p hp hB'
    rw [show ((d + 1 : Nat) : Int) - 1 = (d : Int) from by omega, show d + 1 - 1 = d from rfl]
    exact this
end Go.Proofs.YtgaknbnhmoddcaaGreatDoor
namespace Go.Proofs.YtgaknbnhmoddcaaGreatDoor
open Go.RowKit
theorem row_laid (w1 : World) (old cs : Array Value) (T : TypeId) : ∃ w2, (w1.alloc (.cells old T)).setRow w1.heap.size cs = w2 ∧ w2.heap[w1.heap.size]? = some (.cells cs T (0, 0)) ∧ Below w1.heap.size w1 w2 ∧ w2.heap.size = w1.heap.size + 1 :=
  ⟨_, rfl, setRow_heap _ _ _ cs _ _ (heap_alloc_new w1 _), below_setRow ((Below.refl _ _).alloc (Nat.le_refl _) _) (Nat.le_refl _) _, by simp⟩
theorem made_row {W : World} {n g : Nat} {xs : List Value} {B : Nat} (h : W.ownsRow B 3 1 (.slice (some ⟨g, 0, none⟩) n n) n xs) (hn : 0 < n) : ∃ cur : Array Value, W.heap[g]? = some (.cells cur 3 (0, 0)) ∧ cur.size = n := by
  obtain ⟨h1, h2⟩ := h
  rcases h2 with ⟨h2, h3⟩ | ⟨g', cap, cur, hv, hB, hg, hn', hc, hcs, ht⟩
  · cases h2
  · injection hv with e1 e2 e3
    injection e1 with e1
    injection e1 with e1
    subst e1 e3
    exact ⟨cur, hg, by omega⟩
/-- What the outermost call of behind's inner function leaves. -/
def BTop (V : List Cel) (w0 : World) (b off cap bv ba bw be g : Nat) (W W' : World) : Prop :=
  W.grownBy W' (some g) ∧ ∃ es : Array Value, BH w0 V b off cap bv ba bw be g es W' ∧ (valN 16 V = some V.length → ∀ i, i < V.length → es[i]? = some (.int .i64 (endI V i 16)))
theorem keepT {w0 W W' : World} {V : List Cel} {b off cap bv ba bw be g : Nat} {f s : Value} (h : BTop V w0 b off cap bv ba bw be g W W') (nw : bw ≠ g) (nv : bv ≠ g) (hS : W.cell? ⟨bw, 0, none⟩ = some f ∧ W.cell? ⟨bv, 0, none⟩ = some s ∧ Hid (∃ es, BH w0 V b off cap bv ba bw be g es W)) :
    W'.cell? ⟨bw, 0, none⟩ = some f ∧ W'.cell? ⟨bv, 0, none⟩ = some s ∧ Hid (∃ es, BH w0 V b off cap bv ba bw be g es W') := by
  obtain ⟨h1, h2, h3⟩ := hS
  obtain ⟨g1, es, g2, _⟩ := h
  exact ⟨g1.cell (a := ⟨bw, 0, none⟩) h1 (fun e => nw (Option.some.inj e)), g1.cell (a := ⟨bv, 0, none⟩) h2 (fun e => nv (Option.some.inj e)), Lib.hid ⟨es, g2⟩⟩
def BIn (V : List Cel) (r : Int) (B : Nat) (e : Ending) (w' : World) : Prop := if r = (V.length : Int) then ∃ (g : Nat) (es : Array Value), e = .returned (.slice (some ⟨g, 0, none⟩) V.length V.length) ∧ B ≤ g ∧ w'.heap[g]? = some (.cells es 3 (0, 0)) ∧ es.size = V.length ∧ ∀ i, i < V.length → es[i]? = some (.int .i64 (endI V i 16)) else e = .returned (.slice none 0 0)
/-- What behind hands back. -/
def BRet (V : List Cel) (B : Nat) (e : Ending) (w' : World) : Prop :=
  (mayB V = false ∧ e = .returned (.slice none 0 0)) ∨ (mayB V = true ∧ ∃ (g : Nat) (es : Array Value), e = .returned (.slice (some ⟨g, 0, none⟩) V.length V.length) ∧ B ≤ g ∧ w'.heap[g]? = some (.cells es 3 (0, 0)) ∧ es.size = V.length ∧ ∀ i, i < V.length → es[i]? = some (.int .i64 (endI V i 16)))
set_option maxRecDepth 100000 in
theorem behind_none (a : Option Addr) (cap : Nat) (w : World) :
    Calls Tryz.prog 92 #[.slice a 0 cap] w fun e w' => BRet [] w.heap.size e w' ∧ Below w.heap.size w w' := by
  go_enter Tryz.func92, Tryz.ntmps92
  go_wp2_with fail
  go_ret
  exact ⟨Or.inl ⟨rfl, rfl⟩, (Below.refl _ _).alloc (Nat.le_refl _) _⟩
set_option maxRecDepth 100000 in
theorem behind_long (n b off cap : Nat) (hn : 2048 < n) (hl : n ≤ 100000) (w : World) :
    Calls Tryz.prog 92 #[.slice (some ⟨b, off, none⟩) n cap] w fun e w' => e = .returned (.slice none 0 0) ∧ Below w.heap.size w w' := by
  have h0 : ((n : Int) == 0) = false := by rw [beq_eq_false_iff_ne]; omega
  go_enter Tryz.func92, Tryz.ntmps92
  go_wp2_with fail
  go_ret
  exact ⟨rfl, (Below.refl _ _).alloc (Nat.le_refl _) _⟩
set_option maxRecDepth 100000 in
theorem behind_named (n b off cap : Nat) (hn0 : 0 < n) (hn : n ≤ 2048) (x : ByteArray) (h1 : ¬ x.toList = []) (h2 : x.toList.isEmpty = false) (w : World) (c1 : w.cell? ⟨b, off + 1, none⟩ = some (.string x)) :
    Calls Tryz.prog 92 #[.slice (some ⟨b, off, none⟩) n cap] w fun e w' => e = .returned (.slice none 0 0) ∧ Below w.heap.size w w' := by
  have h0 : ((n : Int) == 0) = false := by rw [beq_eq_false_iff_ne]; omega
  have hlt := lt_of_cell c1
  go_enter Tryz.func92, Tryz.ntmps92
  go_wp2_with fail
  go_ret
  exact ⟨rfl, (Below.refl _ _).alloc (Nat.le_refl _) _⟩
set_option maxRecDepth 100000 in
theorem behind_in (V : List Cel) (b off cap : Nat) (hn0 : 0 < V.length) (hn : V.length ≤ 2048) (x : ByteArray) (h1 : x.toList = []) (h2 : x.toList.isEmpty = true) (w : World) (c1 : w.cell? ⟨b, off + 1, none⟩ = some (.string x))
    (hrow : CelRow b off V w) (hs : SmallV V) (hE : EnvU w) (r : Int) (hr : endI V 0 16 = r) :
    Calls Tryz.prog 92 #[.slice (some ⟨b, off, none⟩) V.length cap] w fun e w' => BIn V r w.heap.size e w' ∧ Below w.heap.size w w' := by
  have h0 : ((V.length : Int) == 0) = false := by rw [beq_eq_false_iff_ne]; omega
  have hlt := lt_of_cell c1
  have HROW := Lib.hid hrow
  have HS := Lib.hid hs
  have HE := Lib.hid hE
  have HR := Lib.hid hr
  have HK := Lib.hid (fun w => kinds_any w)
  have hnew : Hid (∀ (w : World) O, (w.alloc O).heap[w.heap.size]? = some O) := Lib.hid heap_alloc_new
  obtain ⟨i0, hi, hz0, hz1, hz2⟩ := info_parts int_info
  have HI := Lib.hid hi
  have HZ0 := Lib.hid hz0
  have HZ1 := Lib.hid hz1
  have HZ2 := Lib.hid hz2
  clear hrow hs hE hr hi hz0 hz1 hz2
  go_enter Tryz.func92, Tryz.ntmps92
  go_wp2_with fail
  refine (HK.out _).mono ?_; rintro e w1 ⟨rfl, hb⟩
  have hv1 : w1.heap[w.heap.size]? = some (.cells #[.slice (some ⟨b, off, none⟩) V.length cap] 22 (0, 0)) := (hb.block _ (by simp)).trans (hnew.out w _)
  have hb1 : Below w.heap.size w w1 := ((Below.refl _ _).alloc (Nat.le_refl _) _).trans (hb.mono (by simp))
  have HV1 := Lib.hid hv1
  have HB1 := Lib.hid hb1
  have hz1 : w.heap.size + 1 ≤ w1.heap.size := by have := hb.size; simpa using this
  clear hb hv1 hb1
  have hmf : ∀ (fn : Fn) (first cp : Array Value) (w : World), (Instr.makeFunc fn first cp).run Tryz.prog w = .ok (.func fn first cp) w := fun _ _ _ _ => rfl
  go_wp2_with (first
    | (refine wpList_store_row rfl 184 _ _ rfl w1.heap.size kindsA rfl rfl 184 #[.nilFunc, .nilFunc, .bool false, .nilFunc, .nilFunc, .bool false, .nilFunc, .nilFunc, .bool false, .nilFunc, .nilFunc, .bool false, .nilFunc, .nilFunc, .bool false, .nilFunc, .nilFunc, .bool false, .nilFunc, .nilFunc, .bool false, .nilFunc, .nilFunc, .bool false] (hnew.out _ _) (by kernel_rfl) rfl kindsA_one ?_; obtain ⟨w2, hw2, hA2, hB2, hZ2⟩ := row_laid w1 #[.nilFunc, .nilFunc, .bool false, .nilFunc, .nilFunc, .bool false, .nilFunc, .nilFunc, .bool false, .nilFunc, .nilFunc, .bool false, .nilFunc, .nilFunc, .bool false, .nilFunc, .nilFunc, .bool false, .nilFunc, .nilFunc, .bool false, .nilFunc, .nilFunc, .bool false] kindsA 184; rw [hw2]; clear hw2; have HA2 := Lib.hid hA2; have HB2 := Lib.hid hB2; have HZ2' := Lib.hid hZ2; have HV2 := Lib.hid ((hB2.block _ (heap_lt HV1.out)).trans HV1.out); have v2 : w2.cell? ⟨w.heap.size, 0, none⟩ = some (.slice (some ⟨b, off, none⟩) V.length cap) := (by rw [Lib.cell_of_heap HV2.out]; rfl); clear hA2 hB2 hZ2)
    | (at_make; refine wpList_make_full _ rfl _ _ 131 rfl w.heap.size 3 i0 (.int .i64 0) 1 Tryz.underlying131 HI.out HZ0.out HZ1.out .i64 .i64 _ _ V.length rfl rfl rfl rfl (by rw [HZ2.out]; omega) (by unfold maxLen; omega) (by rw [HZ2'.out]; omega) ?_; intro w3 hown3 hgrow3; have HO3 := Lib.hid hown3; have HG3 := Lib.hid hgrow3; clear hown3 hgrow3 v2))
  obtain ⟨cur, hcur, hcs⟩ := made_row HO3.out hn0
  have hz2 := HZ2'.out
  have hz3 : w2.heap.size + 1 ≤ w3.heap.size := heap_lt hcur
  have b1 := HB1.out
  have b2 : Below w.heap.size w w2 := HB1.out.trans (HB2.out.mono (by omega))
  have b3 : Below w.heap.size w w3 := b2.grown HG3.out b2.size (by intro k hk; cases hk)
  obtain ⟨w4, hw4⟩ : ∃ w4, ((w3.alloc (.cells #[.slice (some ⟨w2.heap.size, 0, none⟩) V.length V.length] 131)).alloc (.cells #[.func (.func 113) #[] #[.pointer (some ⟨w.heap.size, 0, none⟩), .pointer (some ⟨w1.heap.size, 0, none⟩), .pointer (some ⟨w3.heap.size + 1, 0, none⟩), .pointer (some ⟨w3.heap.size, 0, none⟩)]] 186)) = w4 := ⟨_, rfl⟩
  have b4 : Below w3.heap.size w3 w4 := by rw [← hw4]; exact ((Below.refl _ _).alloc (Nat.le_refl _) _).alloc (by simp) _
  have g3 : ∀ (i : Nat) (O : Obj), w2.heap[i]? = some O → w4.heap[i]? = some O := fun i O h => by
    have h' : w3.heap[i]? = some O := (HG3.out.block i (heap_lt h) (by intro e; cases e)).trans h
    exact (b4.block i (heap_lt h')).trans h'
  have HBH : Hid (∃ es, BH w V b off cap w.heap.size w1.heap.size (w3.heap.size + 1) w3.heap.size w2.heap.size es w4) := Lib.hid ⟨cur, {
    hv := g3 _ _ HV2.out
    ha := g3 _ _ HA2.out
    hw := by rw [← hw4]; exact heap_new _ _ _ (by simp)
    he := by rw [← hw4]; exact heap_old (heap_new _ _ _ rfl)
    hg := (b4.block _ (heap_lt hcur)).trans hcur
    size := hcs
    bel := b3.trans (b4.mono b3.size)
    lv := Nat.le_refl _
    la := by omega
    lw := by omega
    le := by omega
    lg := by omega
    nv := by omega
    na := by omega
    nw := by omega
    ne := by omega }⟩
  have q0 : w4.cell? ⟨w3.heap.size + 1, 0, none⟩ = some (.func (.func 113) #[] #[.pointer (some ⟨w.heap.size, 0, none⟩), .pointer (some ⟨w1.heap.size, 0, none⟩), .pointer (some ⟨w3.heap.size + 1, 0, none⟩), .pointer (some ⟨w3.heap.size, 0, none⟩)]) := by obtain ⟨es, h⟩ := HBH.out; rw [Lib.cell_of_heap h.hw]; rfl
  have q1 : w4.cell? ⟨w.heap.size, 0, none⟩ = some (.slice (some ⟨b, off, none⟩) V.length cap) := by obtain ⟨es, h⟩ := HBH.out; rw [Lib.cell_of_heap h.hv]; rfl
  have q0' : w4.drew.cell? ⟨w3.heap.size + 1, 0, none⟩ = _ := q0
  have q1' : w4.drew.cell? ⟨w.heap.size, 0, none⟩ = _ := q1
  have HBHd : Hid (∃ es, BH w V b off cap w.heap.size w1.heap.size (w3.heap.size + 1) w3.heap.size w2.heap.size es w4.drew) := Lib.hid (by obtain ⟨es, h⟩ := HBH.out; exact ⟨es, h.below ⟨rfl, rfl, rfl, Nat.le_refl _, fun _ _ => rfl⟩⟩)
  have HS0 := Lib.hid (And.intro q0' (And.intro q1' HBHd))
  have HCALL : Hid (∀ W : World, (W.cell? ⟨w3.heap.size + 1, 0, none⟩ = some (.func (.func 113) #[] #[.pointer (some ⟨w.heap.size, 0, none⟩), .pointer (some ⟨w1.heap.size, 0, none⟩), .pointer (some ⟨w3.heap.size + 1, 0, none⟩), .pointer (some ⟨w3.heap.size, 0, none⟩)]) ∧ W.cell? ⟨w.heap.size, 0, none⟩ = some (.slice (some ⟨b, off, none⟩) V.length cap) ∧ Hid (∃ es, BH w V b off cap w.heap.size w1.heap.size (w3.heap.size + 1) w3.heap.size w2.heap.size es W)) →
      Calls Tryz.prog 113 #[.int .i64 0, .int .i64 16, .pointer (some ⟨w.heap.size, 0, none⟩), .pointer (some ⟨w1.heap.size, 0, none⟩), .pointer (some ⟨w3.heap.size + 1, 0, none⟩), .pointer (some ⟨w3.heap.size, 0, none⟩)] W fun e w' => e = .returned (.int .i64 r) ∧ BTop V w b off cap w.heap.size w1.heap.size (w3.heap.size + 1) w3.heap.size w2.heap.size W w') := Lib.hid (by
    intro W hW
    obtain ⟨es, hB⟩ := hW.2.2.out
    have := behind_walk w V b off cap _ _ _ _ _ HROW.out hlt HS.out HE.out 16 (by omega) W es 0 hn0 hB
    refine this.mono ?_
    rintro e w' ⟨h1, h2, es', h3, h4, h5⟩
    rw [HR.out] at h1
    refine ⟨h1, h2, es', hB.grown h2 h3 h4, fun hv i hi => ?_⟩
    exact (h5 _ (by rw [List.drop_zero]; exact hv)).2 i (Nat.zero_le _) (by omega))
  clear q0 q1 q0' q1' HBHd hcur hcs b1 b2 b3 b4 g3 hmf
  rw [hw4]
  clear hw4
  go_region_held3 (fun W => W.cell? ⟨w3.heap.size + 1, 0, none⟩ = some (.func (.func 113) #[] #[.pointer (some ⟨w.heap.size, 0, none⟩), .pointer (some ⟨w1.heap.size, 0, none⟩), .pointer (some ⟨w3.heap.size + 1, 0, none⟩), .pointer (some ⟨w3.heap.size, 0, none⟩)]) ∧ W.cell? ⟨w.heap.size, 0, none⟩ = some (.slice (some ⟨b, off, none⟩) V.length cap) ∧ Hid (∃ es, BH w V b off cap w.heap.size w1.heap.size (w3.heap.size + 1) w3.heap.size w2.heap.size es W))
    (first | assumption | exact HS0.out | exact keepT (by assumption) (by omega) (by omega) (by assumption))
    (first | ((with_reducible refine (HCALL.out _ (by assumption)).mono ?_); rintro e w5 ⟨rfl, hb⟩))
  clear hz2 hz3
  obtain ⟨hg5, es, hB5, hfill⟩ := hb
  have e0 : w5.cell? ⟨w3.heap.size, 0, none⟩ = some (.slice (some ⟨w2.heap.size, 0, none⟩) V.length V.length) := by rw [Lib.cell_of_heap hB5.he]; rfl
  have HF := Lib.hid hfill
  have HB5 := Lib.hid hB5
  have HZ := HZ2'.out
  clear hfill hB5 hg5
  by_cases hrv : r = (V.length : Int)
  · have hne : (r != (V.length : Int)) = false := by rw [bne_eq_false_iff_eq]; exact hrv
    have hval : valN 16 V = some V.length := by
      have h := HR.out
      rw [hrv] at h
      unfold endI at h
      rw [List.drop_zero] at h
      cases hv : valN 16 V with
      | none => rw [hv] at h; simp at h
      | some n =>
        rw [hv] at h
        dsimp only at h
        have : n = V.length := by omega
        rw [this]
    have HPOST : Hid (BIn V r w.heap.size (.returned (.slice (some ⟨w2.heap.size, 0, none⟩) V.length V.length)) w5 ∧ Below w.heap.size w w5) := Lib.hid (by
      unfold BIn
      rw [if_pos hrv]
      exact ⟨⟨_, es, rfl, HB5.out.lg, HB5.out.hg, HB5.out.size, HF.out hval⟩, HB5.out.bel⟩)
    clear hrv hval HZ
    go_wp2_with fail
    go_ret
    exact HPOST.out
  · have hne : (r != (V.length : Int)) = true := by rw [bne_iff_ne]; exact hrv
    have HPOST : Hid (BIn V r w.heap.size (.returned (.slice none 0 0)) w5 ∧ Below w.heap.size w w5) := Lib.hid (by
      unfold BIn
      rw [if_neg hrv]
      exact ⟨rfl, HB5.out.bel⟩)
    clear hrv HZ
    go_wp2_with fail
    go_ret
    exact HPOST.out
theorem behind_any (V : List Cel) (v : Value) (w : World) (hv : CelSl v V w) (hs : SmallV V) (hE : EnvU w) :
    Calls Tryz.prog 92 #[v] w fun e w' => BRet V w.heap.size e w' ∧ Below w.heap.size w w' := by
  rcases hv with ⟨a, c, rfl, rfl, _⟩ | ⟨b, off, cap, rfl, hrow, hpos⟩
  · exact behind_none a c w
  · by_cases hn : V.length ≤ 2048
    · obtain ⟨_, c1, _⟩ := hrow 0 hpos
      rw [Nat.zero_mul, Nat.add_zero] at c1
      have hhead : (V.headD ⟨0, [0], [], 0, 0⟩).name = V[0].name := by
        cases V with
        | nil => simp at hpos
        | cons c r => rfl
      have hxl : (⟨V[0].name.toArray⟩ : ByteArray).data.toList = V[0].name := by simp
      rcases empty_z ⟨V[0].name.toArray⟩ with ⟨z0, z1, z2, z3⟩ | ⟨z0, z1, z2, z3⟩
      · refine (behind_named V.length b off cap hpos hn _ z1 z2 w c1).mono ?_
        rintro e w' ⟨rfl, hb⟩
        refine ⟨Or.inl ⟨?_, rfl⟩, hb⟩
        unfold mayB
        rw [hhead]
        have : V[0].name.isEmpty = false := by rw [← hxl, ← ByteArray.toList_eq]; exact z2
        rw [this]; simp
      · refine (behind_in V b off cap hpos hn _ z1 z2 w c1 hrow hs hE _ rfl).mono ?_
        rintro e w' ⟨h, hb⟩
        refine ⟨?_, hb⟩
        have hne : V[0].name.isEmpty = true := by rw [← hxl, ← ByteArray.toList_eq]; exact z2
        have hmay : mayB V = (valN 16 V == some V.length) := by
          unfold mayB
          rw [hhead, hne, decide_eq_true hpos, decide_eq_true hn]; simp
        unfold BIn at h
        by_cases hr : endI V 0 16 = (V.length : Int)
        · rw [if_pos hr] at h
          refine Or.inr ⟨?_, ?_⟩
          · rw [hmay]
            unfold endI at hr
            rw [List.drop_zero] at hr
            cases hv : valN 16 V with
            | none => rw [hv] at hr; simp at hr
            | some n =>
              rw [hv] at hr
              dsimp only at hr
              rw [beq_iff_eq]
              have : n = V.length := by omega
              rw [this]
          · obtain ⟨g, es, h1, h2, h3, h4, h5⟩ := h
            exact ⟨g, es, h1, h2, h3, h4, h5⟩
        · rw [if_neg hr] at h
          refine Or.inl ⟨?_, h⟩
          rw [hmay, beq_eq_false_iff_ne]
          intro e
          apply hr
          unfold endI
          rw [List.drop_zero, e]
          simp
    · refine (behind_long V.length b off cap (by omega) hs.1 w).mono ?_
      rintro e w' ⟨rfl, hb⟩
      refine ⟨Or.inl ⟨?_, rfl⟩, hb⟩
      unfold mayB
      rw [decide_eq_false hn]; simp
end Go.Proofs.YtgaknbnhmoddcaaGreatDoor
namespace Go.Proofs.YtgaknbnhmoddcaaGreatDoor
open Go.RowKit
set_option maxRecDepth 100000 in
theorem ccheck_any (V : List Cel) (v : Value) (w : World) (hv : CelSl v V w) (hs : SmallV V) (hE : EnvU w) :
    Calls Tryz.prog 61 #[v] w fun e w' => e = .returned (.int .i64 (if mayB V then 0 else 8)) ∧ Below w.heap.size w w' := by
  have H := Lib.hid (behind_any V v w hv hs hE)
  have q := fun (w : World) (a : Option Addr) (n c : Nat) => Lib.run_eql_slice_nil w 131 3 a n c 0 0 Tryz.underlying131
  obtain ⟨r, hr⟩ : ∃ r : Int, (if mayB V then (0 : Int) else 8) = r := ⟨_, rfl⟩
  have HR := Lib.hid hr
  rw [hr]
  clear hv hE hs hr
  go_enter Tryz.func61, Tryz.ntmps61
  go_wp2_with fail
  refine H.out.mono ?_; rintro e w1 ⟨h, hb⟩
  rcases h with ⟨hm, rfl⟩ | ⟨hm, g, es, rfl, _⟩
  all_goals
    have HM := Lib.hid hm
    clear hm
    go_wp2_with fail
    go_ret
    exact ⟨ret_i (by rw [← HR.out, HM.out]; rfl), hb⟩
/-- The first place of one that a predicate holds of; -1. -/
def idxI (p : Cel → Bool) : List Cel → Nat → Int
  | [], _ => -1
  | c :: r, i => if p c then (i : Int) else idxI p r (i + 1)
theorem idxI_sign (p : Cel → Bool) : ∀ (V : List Cel) (i : Nat), decide (0 ≤ idxI p V i) = V.any p
  | [], i => rfl
  | c :: r, i => by
    rw [idxI, List.any_cons]
    cases p c with
    | true => simp
    | false => simpa using idxI_sign p r (i + 1)
set_option maxRecDepth 100000 in
theorem cindex_row (g : Nat) (lb : Array Value) (eg : ∀ args w, (callFunc g args).run Tryz.prog w = .ok (.enter g args) w) (p : Cel → Bool) (V : List Cel) (b off cap : Nat) (w : World) (hrow : CelRow b off V w) (hl : V.length ≤ 100000)
    (H : Hid (∀ (W : World) (k : Nat) (hk : k < V.length), Below w.heap.size w W → Calls Tryz.prog g (#[.agg (celCells V[k])] ++ lb) W fun e w' => e = .returned (.bool (p V[k])) ∧ Below W.heap.size W w')) :
    Calls Tryz.prog 93 #[.slice (some ⟨b, off, none⟩) V.length cap, .func (.func g) #[] lb] w fun e w' => e = .returned (.int .i64 (idxI p V 0)) ∧ Below w.heap.size w w' := by
  have HROW := Lib.hid hrow
  obtain ⟨r, hr⟩ : ∃ r, idxI p V 0 = r := ⟨_, rfl⟩
  have HR : Hid (idxI p (V.drop 0) 0 = r) := Lib.hid hr
  rw [hr]
  clear hr hrow
  go_enter Tryz.func93, Tryz.ntmps93
  go_wp2_with fail
  go_loopw [8] (fun i wr => ∃ k : Nat, k ≤ V.length ∧ i = .int .i64 k ∧ Hid (idxI p (V.drop k) k = r) ∧ Hid (Below w.heap.size w wr)) (fun i wr => V.length - (intOf i).toNat)
  case atStart => exact ⟨0, Nat.zero_le _, rfl, HR, Lib.hid (Below.refl _ _)⟩
  case round =>
    rename World => wr
    obtain ⟨k, hk, rfl, HS, HB⟩ := hrel
    by_cases hlt : k < V.length
    · obtain ⟨a0, a1, a2, a3, a4⟩ := (HROW.out.below' HB.out) k hlt
      have HC := Lib.hid (H.out wr k hlt HB.out)
      have hstep := HS.out
      rw [List.drop_eq_getElem_cons hlt, idxI] at hstep
      have hz := HB.out.size
      unfold celCells at HC
      generalize p V[k] = pk at *
      generalize (V[k].kind.toNat : Int) = ka at *
      generalize V[k].num = nu at *
      generalize V[k].many = ma at *
      generalize (⟨V[k].name.toArray⟩ : ByteArray) = x at *
      generalize (⟨V[k].text.toArray⟩ : ByteArray) = y at *
      cases pk with
      | true =>
        rw [if_pos rfl] at hstep
        have HF := Lib.hid hstep
        clear hstep HS
        go_wp2_with fail
        refine HC.out.mono ?_; rintro e w1 ⟨rfl, hb⟩
        have HB1 := Lib.hid (HB.out.trans (hb.mono hz))
        clear hb
        go_wp2_with fail
        go_ret
        exact ⟨ret_i HF.out, HB1.out⟩
      | false =>
        rw [if_neg Bool.false_ne_true] at hstep
        have HF := Lib.hid hstep
        clear hstep HS
        go_wp2_with fail
        refine HC.out.mono ?_; rintro e w1 ⟨rfl, hb⟩
        have HB1 := Lib.hid (HB.out.trans (hb.mono hz))
        clear hb
        go_wp2_with fail
        go_roundw
        case rel => exact ⟨k + 1, by omega, by go_num, HF, HB1⟩
        case measure => simp [intOf]; omega
    · have HF : Hid (-1 = r) := Lib.hid (by rw [← HS.out, List.drop_of_length_le (by omega)]; rfl)
      clear HS
      go_wp2_with fail
      go_ret
      exact ⟨ret_i HF.out, HB.out⟩
set_option maxRecDepth 100000 in
theorem cindex_none (g : Nat) (lb : Array Value) (p : Cel → Bool) (a : Option Addr) (cap : Nat) (w : World) :
    Calls Tryz.prog 93 #[.slice a 0 cap, .func (.func g) #[] lb] w fun e w' => e = .returned (.int .i64 (idxI p [] 0)) ∧ Below w.heap.size w w' := by
  go_enter Tryz.func93, Tryz.ntmps93
  go_wp2_with fail
  refine wp_loop_rounds 1 ?_; rw [rounds_succ]
  go_wp2_with fail
  go_ret
  exact ⟨rfl, Below.refl _ _⟩
set_option maxRecDepth 100000 in
theorem ccontains_any (g : Nat) (lb : Array Value) (eg : ∀ args w, (callFunc g args).run Tryz.prog w = .ok (.enter g args) w) (p : Cel → Bool) (V : List Cel) (v : Value) (w : World) (hv : CelSl v V w) (hl : V.length ≤ 100000)
    (H : Hid (∀ (W : World) (k : Nat) (hk : k < V.length), Below w.heap.size w W → Calls Tryz.prog g (#[.agg (celCells V[k])] ++ lb) W fun e w' => e = .returned (.bool (p V[k])) ∧ Below W.heap.size W w')) :
    Calls Tryz.prog 62 #[v, .func (.func g) #[] lb] w fun e w' => e = .returned (.bool (V.any p)) ∧ Below w.heap.size w w' := by
  have HI : Hid (Calls Tryz.prog 93 #[v, .func (.func g) #[] lb] w fun e w' => e = .returned (.int .i64 (idxI p V 0)) ∧ Below w.heap.size w w') := Lib.hid (by
    rcases hv with ⟨a, c, rfl, rfl, _⟩ | ⟨b, off, cap, rfl, hrow, hpos⟩
    · exact cindex_none g lb p a c w
    · exact cindex_row g lb eg p V b off cap w hrow hl H)
  have hsg := idxI_sign p V 0
  generalize idxI p V 0 = i at *
  rw [← hsg]
  clear H hv hsg eg
  go_enter Tryz.func62, Tryz.ntmps62
  go_wp2_with fail
  refine HI.out.mono ?_; rintro e w1 ⟨rfl, hb⟩
  go_wp2_with fail
  go_ret
  exact ⟨rfl, hb⟩
theorem kind_eq (c : Cel) (k : UInt8) : (c.kind == k) = ((c.kind.toNat : Int) == (k.toNat : Int)) := by
  rw [Bool.eq_iff_iff, beq_iff_eq, beq_iff_eq]
  exact ⟨fun h => by rw [h], fun h => UInt8.toNat_inj.1 (by omega)⟩
end Go.Proofs.YtgaknbnhmoddcaaGreatDoor
namespace Go.Proofs.YtgaknbnhmoddcaaGreatDoor
open Go.RowKit
def eqC (a c : Cel) : Bool := a.kind == c.kind && (a.name == c.name && (a.text == c.text && (a.num == c.num && a.many == c.many)))
def sameV : List Cel → List Cel → Bool
  | [], [] => true
  | a :: r, c :: s => eqC a c && sameV r s
  | _, _ => false
theorem sameV_len : ∀ (L M : List Cel), L.length ≠ M.length → sameV L M = false
  | [], [], h => absurd rfl h
  | [], _ :: _, _ => rfl
  | _ :: _, [], _ => rfl
  | t :: r, u :: s, h => by
    rw [sameV, sameV_len r s (by simpa using h), Bool.and_false]
theorem eqC_iff (a c : Cel) : eqC a c = true ↔ a = c := by
  obtain ⟨k, n, t, i, m⟩ := a
  obtain ⟨k', n', t', i', m'⟩ := c
  unfold eqC
  simp
theorem sameV_iff : ∀ (L M : List Cel), sameV L M = true ↔ L = M
  | [], [] => by simp [sameV]
  | [], _ :: _ => by simp [sameV]
  | _ :: _, [] => by simp [sameV]
  | t :: r, u :: s => by
    rw [sameV, Bool.and_eq_true, eqC_iff, sameV_iff r s]; simp
theorem sameV_drop (L M : List Cel) (k : Nat) (h : k < L.length) (h' : k < M.length) : sameV (L.drop k) (M.drop k) = (eqC L[k] M[k] && sameV (L.drop (k + 1)) (M.drop (k + 1))) := by
  rw [List.drop_eq_getElem_cons h, List.drop_eq_getElem_cons h', sameV]
theorem eqC_no (a c : Cel) (h : ¬ (a.kind.toNat : Int) = (c.kind.toNat : Int) ∨ ¬ a.name = c.name ∨ ¬ a.text = c.text ∨ ¬ a.num = c.num ∨ ¬ a.many = c.many) : eqC a c = false := by
  rw [Bool.eq_false_iff]
  intro e
  have := (eqC_iff a c).1 e
  subst this
  simp at h
set_option maxRecDepth 100000 in
theorem rsame03_len (v1 v2 : Option Addr) (c1 c2 : Nat) (n m : Nat) (hn : n ≤ 100000) (hm : m ≤ 100000) (hne : n ≠ m) (w : World) :
    Calls Tryz.prog 20 #[.slice v1 n c1, .slice v2 m c2] w fun e w' => e = .returned (.bool false) ∧ Below w.heap.size w w' := by
  have h1 : ((n : Int) != (m : Int)) = true := by rw [bne_iff_ne]; omega
  clear hne
  go_enter Tryz.func20, Tryz.ntmps20
  go_wp2_with fail
  go_ret
  exact ⟨rfl, Below.refl _ _⟩
set_option maxRecDepth 100000 in
set_option maxHeartbeats 1000000 in
theorem rsame03_row (L M : List Cel) (b1 o1 c1 b2 o2 c2 : Nat) (hl : L.length ≤ 100000) (hlm : L.length = M.length) (w : World) (h1 : CelRow b1 o1 L w) (h2 : CelRow b2 o2 M w) :
    Calls Tryz.prog 20 #[.slice (some ⟨b1, o1, none⟩) L.length c1, .slice (some ⟨b2, o2, none⟩) L.length c2] w fun e w' => e = .returned (.bool (sameV L M)) ∧ Below w.heap.size w w' := by
  have H1 := Lib.hid h1
  have H2 := Lib.hid h2
  have HM := Lib.hid hlm
  obtain ⟨r, hr⟩ : ∃ r, sameV L M = r := ⟨_, rfl⟩
  have HR : Hid (sameV (L.drop 0) (M.drop 0) = r) := Lib.hid hr
  rw [hr]
  clear hr h1 h2 hlm
  have hnn : ((L.length : Int) != (L.length : Int)) = false := by rw [bne_eq_false_iff_eq]
  have hg : Tryz.prog.eqGuardType Tryz.prog.depth 63 = false := by kernel_rfl
  go_enter Tryz.func20, Tryz.ntmps20
  go_wp2_with fail
  go_loopw [5] (fun i wr => ∃ k : Nat, k ≤ L.length ∧ i = .int .i64 k ∧ Hid (sameV (L.drop k) (M.drop k) = r) ∧ Hid (Below w.heap.size w wr)) (fun i wr => L.length - (intOf i).toNat)
  case atStart => exact ⟨0, Nat.zero_le _, rfl, HR, Lib.hid (Below.refl _ _)⟩
  case round =>
    rename World => wr
    obtain ⟨k, hk, rfl, HS, HB⟩ := hrel
    by_cases hlt : k < L.length
    · have hltm : k < M.length := by rw [← HM.out]; exact hlt
      obtain ⟨a0, a1, a2, a3, a4⟩ := (H1.out.below' HB.out) k hlt
      obtain ⟨d0, d1, d2, d3, d4⟩ := (H2.out.below' HB.out) k hltm
      have hstep := HS.out
      rw [sameV_drop _ _ k hlt hltm] at hstep
      have HNO : Hid ((¬ (L[k].kind.toNat : Int) = (M[k].kind.toNat : Int) ∨ ¬ L[k].name = M[k].name ∨ ¬ L[k].text = M[k].text ∨ ¬ L[k].num = M[k].num ∨ ¬ L[k].many = M[k].many) → false = r) := Lib.hid fun h => by rw [← hstep, eqC_no _ _ h]; rfl
      have HYES : Hid ((L[k].kind.toNat : Int) = (M[k].kind.toNat : Int) → L[k].name = M[k].name → L[k].text = M[k].text → L[k].num = M[k].num → L[k].many = M[k].many → sameV (L.drop (k + 1)) (M.drop (k + 1)) = r) := Lib.hid fun h1 h2 h3 h4 h5 => by
        have : eqC L[k] M[k] = true := by
          unfold eqC
          rw [beq_iff_eq.2 (UInt8.toNat_inj.1 (by omega)), beq_iff_eq.2 h2, beq_iff_eq.2 h3, beq_iff_eq.2 h4, beq_iff_eq.2 h5]; rfl
        rw [← hstep, this, Bool.true_and]
      have hx1 : (⟨L[k].name.toArray⟩ : ByteArray).toList = L[k].name := by rw [ByteArray.toList_eq]
      have hx2 : (⟨M[k].name.toArray⟩ : ByteArray).toList = M[k].name := by rw [ByteArray.toList_eq]
      have hy1 : (⟨L[k].text.toArray⟩ : ByteArray).toList = L[k].text := by rw [ByteArray.toList_eq]
      have hy2 : (⟨M[k].text.toArray⟩ : ByteArray).toList = M[k].text := by rw [ByteArray.toList_eq]
      rw [← hx1, ← hx2, ← hy1, ← hy2] at HNO HYES
      clear hstep hx1 hx2 hy1 hy2
      generalize (L[k].kind.toNat : Int) = ka at *
      generalize (M[k].kind.toNat : Int) = kb at *
      generalize L[k].num = na at *
      generalize M[k].num = nb at *
      generalize L[k].many = ma at *
      generalize M[k].many = mb at *
      generalize (⟨L[k].name.toArray⟩ : ByteArray) = x at *
      generalize (⟨M[k].name.toArray⟩ : ByteArray) = x' at *
      generalize (⟨L[k].text.toArray⟩ : ByteArray) = y at *
      generalize (⟨M[k].text.toArray⟩ : ByteArray) = y' at *
      by_cases e0 : ka = kb
      · by_cases e1 : x.toList = x'.toList
        · by_cases e2 : y.toList = y'.toList
          · by_cases e3 : na = nb
            · by_cases e4 : ma = mb
              · have HEQ := HYES.out e0 e1 e2 e3 e4
                subst e0 e3 e4
                clear HYES HNO
                have HF := Lib.hid HEQ
                clear HEQ HS
                go_wp2_with fail
                go_quiet (fail)
                go_wp2_with fail
                go_roundw
                case rel => exact ⟨k + 1, by omega, by go_num, HF, Lib.hid (below_dN _ HB.out)⟩
                case measure => simp [intOf]; omega
              · have HN := Lib.hid (HNO.out (Or.inr (Or.inr (Or.inr (Or.inr e4)))))
                subst e0 e3
                clear HYES HNO
                clear HS
                go_wp2_with fail
                go_quiet (fail)
                go_wp2_with fail
                go_ret
                exact ⟨ret_b HN.out, below_dN _ HB.out⟩
            · have HN := Lib.hid (HNO.out (Or.inr (Or.inr (Or.inr (Or.inl e3)))))
              subst e0
              clear HYES HNO
              clear HS
              go_wp2_with fail
              go_quiet (fail)
              go_wp2_with fail
              go_ret
              exact ⟨ret_b HN.out, below_dN _ HB.out⟩
          · have HN := Lib.hid (HNO.out (Or.inr (Or.inr (Or.inl e2))))
            subst e0
            clear HYES HNO
            clear HS
            go_wp2_with fail
            go_quiet (fail)
            go_wp2_with fail
            go_ret
            exact ⟨ret_b HN.out, below_dN _ HB.out⟩
        · have HN := Lib.hid (HNO.out (Or.inr (Or.inl e1)))
          subst e0
          clear HYES HNO
          clear HS
          go_wp2_with fail
          go_quiet (fail)
          go_wp2_with fail
          go_ret
          exact ⟨ret_b HN.out, below_dN _ HB.out⟩
      · have HN := Lib.hid (HNO.out (Or.inl e0))
        clear HYES HNO
        clear HS
        go_wp2_with fail
        go_quiet (fail)
        go_wp2_with fail
        go_ret
        exact ⟨ret_b HN.out, below_dN _ HB.out⟩
    · have HF : Hid (true = r) := Lib.hid (by
        have hm : M.length = L.length := HM.out.symm
        rw [← HS.out, List.drop_of_length_le (by omega), List.drop_of_length_le (by omega)]; rfl)
      clear HS
      go_wp2_with fail
      go_ret
      exact ⟨ret_b HF.out, HB.out⟩
set_option maxRecDepth 100000 in
theorem rsame03_none (a v : Option Addr) (c1 c2 : Nat) (w : World) :
    Calls Tryz.prog 20 #[.slice a 0 c1, .slice v 0 c2] w fun e w' => e = .returned (.bool true) ∧ Below w.heap.size w w' := by
  go_enter Tryz.func20, Tryz.ntmps20
  go_wp2_with fail
  refine wp_loop_rounds 1 ?_; rw [rounds_succ]
  go_wp2_with fail
  go_ret
  exact ⟨rfl, Below.refl _ _⟩
theorem rsame03_any (L M : List Cel) (u v : Value) (hl : L.length ≤ 100000) (hm : M.length ≤ 100000) (w : World) (h1 : CelSl u L w) (h2 : CelSl v M w) :
    Calls Tryz.prog 20 #[u, v] w fun e w' => e = .returned (.bool (sameV L M)) ∧ Below w.heap.size w w' := by
  by_cases hlm : L.length = M.length
  · rcases h1 with ⟨a1, c1, rfl, rfl, _⟩ | ⟨b1, o1, c1, rfl, h1, p1⟩
    · obtain rfl : M = [] := List.eq_nil_of_length_eq_zero hlm.symm
      rcases h2 with ⟨a2, c2, rfl, _, _⟩ | ⟨b2, o2, c2, rfl, h2, p2⟩
      · exact rsame03_none a1 a2 c1 c2 w
      · exact rsame03_none a1 _ c1 c2 w
    · rcases h2 with ⟨a2, c2, rfl, rfl, _⟩ | ⟨b2, o2, c2, rfl, h2, p2⟩
      · obtain rfl : L = [] := List.eq_nil_of_length_eq_zero hlm
        exact rsame03_none _ a2 c1 c2 w
      · rw [← hlm]
        exact rsame03_row L M b1 o1 c1 b2 o2 c2 hl hlm w h1 h2
  · rw [sameV_len _ _ hlm]
    rcases h1 with ⟨a1, c1, rfl, rfl, _⟩ | ⟨b1, o1, c1, rfl, h1, p1⟩
    · rcases h2 with ⟨a2, c2, rfl, rfl, _⟩ | ⟨b2, o2, c2, rfl, h2, p2⟩
      · exact absurd rfl hlm
      · exact rsame03_len a1 _ _ _ 0 _ (by omega) hm hlm w
    · rcases h2 with ⟨a2, c2, rfl, rfl, _⟩ | ⟨b2, o2, c2, rfl, h2, p2⟩
      · exact rsame03_len _ a2 _ _ _ 0 hl (by omega) hlm w
      · exact rsame03_len _ _ _ _ _ _ hl hm hlm w
end Go.Proofs.YtgaknbnhmoddcaaGreatDoor
namespace Go.Proofs.YtgaknbnhmoddcaaGreatDoor
open Go.RowKit
theorem rdV_RK (l : List UInt8) : R (rdV l) := by
  unfold rdV; split
  · exact val_R _
  · unfold R; omega
theorem tell_ge (t : Tok) : t.text.length ≤ (tellT t).length := by
  unfold tellT
  split
  · have := quote_ge t.text; omega
  · exact Nat.le_refl _
/-- What a text's tokens are. -/
theorem lexed (l : List UInt8) (L : List Tok) (hl : l.length ≤ 1024) (h : lex0 l = .ok L) : OkK L ∧ 0 < L.length ∧ L.length ≤ 2000 ∧ ∀ t ∈ L, t.text.length ≤ 100000 := by
  unfold lex0 at h
  rw [if_neg (by omega)] at h
  split at h
  · cases h
  obtain ⟨M, e, m1, m2, m3, m4, m5⟩ := lex_ok 1024 0 l [] L (by omega) h
  rw [List.nil_append] at m1
  subst m1
  have hok : OkK (M ++ [e]) := by
    intro t ht
    rcases List.mem_append.1 ht with ht | ht
    · exact ⟨(m4 t ht).1, (m4 t ht).2.2⟩
    · rw [List.mem_singleton.1 ht]
      have h1 : e.kind = 0 ∧ e.text = [] := by unfold kt at m2; simpa using m2
      refine ⟨by unfold okT; rw [h1.1, h1.2]; rfl, ?_⟩
      rw [tell_end e m2]; exact Nat.zero_le _
  refine ⟨hok, by simp, by simp; omega, fun t ht => ?_⟩
  have h1 := tell_ge t
  have h2 := (hok t ht).2
  omega
/-- What the laws' value answers: the greater one of two errors, the first being none. -/
def Val18 (R : Except ErrP (Nat × List Cel)) (G : List Cel → Value → World → Prop) (x : Ending) (W' : World) : Prop := match R with
  | .error e => x = .returned (.tuple #[.slice none 0 0, .int .i64 e.2, .int .i64 e.1])
  | .ok (k', y) => ∃ a n c, x = .returned (.tuple #[.slice a n c, .int .i64 k', .int .i64 0]) ∧ G y (.slice a n c) W'
set_option maxRecDepth 100000 in
theorem value18_any (s : ByteArray) (hs : s.size ≤ 1000) (L : List Tok) (h : lex0 s.data.toList = .ok L) (fx : Bool) (he : ∀ e, litP fx L 0 = .error e → 0 ≤ e.1) (w : World) (hE : EnvU w) (hE2 : Env w) :
    Calls Tryz.prog 60 #[.string s, .bool fx] w fun x w' => Val18 (litP fx L 0) (CelG w.heap.size) x w' ∧ Below w.heap.size w w' := by
  obtain ⟨h1, h2, h3, h4⟩ := lexed _ L (by rw [bsz]; omega) h
  have HX := Lib.hid (lex_row s (by omega) L h h2 w hE)
  have HV : Hid (∀ (g cap : Nat) (W : World), Below w.heap.size w W → TokRow g 0 L W → g < W.heap.size → Calls Tryz.prog 25 #[.slice (some ⟨g, 0, none⟩) L.length cap, .int .i64 0, .bool fx] W fun x w' => ReadV (litP fx L 0) (CelG (W.heap.size + 4)) x w' ∧ Below W.heap.size W w') := Lib.hid fun g cap W hW hr hg => by
    have := value_ok (cap := cap) fx W hr hg ⟨by omega, h4⟩ h2 (hE2.below hW (Nat.le_refl _))
    simpa using this
  have HE := Lib.hid he
  clear h he hE hE2 h1 h2 h4
  generalize litP fx L 0 = R at HV HE ⊢
  go_enter Tryz.func60, Tryz.ntmps60
  go_wp2_with fail
  refine HX.out.mono ?_; rintro x w1 ⟨⟨g, cap, rfl, ho⟩, hb⟩
  have hr1 : TokRow g 0 L w1 := by
    rcases ho.sl with ⟨ua, uc, hu2, hL, _⟩ | ⟨b2, off, cap2, hu2, hr⟩
    · subst hL; intro i hi; simp at hi
    · injection hu2 with e1 e2 e3
      injection e1 with e1
      injection e1 with e1 e2
      subst e1; subst e2
      exact hr
  have HR1 := Lib.hid hr1
  have hg1 : g < w1.heap.size := by
    rcases ho.2 with ⟨e1, _⟩ | ⟨g2, cap2, cur, e1, _, hg, _⟩
    · cases e1
    · injection e1 with e1
      injection e1 with e1
      injection e1 with e1
      subst e1
      exact heap_lt hg
  have HB1 := Lib.hid hb
  clear hb ho hr1
  go_wp2_with fail
  refine (HV.out g cap w1 HB1.out HR1.out hg1).mono ?_; rintro x w2 ⟨hx, hb⟩
  have HB2 : Hid (Below w.heap.size w w2) := Lib.hid (HB1.out.trans (hb.mono HB1.out.size))
  have hz1 := HB1.out.size
  cases R with
  | error e =>
    have hx2 : x = .returned (.tuple #[.slice none 0 0, .int .i64 e.2, .int .i64 e.1]) := hx
    have hm : max 0 e.1 = e.1 := Int.max_eq_right (HE.out e rfl)
    clear hx hb
    subst hx2
    go_wp2_with fail
    go_ret3
    exact ⟨by show _ = _; simp [hm], HB2.out⟩
  | ok y =>
    obtain ⟨k', out⟩ := y
    obtain ⟨a, n, c, hx2, hg⟩ : ∃ a n c, x = .returned (.tuple #[.slice a n c, .int .i64 k', .int .i64 0]) ∧ CelG (w1.heap.size + 4) out (.slice a n c) w2 := hx
    have HG : Hid (CelG w.heap.size out (.slice a n c) w2) := Lib.hid ⟨hg.1, hg.2.less (by omega)⟩
    clear hb hg
    subst hx2
    go_wp2_with fail
    go_ret3
    exact ⟨⟨a, n, c, by first | rfl | simp, HG.out⟩, HB2.out⟩
end Go.Proofs.YtgaknbnhmoddcaaGreatDoor
namespace Go.Proofs.YtgaknbnhmoddcaaGreatDoor
open Go.RowKit
theorem cel_fresh {M : List Cel} {C : Array Value} {k : Nat} (hk : k = M.length) (hC : C.toList = celFlat M) (h0 : 0 < M.length) (W : World) : CelSl (.slice (some ⟨W.heap.size, 0, none⟩) k k) M (W.alloc (.cells C 63)) := by
  refine Or.inr ⟨W.heap.size, 0, k, by rw [hk], fun j hj => ?_, h0⟩
  obtain ⟨g0, g1, g2, g3, g4⟩ := celFlat_get M j hj
  have hh : (W.alloc (.cells C 63)).heap[W.heap.size]? = some (.cells C 63 (0, 0)) := heap_alloc_new W _
  rw [← hC] at g0 g1 g2 g3 g4
  rw [Array.getElem?_toList] at g0 g1 g2 g3 g4
  simp only [Nat.zero_add]
  exact ⟨(Lib.cell_of_heap hh _).trans g0, (Lib.cell_of_heap hh _).trans g1, (Lib.cell_of_heap hh _).trans g2, (Lib.cell_of_heap hh _).trans g3, (Lib.cell_of_heap hh _).trans g4⟩
theorem okLit_parts {l : List UInt8} {fx : Bool} {a : Nat} {w : List Cel} (h : okLit (lexT l) fx a w = true) : lex0 l = .ok (lexT l) ∧ litP fx (lexT l) 0 = .ok (a, w) := by
  unfold okLit at h
  simp only [Bool.and_eq_true, Bool.not_eq_true'] at h
  obtain ⟨h1, h2⟩ := h
  refine ⟨lexT_ok l (fun e => by rw [e] at h1; cases h1), ?_⟩
  cases hp : litP fx (lexT l) 0 with
  | error e => rw [hp] at h2; cases h2
  | ok x =>
    rw [hp] at h2
    simp only [Bool.and_eq_true, beq_iff_eq] at h2
    obtain ⟨x1, x2⟩ := x
    have := celsE_eq _ _ h2.2
    simp only at h2 this
    rw [h2.1, this]
set_option maxRecDepth 100000 in
set_option maxHeartbeats 2000000 in
theorem lalive18 (w : World) (hE : EnvU w) (hE2 : Env w) : Calls Tryz.prog 29 #[] w fun e w' => e = .returned (.bool true) ∧ Below w.heap.size w w' := by
  obtain ⟨h1, h2⟩ := okLit_parts el_alive
  have HV := Lib.hid (value18_any ⟨#[91, 36, 120, 44, 123, 97, 58, 82, 69, 68, 125, 93, 32, 122]⟩ (by decide) (lexT exAlive) h1 false (by rw [h2]; intro e h; cases h) w hE hE2)
  rw [h2] at HV
  have HS : Hid (∀ (u v : Value) (W : World), CelSl u [⟨6, [], [], 0, 2⟩, ⟨5, [], [120], 0, 0⟩, ⟨7, [], [], 0, 1⟩, ⟨4, [97], [82, 69, 68], 0, 0⟩] W → CelSl v [⟨6, [], [], 0, 2⟩, ⟨5, [], [120], 0, 0⟩, ⟨7, [], [], 0, 1⟩, ⟨4, [97], [82, 69, 68], 0, 0⟩] W → Calls Tryz.prog 20 #[u, v] W fun e w' => e = .returned (.bool true) ∧ Below W.heap.size W w') := Lib.hid fun u v W h3 h4 => by
    have := rsame03_any [⟨6, [], [], 0, 2⟩, ⟨5, [], [120], 0, 0⟩, ⟨7, [], [], 0, 1⟩, ⟨4, [97], [82, 69, 68], 0, 0⟩] [⟨6, [], [], 0, 2⟩, ⟨5, [], [120], 0, 0⟩, ⟨7, [], [], 0, 1⟩, ⟨4, [97], [82, 69, 68], 0, 0⟩] u v (by decide) (by decide) W h3 h4
    rw [(sameV_iff _ _).2 rfl] at this
    exact this
  clear hE hE2 h1 h2
  go_enter Tryz.func29, Tryz.ntmps29
  go_wp2_with fail
  refine HV.out.mono ?_; rintro x w1 ⟨⟨a, n, c, rfl, hg⟩, hb⟩
  have HG := Lib.hid hg.2.sl
  have HB1 := Lib.hid hb
  clear hg hb
  go_wp2_with fail
  refine (HS.out _ _ _ (HG.out.below ((Below.refl _ _).alloc (Nat.le_refl _) _)) (cel_fresh (k := 4) rfl rfl (by decide) w1)).mono ?_; rintro e w2 ⟨rfl, hb⟩
  have HB2 : Hid (Below w.heap.size w w2) := Lib.hid ((HB1.out.alloc HB1.out.size _).trans (hb.mono (Nat.le_trans HB1.out.size (by simp))))
  clear hb
  go_wp2_with fail
  go_ret
  exact ⟨rfl, HB2.out⟩
end Go.Proofs.YtgaknbnhmoddcaaGreatDoor
namespace Go.Proofs.YtgaknbnhmoddcaaGreatDoor
open Go.RowKit Go.Lib
theorem OwnT.rk {p B : Nat} {v : Value} {L : List Tok} {W W' : World} (h : OwnT B v L W) (hk : RK p W W') (hp : p < B) : OwnT B v L W' := by
  obtain ⟨h1, h2⟩ := h
  refine ⟨h1, ?_⟩
  rcases h2 with h2 | ⟨g, cap, cur, hv, hB, hg, hrest⟩
  · exact Or.inl h2
  · exact Or.inr ⟨g, cap, cur, hv, hB, hk.2 g _ hg (by omega), hrest⟩
theorem OwnT.lessU {B B' : Nat} {v : Value} {L : List Tok} {W : World} (h : OwnT B v L W) (hB : B' ≤ B) : OwnT B' v L W := by
  obtain ⟨h1, h2⟩ := h
  refine ⟨h1, ?_⟩
  rcases h2 with h2 | ⟨g, cap, cur, hv, hg, hrest⟩
  · exact Or.inl h2
  · exact Or.inr ⟨g, cap, cur, hv, by omega, hrest⟩
theorem OwnT.formU {B : Nat} {v : Value} {L : List Tok} {W : World} (h : OwnT B v L W) (hL : 0 < L.length) : ∃ g n cap, v = .slice (some ⟨g, 0, none⟩) n cap ∧ n = L.length ∧ B ≤ g ∧ n ≤ cap := by
  obtain ⟨h1, h2⟩ := h
  rcases h2 with ⟨_, h2⟩ | ⟨g, cap, cur, hv, hB, hg, hn, hrest⟩
  · omega
  · exact ⟨g, _, cap, hv, rfl, hB, hn⟩
/-- The putter holds tokens. -/
def PutS (p : Nat) (v : Value) (L : List Tok) (W : World) : Prop := W.heap[p]? = some (.cells #[v] 78 (0, 0)) ∧ OwnT (p + 1) v L W
theorem PutS.lt {p : Nat} {v : Value} {L : List Tok} {W : World} (h : PutS p v L W) : p < W.heap.size := heap_lt h.1
theorem PutS.below {p : Nat} {v : Value} {L : List Tok} {W W' : World} (h : PutS p v L W) (hb : Below W.heap.size W W') : PutS p v L W' := ⟨(hb.block p h.lt).trans h.1, h.2.below hb⟩
theorem PutS.cell {p : Nat} {v : Value} {L : List Tok} {W : World} (h : PutS p v L W) : W.cell? ⟨p, 0, none⟩ = some v := Lib.cell_of_heap h.1 0
theorem RK.grownN {p : Nat} {W W' : World} (h : W.grownBy W' none) (hp : p ≤ W.heap.size) : RK p W W' := ⟨(Below.refl p W).grown h hp (fun k hk => by cases hk), fun k o hk _ => (h.block k (heap_lt hk) (by intro e; cases e)).trans hk⟩
set_option maxRecDepth 100000 in
theorem wp_appendN {o : Oper} {a : Act} {K : Act → World → Prop} {Q : Exit → Act → World → Prop} {w : World} (s x : Operand)
    (ho : o.op = .call { callee := .builtin .append, args := #[s, x], argTypes := #[32, 32] }) (ao : Option Addr) (n : Nat) (L : List Tok) (hn : n = L.length) (hs : a.eval s = .slice ao n n) (hsl : TokSl (.slice ao n n) L w)
    (g cc : Nat) (t : Tok) (hx : a.eval x = .slice (some ⟨g, 0, none⟩) 1 cc) (hnew : w.heap[g]? = some (.cells #[.int .u8 (t.kind.toNat : Int), .string ⟨t.text.toArray⟩, .int .i64 t.pos] 72 (0, 0))) (hlen : L.length + 1 ≤ 1000000)
    (h : ∀ v' w', OwnT w.heap.size v' (L ++ [t]) w' → w.grownBy w' none → K (a.put o.dst v') w') : o.wp Tryz.prog a w K Q := by
  subst hn
  obtain ⟨i0, hi, hz0, hz1, hz2⟩ := info_parts tok_info
  have hnews : ∀ j u, (tokCells [t])[j]? = some u → w.cell? ((⟨g, 0, none⟩ : Addr).add j) = some u := fun j u hj => by
    rw [addr_addT, Nat.zero_add, Lib.cell_of_heap hnew]
    match j, hj with
    | 0, hj => simpa [tokCells] using hj
    | 1, hj => simpa [tokCells] using hj
    | 2, hj => simpa [tokCells] using hj
    | j + 3, hj => simp [tokCells] at hj
  have fin : (∃ v' w', (Builtin.append_ #[32, 32] o.type #[.slice ao L.length L.length, .slice (some ⟨g, 0, none⟩) 1 cc]).run Tryz.prog w = .ok v' w' ∧ w'.ownsRow w.heap.size 72 3 v' (L.length + 1) (tokCells L ++ tokCells [t]) ∧ w.grownBy w' none) := by
    cases ao with
    | some b =>
      have holds : ∀ j u, (tokCells L)[j]? = some u → w.cell? (b.add j) = some u := by
        rcases hsl with ⟨ua, uc, hu2, hL, hcap⟩ | ⟨b2, off, cap, hu2, hr⟩
        · intro j u hj; rw [hL] at hj; simp [tokCells] at hj
        · injection hu2 with e1 e2 e3
          injection e1 with e1
          subst e1
          exact fun j u hj => by rw [addr_addT]; exact row_cells L b2 off w hr j u hj
      exact run_append_arg_grows (P := Tryz.prog) w 32 o.type 72 i0 (.agg #[.int .u8 0, .string ⟨#[]⟩, .int .i64 0]) 3 32 Tryz.underlying32 hi hz0 hz1 hz2 rfl (by decide) b L.length L.length (tokCells L) (tokCells_len L) holds ⟨g, 0, none⟩ 1 cc (tokCells [t]) rfl hnews (by omega) (by unfold maxLen; omega) (by omega)
    | none =>
      have hL : L = [] := by
        rcases hsl with ⟨ua, uc, hu2, hL, hcap⟩ | ⟨b2, off, cap, hu2, hr⟩
        · exact hL
        · injection hu2 with e1; cases e1
      subst hL
      obtain ⟨v', w', hrun, r1, r2, _⟩ := run_append_own (P := Tryz.prog) w w.heap.size 32 o.type 72 i0 (.agg #[.int .u8 0, .string ⟨#[]⟩, .int .i64 0]) 3 32 Tryz.underlying32 hi hz0 hz1 hz2 rfl (by decide) (.slice none 0 0) 0 [] (World.ownsRow_nil w _ _ 3) ⟨g, 0, none⟩ 1 cc (tokCells [t]) rfl hnews (tokCells_one [t]) (by unfold maxLen; omega) (by omega) (Nat.le_refl _)
      exact ⟨v', w', hrun, r1, r2⟩
  obtain ⟨v', w', hr, h2, h3⟩ := fin
  unfold Oper.wp execOp
  simp only [ho, resolve, invoke, builtin, Sem.run_bind, Sem.run_pure, Result.andThen_ok, List.map_toArray, List.map_cons, List.map_nil, hs, hx, hr]
  refine h v' w' ?_ h3
  unfold OwnT
  rw [List.length_append, tokCells_app]
  exact h2
set_option maxRecDepth 100000 in
set_option maxHeartbeats 8000000 in
theorem put_add_some (p : Nat) (ao : Option Addr) (n cap : Nat) (L : List Tok) (k : UInt8) (s : ByteArray) (lb cl : Nat) (W : World) (hao : ∃ g, ao = some ⟨g, 0, none⟩) (hn : n = L.length) (hcap : n ≤ cap) (h : PutS p (.slice ao n cap) L W) (hl : W.cell? ⟨lb, 0, none⟩ = some (.string s)) (hlb : lb ≠ p) (hL : L.length ≤ 100000) :
    Calls Tryz.prog 39 #[.pointer (some ⟨p, 0, none⟩), .int .u8 (k.toNat : Int), .slice (some ⟨lb, 0, none⟩) 1 cl] W fun x W' => x = .returned (.tuple #[]) ∧ (∃ v', PutS p v' (L ++ [⟨k, s.data.toList, 0⟩]) W') ∧ RK p W W' := by
  obtain ⟨kd, hkd⟩ : ∃ kd : Int, (k.toNat : Int) = kd := ⟨_, rfl⟩
  rw [hkd]
  have HKD := Lib.hid hkd
  obtain ⟨g, rfl⟩ := hao
  have HS := Lib.hid h
  have HN := Lib.hid hn
  have hp := h.lt
  have c0 := h.cell
  have f0 : W.frozen? ⟨p, 0, none⟩ = false := Lib.frozen_of_heap h.1 0
  have hsl : TokSl (.slice (some ⟨g, 0, none⟩) n n) L W := by
    rcases h.2.sl with ⟨ua, uc, hu2, hL2, hc2⟩ | ⟨b2, off, cap2, hu2, hr⟩
    · injection hu2 with e1 e2 e3
      exact Or.inl ⟨some ⟨g, 0, none⟩, _, by rw [e2], hL2, fun e => by cases e⟩
    · injection hu2 with e1 e2 e3
      exact Or.inr ⟨b2, off, n, by rw [e1, ← hn], hr⟩
  have HSL := Lib.hid hsl
  have hn1 : (n : Int).toNat = n := by omega
  have hn2 : (0 : Int) ≤ (n : Int) := by omega
  have hn3 : (n : Int) ≤ (cap : Int) := by omega
  clear h hn hkd hsl
  have c0d : W.drew.cell? ⟨p, 0, none⟩ = some (.slice (some ⟨g, 0, none⟩) n cap) := c0
  have c0e : ∀ o, (W.drew.alloc o).cell? ⟨p, 0, none⟩ = some (.slice (some ⟨g, 0, none⟩) n cap) := fun o => by
    rw [World.cell?_alloc_lt _ _ _ (by exact hp)]; exact c0
  have HFIN : Hid (∀ v' y6, OwnT (W.drew.alloc (.cells #[.int .u8 kd, .string s, .int .i64 0] 72 (0, 0))).heap.size v' (L ++ [⟨k, s.data.toList, 0⟩]) y6 → (W.drew.alloc (.cells #[.int .u8 kd, .string s, .int .i64 0] 72 (0, 0))).grownBy y6 none → (y6.cell? ⟨p, 0, none⟩ = some (.slice (some ⟨g, 0, none⟩) n cap) ∧ y6.frozen? ⟨p, 0, none⟩ = false) ∧ PutS p v' (L ++ [⟨k, s.data.toList, 0⟩]) (y6.setCell ⟨p, 0, none⟩ v') ∧ RK p W (y6.setCell ⟨p, 0, none⟩ v')) := Lib.hid (fun v' y6 ho hg => by
    have hpd : p < (W.drew.alloc (.cells #[.int .u8 kd, .string s, .int .i64 0] 72 (0, 0))).heap.size := by simp; exact Nat.lt_succ_of_lt hp
    have hb : (W.drew.alloc (.cells #[.int .u8 kd, .string s, .int .i64 0] 72 (0, 0))).heap[p]? = some (.cells #[.slice (some ⟨g, 0, none⟩) n cap] 78 (0, 0)) := heap_old HS.out.1
    have h6 := (hg.block p hpd (by intro e; cases e)).trans hb
    have hk1 : RK p W (W.drew.alloc (.cells #[.int .u8 kd, .string s, .int .i64 0] 72 (0, 0))) := ⟨(below_dN 1 (Below.refl p W)).alloc (by exact Nat.le_of_lt hp) _, fun j o hj _ => heap_old hj⟩
    have hk2 : RK p W y6 := hk1.trans (RK.grownN hg (Nat.le_of_lt hpd))
    refine ⟨⟨Lib.cell_of_heap h6 0, Lib.frozen_of_heap h6 0⟩, ⟨pset h6 _ rfl, (ho.lessU (by omega)).rk (RK.set p 0 y6 v') (Nat.lt_succ_self p)⟩, hk2.trans (RK.set p 0 y6 v')⟩)
  have HNEW : Hid ((W.drew.alloc (.cells #[.int .u8 kd, .string s, .int .i64 0] 72 (0, 0))).heap[W.heap.size]? = some (.cells #[.int .u8 (((⟨k, s.data.toList, 0⟩ : Tok).kind.toNat : Nat) : Int), .string ⟨(⟨k, s.data.toList, 0⟩ : Tok).text.toArray⟩, .int .i64 (⟨k, s.data.toList, 0⟩ : Tok).pos] 72 (0, 0))) := Lib.hid (by
    rw [show (((⟨k, s.data.toList, 0⟩ : Tok).kind.toNat : Nat) : Int) = kd from HKD.out]
    exact heap_alloc_last W.drew _)
  have HSD := Lib.hid (HSL.out.below ((below_dN 1 (Below.refl W.heap.size W)).alloc (Nat.le_refl _) (.cells #[.int .u8 kd, .string s, .int .i64 0] 72 (0, 0))))
  go_enter Tryz.func39, Tryz.ntmps39
  go_wp2_with fail
  refine wp_loop_rounds 2 ?_
  rw [rounds_succ]
  go_wp2_with fail
  refine wp_region_held_drew (S := fun _ => True) (by kernel_rfl) trivial (fun hHeld => ?_)
  refine tky 0 (some 14) (v := ?_) rfl (by kernel_rfl) (by kernel_rfl) (by kernel_rfl) (fun _ _ _ h => h) ?_ hHeld ?_
  rotate_left
  focus (intro w hSw; go_simp; (try with_reducible rfl); done)
  simp only [Act.put, List.setIfInBounds_toArray, List.set_cons_zero, List.set_cons_succ]
  refine tky 1 (some 15) (v := ?_) rfl (by kernel_rfl) (by kernel_rfl) (by kernel_rfl) (fun _ _ _ h => h) ?_ hHeld ?_
  rotate_left
  focus (intro w hSw; go_simp; (try with_reducible rfl); done)
  simp only [Act.put, List.setIfInBounds_toArray, List.set_cons_zero, List.set_cons_succ]
  refine tky 2 (some 16) (v := ?_) rfl (by kernel_rfl) (by kernel_rfl) (by kernel_rfl) (fun _ _ _ h => h) ?_ hHeld ?_
  rotate_left
  focus (intro w hSw; go_simp; (try with_reducible rfl); done)
  simp only [Act.put, List.setIfInBounds_toArray, List.set_cons_zero, List.set_cons_succ]
  refine tky 3 (some 17) (v := ?_) rfl (by kernel_rfl) (by kernel_rfl) (by kernel_rfl) (fun _ _ _ h => h) ?_ hHeld ?_
  rotate_left
  focus (intro w hSw; go_simp; (try with_reducible rfl); done)
  simp only [Act.put, List.setIfInBounds_toArray, List.set_cons_zero, List.set_cons_succ]
  refine tky 5 (some 19) (v := ?_) rfl (by kernel_rfl) (by kernel_rfl) (by kernel_rfl) (fun _ _ _ h => h) ?_ hHeld ?_
  rotate_left
  focus (intro w hSw; go_simp; (try with_reducible rfl); done)
  simp only [Act.put, List.setIfInBounds_toArray, List.set_cons_zero, List.set_cons_succ]
  refine tky 6 (some 20) (v := ?_) rfl (by kernel_rfl) (by kernel_rfl) (by kernel_rfl) (fun _ _ _ h => h) ?_ hHeld ?_
  rotate_left
  focus (intro w hSw; go_simp; (try with_reducible rfl); done)
  simp only [Act.put, List.setIfInBounds_toArray, List.set_cons_zero, List.set_cons_succ]
  refine tky 7 (some 21) (v := ?_) rfl (by kernel_rfl) (by kernel_rfl) (by kernel_rfl) (fun _ _ _ h => h) ?_ hHeld ?_
  rotate_left
  focus (intro w hSw; go_simp; (try with_reducible rfl); done)
  simp only [Act.put, List.setIfInBounds_toArray, List.set_cons_zero, List.set_cons_succ]
  refine tky 10 (some 24) (v := ?_) rfl (by kernel_rfl) (by kernel_rfl) (by kernel_rfl) (fun _ _ _ h => h) ?_ hHeld ?_
  rotate_left
  focus (intro w hSw; go_simp; (try with_reducible rfl); done)
  simp only [Act.put, List.setIfInBounds_toArray, List.set_cons_zero, List.set_cons_succ]
  refine tky 11 (some 25) (v := ?_) rfl (by kernel_rfl) (by kernel_rfl) (by kernel_rfl) (fun _ _ _ h => h) ?_ hHeld ?_
  rotate_left
  focus (intro w hSw; go_simp; (try with_reducible rfl); done)
  simp only [Act.put, List.setIfInBounds_toArray, List.set_cons_zero, List.set_cons_succ]
  refine tky 12 (some 26) (v := ?_) rfl (by kernel_rfl) (by kernel_rfl) (by kernel_rfl) (fun _ _ _ h => h) ?_ hHeld ?_
  rotate_left
  focus (intro w hSw; go_simp; (try with_reducible rfl); done)
  simp only [Act.put, List.setIfInBounds_toArray, List.set_cons_zero, List.set_cons_succ]
  refine tky 16 (some 30) (v := ?_) rfl (by kernel_rfl) (by kernel_rfl) (by kernel_rfl) (fun _ _ _ h => h) ?_ hHeld ?_
  rotate_left
  focus (intro w hSw; go_simp; (try with_reducible rfl); done)
  simp only [Act.put, List.setIfInBounds_toArray, List.set_cons_zero, List.set_cons_succ]
  refine tky 17 (some 31) (v := ?_) rfl (by kernel_rfl) (by kernel_rfl) (by kernel_rfl) (fun _ _ _ h => h) ?_ hHeld ?_
  rotate_left
  focus (intro w hSw; go_simp; (try with_reducible rfl); done)
  simp only [Act.put, List.setIfInBounds_toArray, List.set_cons_zero, List.set_cons_succ]
  refine tky 18 (some 32) (v := ?_) rfl (by kernel_rfl) (by kernel_rfl) (by kernel_rfl) (fun _ _ _ h => h) ?_ hHeld ?_
  rotate_left
  focus (intro w hSw; go_simp; (try with_reducible rfl); done)
  simp only [Act.put, List.setIfInBounds_toArray, List.set_cons_zero, List.set_cons_succ]
  refine wpAnyH_ready (rs := [4, 8, 13, 19]) (by kernel_rfl) (by simp) ?_
  refine acons 4 rfl (fun K hK => ?_) ?_
  go_simp
  refine hK.out _ _ trivial (fun _ => ?_)
  clear hK K
  (try simp only [Act.put, List.setIfInBounds_toArray, List.set_cons_zero, List.set_cons_succ])
  refine wpAnyH_ready (rs := [8, 13, 19]) (by kernel_rfl) (by simp) ?_
  refine acons 8 rfl (fun K hK => ?_) ?_
  go_simp
  refine hK.out _ _ trivial (fun _ => ?_)
  clear hK K
  (try simp only [Act.put, List.setIfInBounds_toArray, List.set_cons_zero, List.set_cons_succ])
  refine tky 9 (some 23) (v := ?_) rfl (by kernel_rfl) (by kernel_rfl) (by kernel_rfl) (fun _ _ _ h => h) ?_ hHeld ?_
  rotate_left
  focus (intro w hSw; go_simp; (try with_reducible rfl); done)
  simp only [Act.put, List.setIfInBounds_toArray, List.set_cons_zero, List.set_cons_succ]
  refine wpAnyH_ready (rs := [13, 19]) (by kernel_rfl) (by simp) ?_
  refine acons 13 rfl (fun K hK => ?_) ?_
  go_simp
  refine hK.out _ _ trivial (fun _ => ?_)
  clear hK K
  (try simp only [Act.put, List.setIfInBounds_toArray, List.set_cons_zero, List.set_cons_succ])
  refine tky 14 (some 28) (v := ?_) rfl (by kernel_rfl) (by kernel_rfl) (by kernel_rfl) (fun _ _ _ h => h) ?_ hHeld ?_
  rotate_left
  focus (intro w hSw; go_simp; (try with_reducible rfl); done)
  simp only [Act.put, List.setIfInBounds_toArray, List.set_cons_zero, List.set_cons_succ]
  refine tky 15 (some 29) (v := ?_) rfl (by kernel_rfl) (by kernel_rfl) (by kernel_rfl) (fun _ _ _ h => h) ?_ hHeld ?_
  rotate_left
  focus (intro w hSw; go_simp; (try with_reducible rfl); done)
  simp only [Act.put, List.setIfInBounds_toArray, List.set_cons_zero, List.set_cons_succ]
  refine rcons 19 rfl (by kernel_rfl) (fun K hK => ?_)
  go_simp
  refine hK.out _ _ trivial (fun _ => ?_)
  clear hK K
  (try simp only [Act.put, List.setIfInBounds_toArray, List.set_cons_zero, List.set_cons_succ])
  rotate_left
  refine acons 19 rfl (fun K hK => ?_) ?_
  go_simp
  refine hK.out _ _ trivial (fun _ => ?_)
  clear hK K
  (try simp only [Act.put, List.setIfInBounds_toArray, List.set_cons_zero, List.set_cons_succ])
  refine rcons 13 rfl (by kernel_rfl) (fun K hK => ?_)
  go_simp
  refine hK.out _ _ trivial (fun _ => ?_)
  clear hK K
  (try simp only [Act.put, List.setIfInBounds_toArray, List.set_cons_zero, List.set_cons_succ])
  refine tky 14 (some 28) (v := ?_) rfl (by kernel_rfl) (by kernel_rfl) (by kernel_rfl) (fun _ _ _ h => h) ?_ hHeld ?_
  rotate_left
  focus (intro w hSw; go_simp; (try with_reducible rfl); done)
  simp only [Act.put, List.setIfInBounds_toArray, List.set_cons_zero, List.set_cons_succ]
  refine tky 15 (some 29) (v := ?_) rfl (by kernel_rfl) (by kernel_rfl) (by kernel_rfl) (fun _ _ _ h => h) ?_ hHeld ?_
  rotate_left
  focus (intro w hSw; go_simp; (try with_reducible rfl); done)
  simp only [Act.put, List.setIfInBounds_toArray, List.set_cons_zero, List.set_cons_succ]
  rotate_left
  exact AllReadyH.nil
  refine acons 13 rfl (fun K hK => ?_) ?_
  go_simp
  refine hK.out _ _ trivial (fun _ => ?_)
  clear hK K
  (try simp only [Act.put, List.setIfInBounds_toArray, List.set_cons_zero, List.set_cons_succ])
  refine tky 14 (some 28) (v := ?_) rfl (by kernel_rfl) (by kernel_rfl) (by kernel_rfl) (fun _ _ _ h => h) ?_ hHeld ?_
  rotate_left
  focus (intro w hSw; go_simp; (try with_reducible rfl); done)
  simp only [Act.put, List.setIfInBounds_toArray, List.set_cons_zero, List.set_cons_succ]
  refine wpAnyH_ready (rs := [8, 19]) (by kernel_rfl) (by simp) ?_
  refine acons 8 rfl (fun K hK => ?_) ?_
  go_simp
  refine hK.out _ _ trivial (fun _ => ?_)
  clear hK K
  (try simp only [Act.put, List.setIfInBounds_toArray, List.set_cons_zero, List.set_cons_succ])
  refine tky 9 (some 23) (v := ?_) rfl (by kernel_rfl) (by kernel_rfl) (by kernel_rfl) (fun _ _ _ h => h) ?_ hHeld ?_
  rotate_left
  focus (intro w hSw; go_simp; (try with_reducible rfl); done)
  simp only [Act.put, List.setIfInBounds_toArray, List.set_cons_zero, List.set_cons_succ]
  refine tky 15 (some 29) (v := ?_) rfl (by kernel_rfl) (by kernel_rfl) (by kernel_rfl) (fun _ _ _ h => h) ?_ hHeld ?_
  rotate_left
  focus (intro w hSw; go_simp; (try with_reducible rfl); done)
  simp only [Act.put, List.setIfInBounds_toArray, List.set_cons_zero, List.set_cons_succ]
  refine rcons 19 rfl (by kernel_rfl) (fun K hK => ?_)
  go_simp
  refine hK.out _ _ trivial (fun _ => ?_)
  clear hK K
  (try simp only [Act.put, List.setIfInBounds_toArray, List.set_cons_zero, List.set_cons_succ])
  rotate_left
  refine acons 19 rfl (fun K hK => ?_) ?_
  go_simp
  refine hK.out _ _ trivial (fun _ => ?_)
  clear hK K
  (try simp only [Act.put, List.setIfInBounds_toArray, List.set_cons_zero, List.set_cons_succ])
  refine rcons 8 rfl (by kernel_rfl) (fun K hK => ?_)
  go_simp
  refine hK.out _ _ trivial (fun _ => ?_)
  clear hK K
  (try simp only [Act.put, List.setIfInBounds_toArray, List.set_cons_zero, List.set_cons_succ])
  refine tky 9 (some 23) (v := ?_) rfl (by kernel_rfl) (by kernel_rfl) (by kernel_rfl) (fun _ _ _ h => h) ?_ hHeld ?_
  rotate_left
  focus (intro w hSw; go_simp; (try with_reducible rfl); done)
  simp only [Act.put, List.setIfInBounds_toArray, List.set_cons_zero, List.set_cons_succ]
  refine tky 15 (some 29) (v := ?_) rfl (by kernel_rfl) (by kernel_rfl) (by kernel_rfl) (fun _ _ _ h => h) ?_ hHeld ?_
  rotate_left
  focus (intro w hSw; go_simp; (try with_reducible rfl); done)
  simp only [Act.put, List.setIfInBounds_toArray, List.set_cons_zero, List.set_cons_succ]
  rotate_left
  exact AllReadyH.nil
  refine acons 19 rfl (fun K hK => ?_) ?_
  go_simp
  refine hK.out _ _ trivial (fun _ => ?_)
  clear hK K
  (try simp only [Act.put, List.setIfInBounds_toArray, List.set_cons_zero, List.set_cons_succ])
  refine wpAnyH_ready (rs := [8, 13]) (by kernel_rfl) (by simp) ?_
  refine acons 8 rfl (fun K hK => ?_) ?_
  go_simp
  refine hK.out _ _ trivial (fun _ => ?_)
  clear hK K
  (try simp only [Act.put, List.setIfInBounds_toArray, List.set_cons_zero, List.set_cons_succ])
  refine tky 9 (some 23) (v := ?_) rfl (by kernel_rfl) (by kernel_rfl) (by kernel_rfl) (fun _ _ _ h => h) ?_ hHeld ?_
  rotate_left
  focus (intro w hSw; go_simp; (try with_reducible rfl); done)
  simp only [Act.put, List.setIfInBounds_toArray, List.set_cons_zero, List.set_cons_succ]
  refine rcons 13 rfl (by kernel_rfl) (fun K hK => ?_)
  go_simp
  refine hK.out _ _ trivial (fun _ => ?_)
  clear hK K
  (try simp only [Act.put, List.setIfInBounds_toArray, List.set_cons_zero, List.set_cons_succ])
  refine tky 14 (some 28) (v := ?_) rfl (by kernel_rfl) (by kernel_rfl) (by kernel_rfl) (fun _ _ _ h => h) ?_ hHeld ?_
  rotate_left
  focus (intro w hSw; go_simp; (try with_reducible rfl); done)
  simp only [Act.put, List.setIfInBounds_toArray, List.set_cons_zero, List.set_cons_succ]
  refine tky 15 (some 29) (v := ?_) rfl (by kernel_rfl) (by kernel_rfl) (by kernel_rfl) (fun _ _ _ h => h) ?_ hHeld ?_
  rotate_left
  focus (intro w hSw; go_simp; (try with_reducible rfl); done)
  simp only [Act.put, List.setIfInBounds_toArray, List.set_cons_zero, List.set_cons_succ]
  rotate_left
  refine acons 13 rfl (fun K hK => ?_) ?_
  go_simp
  refine hK.out _ _ trivial (fun _ => ?_)
  clear hK K
  (try simp only [Act.put, List.setIfInBounds_toArray, List.set_cons_zero, List.set_cons_succ])
  refine tky 14 (some 28) (v := ?_) rfl (by kernel_rfl) (by kernel_rfl) (by kernel_rfl) (fun _ _ _ h => h) ?_ hHeld ?_
  rotate_left
  focus (intro w hSw; go_simp; (try with_reducible rfl); done)
  simp only [Act.put, List.setIfInBounds_toArray, List.set_cons_zero, List.set_cons_succ]
  refine rcons 8 rfl (by kernel_rfl) (fun K hK => ?_)
  go_simp
  refine hK.out _ _ trivial (fun _ => ?_)
  clear hK K
  (try simp only [Act.put, List.setIfInBounds_toArray, List.set_cons_zero, List.set_cons_succ])
  refine tky 9 (some 23) (v := ?_) rfl (by kernel_rfl) (by kernel_rfl) (by kernel_rfl) (fun _ _ _ h => h) ?_ hHeld ?_
  rotate_left
  focus (intro w hSw; go_simp; (try with_reducible rfl); done)
  simp only [Act.put, List.setIfInBounds_toArray, List.set_cons_zero, List.set_cons_succ]
  refine tky 15 (some 29) (v := ?_) rfl (by kernel_rfl) (by kernel_rfl) (by kernel_rfl) (fun _ _ _ h => h) ?_ hHeld ?_
  rotate_left
  focus (intro w hSw; go_simp; (try with_reducible rfl); done)
  simp only [Act.put, List.setIfInBounds_toArray, List.set_cons_zero, List.set_cons_succ]
  rotate_left
  exact AllReadyH.nil
  exact AllReadyH.nil
  refine acons 8 rfl (fun K hK => ?_) ?_
  go_simp
  refine hK.out _ _ trivial (fun _ => ?_)
  clear hK K
  (try simp only [Act.put, List.setIfInBounds_toArray, List.set_cons_zero, List.set_cons_succ])
  refine tky 9 (some 23) (v := ?_) rfl (by kernel_rfl) (by kernel_rfl) (by kernel_rfl) (fun _ _ _ h => h) ?_ hHeld ?_
  rotate_left
  focus (intro w hSw; go_simp; (try with_reducible rfl); done)
  simp only [Act.put, List.setIfInBounds_toArray, List.set_cons_zero, List.set_cons_succ]
  refine wpAnyH_ready (rs := [4, 13, 19]) (by kernel_rfl) (by simp) ?_
  refine acons 4 rfl (fun K hK => ?_) ?_
  go_simp
  refine hK.out _ _ trivial (fun _ => ?_)
  clear hK K
  (try simp only [Act.put, List.setIfInBounds_toArray, List.set_cons_zero, List.set_cons_succ])
  refine wpAnyH_ready (rs := [13, 19]) (by kernel_rfl) (by simp) ?_
  refine acons 13 rfl (fun K hK => ?_) ?_
  go_simp
  refine hK.out _ _ trivial (fun _ => ?_)
  clear hK K
  (try simp only [Act.put, List.setIfInBounds_toArray, List.set_cons_zero, List.set_cons_succ])
  refine tky 14 (some 28) (v := ?_) rfl (by kernel_rfl) (by kernel_rfl) (by kernel_rfl) (fun _ _ _ h => h) ?_ hHeld ?_
  rotate_left
  focus (intro w hSw; go_simp; (try with_reducible rfl); done)
  simp only [Act.put, List.setIfInBounds_toArray, List.set_cons_zero, List.set_cons_succ]
  refine tky 15 (some 29) (v := ?_) rfl (by kernel_rfl) (by kernel_rfl) (by kernel_rfl) (fun _ _ _ h => h) ?_ hHeld ?_
  rotate_left
  focus (intro w hSw; go_simp; (try with_reducible rfl); done)
  simp only [Act.put, List.setIfInBounds_toArray, List.set_cons_zero, List.set_cons_succ]
  refine rcons 19 rfl (by kernel_rfl) (fun K hK => ?_)
  go_simp
  refine hK.out _ _ trivial (fun _ => ?_)
  clear hK K
  (try simp only [Act.put, List.setIfInBounds_toArray, List.set_cons_zero, List.set_cons_succ])
  rotate_left
  refine acons 19 rfl (fun K hK => ?_) ?_
  go_simp
  refine hK.out _ _ trivial (fun _ => ?_)
  clear hK K
  (try simp only [Act.put, List.setIfInBounds_toArray, List.set_cons_zero, List.set_cons_succ])
  refine rcons 13 rfl (by kernel_rfl) (fun K hK => ?_)
  go_simp
  refine hK.out _ _ trivial (fun _ => ?_)
  clear hK K
  (try simp only [Act.put, List.setIfInBounds_toArray, List.set_cons_zero, List.set_cons_succ])
  refine tky 14 (some 28) (v := ?_) rfl (by kernel_rfl) (by kernel_rfl) (by kernel_rfl) (fun _ _ _ h => h) ?_ hHeld ?_
  rotate_left
  focus (intro w hSw; go_simp; (try with_reducible rfl); done)
  simp only [Act.put, List.setIfInBounds_toArray, List.set_cons_zero, List.set_cons_succ]
  refine tky 15 (some 29) (v := ?_) rfl (by kernel_rfl) (by kernel_rfl) (by kernel_rfl) (fun _ _ _ h => h) ?_ hHeld ?_
  rotate_left
  focus (intro w hSw; go_simp; (try with_reducible rfl); done)
  simp only [Act.put, List.setIfInBounds_toArray, List.set_cons_zero, List.set_cons_succ]
  rotate_left
  exact AllReadyH.nil
  refine acons 13 rfl (fun K hK => ?_) ?_
  go_simp
  refine hK.out _ _ trivial (fun _ => ?_)
  clear hK K
  (try simp only [Act.put, List.setIfInBounds_toArray, List.set_cons_zero, List.set_cons_succ])
  refine tky 14 (some 28) (v := ?_) rfl (by kernel_rfl) (by kernel_rfl) (by kernel_rfl) (fun _ _ _ h => h) ?_ hHeld ?_
  rotate_left
  focus (intro w hSw; go_simp; (try with_reducible rfl); done)
  simp only [Act.put, List.setIfInBounds_toArray, List.set_cons_zero, List.set_cons_succ]
  refine wpAnyH_ready (rs := [4, 19]) (by kernel_rfl) (by simp) ?_
  refine acons 4 rfl (fun K hK => ?_) ?_
  go_simp
  refine hK.out _ _ trivial (fun _ => ?_)
  clear hK K
  (try simp only [Act.put, List.setIfInBounds_toArray, List.set_cons_zero, List.set_cons_succ])
  refine tky 15 (some 29) (v := ?_) rfl (by kernel_rfl) (by kernel_rfl) (by kernel_rfl) (fun _ _ _ h => h) ?_ hHeld ?_
  rotate_left
  focus (intro w hSw; go_simp; (try with_reducible rfl); done)
  simp only [Act.put, List.setIfInBounds_toArray, List.set_cons_zero, List.set_cons_succ]
  refine rcons 19 rfl (by kernel_rfl) (fun K hK => ?_)
  go_simp
  refine hK.out _ _ trivial (fun _ => ?_)
  clear hK K
  (try simp only [Act.put, List.setIfInBounds_toArray, List.set_cons_zero, List.set_cons_succ])
  rotate_left
  refine acons 19 rfl (fun K hK => ?_) ?_
  go_simp
  refine hK.out _ _ trivial (fun _ => ?_)
  clear hK K
  (try simp only [Act.put, List.setIfInBounds_toArray, List.set_cons_zero, List.set_cons_succ])
  refine rcons 4 rfl (by kernel_rfl) (fun K hK => ?_)
  go_simp
  refine hK.out _ _ trivial (fun _ => ?_)
  clear hK K
  (try simp only [Act.put, List.setIfInBounds_toArray, List.set_cons_zero, List.set_cons_succ])
  refine tky 15 (some 29) (v := ?_) rfl (by kernel_rfl) (by kernel_rfl) (by kernel_rfl) (fun _ _ _ h => h) ?_ hHeld ?_
  rotate_left
  focus (intro w hSw; go_simp; (try with_reducible rfl); done)
  simp only [Act.put, List.setIfInBounds_toArray, List.set_cons_zero, List.set_cons_succ]
  rotate_left
  exact AllReadyH.nil
  refine acons 19 rfl (fun K hK => ?_) ?_
  go_simp
  refine hK.out _ _ trivial (fun _ => ?_)
  clear hK K
  (try simp only [Act.put, List.setIfInBounds_toArray, List.set_cons_zero, List.set_cons_succ])
  refine wpAnyH_ready (rs := [4, 13]) (by kernel_rfl) (by simp) ?_
  refine acons 4 rfl (fun K hK => ?_) ?_
  go_simp
  refine hK.out _ _ trivial (fun _ => ?_)
  clear hK K
  (try simp only [Act.put, List.setIfInBounds_toArray, List.set_cons_zero, List.set_cons_succ])
  refine rcons 13 rfl (by kernel_rfl) (fun K hK => ?_)
  go_simp
  refine hK.out _ _ trivial (fun _ => ?_)
  clear hK K
  (try simp only [Act.put, List.setIfInBounds_toArray, List.set_cons_zero, List.set_cons_succ])
  refine tky 14 (some 28) (v := ?_) rfl (by kernel_rfl) (by kernel_rfl) (by kernel_rfl) (fun _ _ _ h => h) ?_ hHeld ?_
  rotate_left
  focus (intro w hSw; go_simp; (try with_reducible rfl); done)
  simp only [Act.put, List.setIfInBounds_toArray, List.set_cons_zero, List.set_cons_succ]
  refine tky 15 (some 29) (v := ?_) rfl (by kernel_rfl) (by kernel_rfl) (by kernel_rfl) (fun _ _ _ h => h) ?_ hHeld ?_
  rotate_left
  focus (intro w hSw; go_simp; (try with_reducible rfl); done)
  simp only [Act.put, List.setIfInBounds_toArray, List.set_cons_zero, List.set_cons_succ]
  rotate_left
  refine acons 13 rfl (fun K hK => ?_) ?_
  go_simp
  refine hK.out _ _ trivial (fun _ => ?_)
  clear hK K
  (try simp only [Act.put, List.setIfInBounds_toArray, List.set_cons_zero, List.set_cons_succ])
  refine tky 14 (some 28) (v := ?_) rfl (by kernel_rfl) (by kernel_rfl) (by kernel_rfl) (fun _ _ _ h => h) ?_ hHeld ?_
  rotate_left
  focus (intro w hSw; go_simp; (try with_reducible rfl); done)
  simp only [Act.put, List.setIfInBounds_toArray, List.set_cons_zero, List.set_cons_succ]
  refine rcons 4 rfl (by kernel_rfl) (fun K hK => ?_)
  go_simp
  refine hK.out _ _ trivial (fun _ => ?_)
  clear hK K
  (try simp only [Act.put, List.setIfInBounds_toArray, List.set_cons_zero, List.set_cons_succ])
  refine tky 15 (some 29) (v := ?_) rfl (by kernel_rfl) (by kernel_rfl) (by kernel_rfl) (fun _ _ _ h => h) ?_ hHeld ?_
  rotate_left
  focus (intro w hSw; go_simp; (try with_reducible rfl); done)
  simp only [Act.put, List.setIfInBounds_toArray, List.set_cons_zero, List.set_cons_succ]
  rotate_left
  exact AllReadyH.nil
  exact AllReadyH.nil
  refine acons 13 rfl (fun K hK => ?_) ?_
  go_simp
  refine hK.out _ _ trivial (fun _ => ?_)
  clear hK K
  (try simp only [Act.put, List.setIfInBounds_toArray, List.set_cons_zero, List.set_cons_succ])
  refine tky 14 (some 28) (v := ?_) rfl (by kernel_rfl) (by kernel_rfl) (by kernel_rfl) (fun _ _ _ h => h) ?_ hHeld ?_
  rotate_left
  focus (intro w hSw; go_simp; (try with_reducible rfl); done)
  simp only [Act.put, List.setIfInBounds_toArray, List.set_cons_zero, List.set_cons_succ]
  refine wpAnyH_ready (rs := [4, 8, 19]) (by kernel_rfl) (by simp) ?_
  refine acons 4 rfl (fun K hK => ?_) ?_
  go_simp
  refine hK.out _ _ trivial (fun _ => ?_)
  clear hK K
  (try simp only [Act.put, List.setIfInBounds_toArray, List.set_cons_zero, List.set_cons_succ])
  refine wpAnyH_ready (rs := [8, 19]) (by kernel_rfl) (by simp) ?_
  refine acons 8 rfl (fun K hK => ?_) ?_
  go_simp
  refine hK.out _ _ trivial (fun _ => ?_)
  clear hK K
  (try simp only [Act.put, List.setIfInBounds_toArray, List.set_cons_zero, List.set_cons_succ])
  refine tky 9 (some 23) (v := ?_) rfl (by kernel_rfl) (by kernel_rfl) (by kernel_rfl) (fun _ _ _ h => h) ?_ hHeld ?_
  rotate_left
  focus (intro w hSw; go_simp; (try with_reducible rfl); done)
  simp only [Act.put, List.setIfInBounds_toArray, List.set_cons_zero, List.set_cons_succ]
  refine tky 15 (some 29) (v := ?_) rfl (by kernel_rfl) (by kernel_rfl) (by kernel_rfl) (fun _ _ _ h => h) ?_ hHeld ?_
  rotate_left
  focus (intro w hSw; go_simp; (try with_reducible rfl); done)
  simp only [Act.put, List.setIfInBounds_toArray, List.set_cons_zero, List.set_cons_succ]
  refine rcons 19 rfl (by kernel_rfl) (fun K hK => ?_)
  go_simp
  refine hK.out _ _ trivial (fun _ => ?_)
  clear hK K
  (try simp only [Act.put, List.setIfInBounds_toArray, List.set_cons_zero, List.set_cons_succ])
  rotate_left
  refine acons 19 rfl (fun K hK => ?_) ?_
  go_simp
  refine hK.out _ _ trivial (fun _ => ?_)
  clear hK K
  (try simp only [Act.put, List.setIfInBounds_toArray, List.set_cons_zero, List.set_cons_succ])
  refine rcons 8 rfl (by kernel_rfl) (fun K hK => ?_)
  go_simp
  refine hK.out _ _ trivial (fun _ => ?_)
  clear hK K
  (try simp only [Act.put, List.setIfInBounds_toArray, List.set_cons_zero, List.set_cons_succ])
  refine tky 9 (some 23) (v := ?_) rfl (by kernel_rfl) (by kernel_rfl) (by kernel_rfl) (fun _ _ _ h => h) ?_ hHeld ?_
  rotate_left
  focus (intro w hSw; go_simp; (try with_reducible rfl); done)
  simp only [Act.put, List.setIfInBounds_toArray, List.set_cons_zero, List.set_cons_succ]
  refine tky 15 (some 29) (v := ?_) rfl (by kernel_rfl) (by kernel_rfl) (by kernel_rfl) (fun _ _ _ h => h) ?_ hHeld ?_
  rotate_left
  focus (intro w hSw; go_simp; (try with_reducible rfl); done)
  simp only [Act.put, List.setIfInBounds_toArray, List.set_cons_zero, List.set_cons_succ]
  rotate_left
  exact AllReadyH.nil
  refine acons 8 rfl (fun K hK => ?_) ?_
  go_simp
  refine hK.out _ _ trivial (fun _ => ?_)
  clear hK K
  (try simp only [Act.put, List.setIfInBounds_toArray, List.set_cons_zero, List.set_cons_succ])
  refine tky 9 (some 23) (v := ?_) rfl (by kernel_rfl) (by kernel_rfl) (by kernel_rfl) (fun _ _ _ h => h) ?_ hHeld ?_
  rotate_left
  focus (intro w hSw; go_simp; (try with_reducible rfl); done)
  simp only [Act.put, List.setIfInBounds_toArray, List.set_cons_zero, List.set_cons_succ]
  refine wpAnyH_ready (rs := [4, 19]) (by kernel_rfl) (by simp) ?_
  refine acons 4 rfl (fun K hK => ?_) ?_
  go_simp
  refine hK.out _ _ trivial (fun _ => ?_)
  clear hK K
  (try simp only [Act.put, List.setIfInBounds_toArray, List.set_cons_zero, List.set_cons_succ])
  refine tky 15 (some 29) (v := ?_) rfl (by kernel_rfl) (by kernel_rfl) (by kernel_rfl) (fun _ _ _ h => h) ?_ hHeld ?_
  rotate_left
  focus (intro w hSw; go_simp; (try with_reducible rfl); done)
  simp only [Act.put, List.setIfInBounds_toArray, List.set_cons_zero, List.set_cons_succ]
  refine rcons 19 rfl (by kernel_rfl) (fun K hK => ?_)
  go_simp
  refine hK.out _ _ trivial (fun _ => ?_)
  clear hK K
  (try simp only [Act.put, List.setIfInBounds_toArray, List.set_cons_zero, List.set_cons_succ])
  rotate_left
  refine acons 19 rfl (fun K hK => ?_) ?_
  go_simp
  refine hK.out _ _ trivial (fun _ => ?_)
  clear hK K
  (try simp only [Act.put, List.setIfInBounds_toArray, List.set_cons_zero, List.set_cons_succ])
  refine rcons 4 rfl (by kernel_rfl) (fun K hK => ?_)
  go_simp
  refine hK.out _ _ trivial (fun _ => ?_)
  clear hK K
  (try simp only [Act.put, List.setIfInBounds_toArray, List.set_cons_zero, List.set_cons_succ])
  refine tky 15 (some 29) (v := ?_) rfl (by kernel_rfl) (by kernel_rfl) (by kernel_rfl) (fun _ _ _ h => h) ?_ hHeld ?_
  rotate_left
  focus (intro w hSw; go_simp; (try with_reducible rfl); done)
  simp only [Act.put, List.setIfInBounds_toArray, List.set_cons_zero, List.set_cons_succ]
  rotate_left
  exact AllReadyH.nil
  refine acons 19 rfl (fun K hK => ?_) ?_
  go_simp
  refine hK.out _ _ trivial (fun _ => ?_)
  clear hK K
  (try simp only [Act.put, List.setIfInBounds_toArray, List.set_cons_zero, List.set_cons_succ])
  refine wpAnyH_ready (rs := [4, 8]) (by kernel_rfl) (by simp) ?_
  refine acons 4 rfl (fun K hK => ?_) ?_
  go_simp
  refine hK.out _ _ trivial (fun _ => ?_)
  clear hK K
  (try simp only [Act.put, List.setIfInBounds_toArray, List.set_cons_zero, List.set_cons_succ])
  refine rcons 8 rfl (by kernel_rfl) (fun K hK => ?_)
  go_simp
  refine hK.out _ _ trivial (fun _ => ?_)
  clear hK K
  (try simp only [Act.put, List.setIfInBounds_toArray, List.set_cons_zero, List.set_cons_succ])
  refine tky 9 (some 23) (v := ?_) rfl (by kernel_rfl) (by kernel_rfl) (by kernel_rfl) (fun _ _ _ h => h) ?_ hHeld ?_
  rotate_left
  focus (intro w hSw; go_simp; (try with_reducible rfl); done)
  simp only [Act.put, List.setIfInBounds_toArray, List.set_cons_zero, List.set_cons_succ]
  refine tky 15 (some 29) (v := ?_) rfl (by kernel_rfl) (by kernel_rfl) (by kernel_rfl) (fun _ _ _ h => h) ?_ hHeld ?_
  rotate_left
  focus (intro w hSw; go_simp; (try with_reducible rfl); done)
  simp only [Act.put, List.setIfInBounds_toArray, List.set_cons_zero, List.set_cons_succ]
  rotate_left
  refine acons 8 rfl (fun K hK => ?_) ?_
  go_simp
  refine hK.out _ _ trivial (fun _ => ?_)
  clear hK K
  (try simp only [Act.put, List.setIfInBounds_toArray, List.set_cons_zero, List.set_cons_succ])
  refine tky 9 (some 23) (v := ?_) rfl (by kernel_rfl) (by kernel_rfl) (by kernel_rfl) (fun _ _ _ h => h) ?_ hHeld ?_
  rotate_left
  focus (intro w hSw; go_simp; (try with_reducible rfl); done)
  simp only [Act.put, List.setIfInBounds_toArray, List.set_cons_zero, List.set_cons_succ]
  refine rcons 4 rfl (by kernel_rfl) (fun K hK => ?_)
  go_simp
  refine hK.out _ _ trivial (fun _ => ?_)
  clear hK K
  (try simp only [Act.put, List.setIfInBounds_toArray, List.set_cons_zero, List.set_cons_succ])
  refine tky 15 (some 29) (v := ?_) rfl (by kernel_rfl) (by kernel_rfl) (by kernel_rfl) (fun _ _ _ h => h) ?_ hHeld ?_
  rotate_left
  focus (intro w hSw; go_simp; (try with_reducible rfl); done)
  simp only [Act.put, List.setIfInBounds_toArray, List.set_cons_zero, List.set_cons_succ]
  rotate_left
  exact AllReadyH.nil
  exact AllReadyH.nil
  refine acons 19 rfl (fun K hK => ?_) ?_
  go_simp
  refine hK.out _ _ trivial (fun _ => ?_)
  clear hK K
  (try simp only [Act.put, List.setIfInBounds_toArray, List.set_cons_zero, List.set_cons_succ])
  refine wpAnyH_ready (rs := [4, 8, 13]) (by kernel_rfl) (by simp) ?_
  refine acons 4 rfl (fun K hK => ?_) ?_
  go_simp
  refine hK.out _ _ trivial (fun _ => ?_)
  clear hK K
  (try simp only [Act.put, List.setIfInBounds_toArray, List.set_cons_zero, List.set_cons_succ])
  refine wpAnyH_ready (rs := [8, 13]) (by kernel_rfl) (by simp) ?_
  refine acons 8 rfl (fun K hK => ?_) ?_
  go_simp
  refine hK.out _ _ trivial (fun _ => ?_)
  clear hK K
  (try simp only [Act.put, List.setIfInBounds_toArray, List.set_cons_zero, List.set_cons_succ])
  refine tky 9 (some 23) (v := ?_) rfl (by kernel_rfl) (by kernel_rfl) (by kernel_rfl) (fun _ _ _ h => h) ?_ hHeld ?_
  rotate_left
  focus (intro w hSw; go_simp; (try with_reducible rfl); done)
  simp only [Act.put, List.setIfInBounds_toArray, List.set_cons_zero, List.set_cons_succ]
  refine rcons 13 rfl (by kernel_rfl) (fun K hK => ?_)
  go_simp
  refine hK.out _ _ trivial (fun _ => ?_)
  clear hK K
  (try simp only [Act.put, List.setIfInBounds_toArray, List.set_cons_zero, List.set_cons_succ])
  refine tky 14 (some 28) (v := ?_) rfl (by kernel_rfl) (by kernel_rfl) (by kernel_rfl) (fun _ _ _ h => h) ?_ hHeld ?_
  rotate_left
  focus (intro w hSw; go_simp; (try with_reducible rfl); done)
  simp only [Act.put, List.setIfInBounds_toArray, List.set_cons_zero, List.set_cons_succ]
  refine tky 15 (some 29) (v := ?_) rfl (by kernel_rfl) (by kernel_rfl) (by kernel_rfl) (fun _ _ _ h => h) ?_ hHeld ?_
  rotate_left
  focus (intro w hSw; go_simp; (try with_reducible rfl); done)
  simp only [Act.put, List.setIfInBounds_toArray, List.set_cons_zero, List.set_cons_succ]
  rotate_left
  refine acons 13 rfl (fun K hK => ?_) ?_
  go_simp
  refine hK.out _ _ trivial (fun _ => ?_)
  clear hK K
  (try simp only [Act.put, List.setIfInBounds_toArray, List.set_cons_zero, List.set_cons_succ])
  refine tky 14 (some 28) (v := ?_) rfl (by kernel_rfl) (by kernel_rfl) (by kernel_rfl) (fun _ _ _ h => h) ?_ hHeld ?_
  rotate_left
  focus (intro w hSw; go_simp; (try with_reducible rfl); done)
  simp only [Act.put, List.setIfInBounds_toArray, List.set_cons_zero, List.set_cons_succ]
  refine rcons 8 rfl (by kernel_rfl) (fun K hK => ?_)
  go_simp
  refine hK.out _ _ trivial (fun _ => ?_)
  clear hK K
  (try simp only [Act.put, List.setIfInBounds_toArray, List.set_cons_zero, List.set_cons_succ])
  refine tky 9 (some 23) (v := ?_) rfl (by kernel_rfl) (by kernel_rfl) (by kernel_rfl) (fun _ _ _ h => h) ?_ hHeld ?_
  rotate_left
  focus (intro w hSw; go_simp; (try with_reducible rfl); done)
  simp only [Act.put, List.setIfInBounds_toArray, List.set_cons_zero, List.set_cons_succ]
  refine tky 15 (some 29) (v := ?_) rfl (by kernel_rfl) (by kernel_rfl) (by kernel_rfl) (fun _ _ _ h => h) ?_ hHeld ?_
  rotate_left
  focus (intro w hSw; go_simp; (try with_reducible rfl); done)
  simp only [Act.put, List.setIfInBounds_toArray, List.set_cons_zero, List.set_cons_succ]
  rotate_left
  exact AllReadyH.nil
  refine acons 8 rfl (fun K hK => ?_) ?_
  go_simp
  refine hK.out _ _ trivial (fun _ => ?_)
  clear hK K
  (try simp only [Act.put, List.setIfInBounds_toArray, List.set_cons_zero, List.set_cons_succ])
  refine tky 9 (some 23) (v := ?_) rfl (by kernel_rfl) (by kernel_rfl) (by kernel_rfl) (fun _ _ _ h => h) ?_ hHeld ?_
  rotate_left
  focus (intro w hSw; go_simp; (try with_reducible rfl); done)
  simp only [Act.put, List.setIfInBounds_toArray, List.set_cons_zero, List.set_cons_succ]
  refine wpAnyH_ready (rs := [4, 13]) (by kernel_rfl) (by simp) ?_
  refine acons 4 rfl (fun K hK => ?_) ?_
  go_simp
  refine hK.out _ _ trivial (fun _ => ?_)
  clear hK K
  (try simp only [Act.put, List.setIfInBounds_toArray, List.set_cons_zero, List.set_cons_succ])
  refine rcons 13 rfl (by kernel_rfl) (fun K hK => ?_)
  go_simp
  refine hK.out _ _ trivial (fun _ => ?_)
  clear hK K
  (try simp only [Act.put, List.setIfInBounds_toArray, List.set_cons_zero, List.set_cons_succ])
  refine tky 14 (some 28) (v := ?_) rfl (by kernel_rfl) (by kernel_rfl) (by kernel_rfl) (fun _ _ _ h => h) ?_ hHeld ?_
  rotate_left
  focus (intro w hSw; go_simp; (try with_reducible rfl); done)
  simp only [Act.put, List.setIfInBounds_toArray, List.set_cons_zero, List.set_cons_succ]
  refine tky 15 (some 29) (v := ?_) rfl (by kernel_rfl) (by kernel_rfl) (by kernel_rfl) (fun _ _ _ h => h) ?_ hHeld ?_
  rotate_left
  focus (intro w hSw; go_simp; (try with_reducible rfl); done)
  simp only [Act.put, List.setIfInBounds_toArray, List.set_cons_zero, List.set_cons_succ]
  rotate_left
  refine acons 13 rfl (fun K hK => ?_) ?_
  go_simp
  refine hK.out _ _ trivial (fun _ => ?_)
  clear hK K
  (try simp only [Act.put, List.setIfInBounds_toArray, List.set_cons_zero, List.set_cons_succ])
  refine tky 14 (some 28) (v := ?_) rfl (by kernel_rfl) (by kernel_rfl) (by kernel_rfl) (fun _ _ _ h => h) ?_ hHeld ?_
  rotate_left
  focus (intro w hSw; go_simp; (try with_reducible rfl); done)
  simp only [Act.put, List.setIfInBounds_toArray, List.set_cons_zero, List.set_cons_succ]
  refine rcons 4 rfl (by kernel_rfl) (fun K hK => ?_)
  go_simp
  refine hK.out _ _ trivial (fun _ => ?_)
  clear hK K
  (try simp only [Act.put, List.setIfInBounds_toArray, List.set_cons_zero, List.set_cons_succ])
  refine tky 15 (some 29) (v := ?_) rfl (by kernel_rfl) (by kernel_rfl) (by kernel_rfl) (fun _ _ _ h => h) ?_ hHeld ?_
  rotate_left
  focus (intro w hSw; go_simp; (try with_reducible rfl); done)
  simp only [Act.put, List.setIfInBounds_toArray, List.set_cons_zero, List.set_cons_succ]
  rotate_left
  exact AllReadyH.nil
  refine acons 13 rfl (fun K hK => ?_) ?_
  go_simp
  refine hK.out _ _ trivial (fun _ => ?_)
  clear hK K
  (try simp only [Act.put, List.setIfInBounds_toArray, List.set_cons_zero, List.set_cons_succ])
  refine tky 14 (some 28) (v := ?_) rfl (by kernel_rfl) (by kernel_rfl) (by kernel_rfl) (fun _ _ _ h => h) ?_ hHeld ?_
  rotate_left
  focus (intro w hSw; go_simp; (try with_reducible rfl); done)
  simp only [Act.put, List.setIfInBounds_toArray, List.set_cons_zero, List.set_cons_succ]
  refine wpAnyH_ready (rs := [4, 8]) (by kernel_rfl) (by simp) ?_
  refine acons 4 rfl (fun K hK => ?_) ?_
  go_simp
  refine hK.out _ _ trivial (fun _ => ?_)
  clear hK K
  (try simp only [Act.put, List.setIfInBounds_toArray, List.set_cons_zero, List.set_cons_succ])
  refine rcons 8 rfl (by kernel_rfl) (fun K hK => ?_)
  go_simp
  refine hK.out _ _ trivial (fun _ => ?_)
  clear hK K
  (try simp only [Act.put, List.setIfInBounds_toArray, List.set_cons_zero, List.set_cons_succ])
  refine tky 9 (some 23) (v := ?_) rfl (by kernel_rfl) (by kernel_rfl) (by kernel_rfl) (fun _ _ _ h => h) ?_ hHeld ?_
  rotate_left
  focus (intro w hSw; go_simp; (try with_reducible rfl); done)
  simp only [Act.put, List.setIfInBounds_toArray, List.set_cons_zero, List.set_cons_succ]
  refine tky 15 (some 29) (v := ?_) rfl (by kernel_rfl) (by kernel_rfl) (by kernel_rfl) (fun _ _ _ h => h) ?_ hHeld ?_
  rotate_left
  focus (intro w hSw; go_simp; (try with_reducible rfl); done)
  simp only [Act.put, List.setIfInBounds_toArray, List.set_cons_zero, List.set_cons_succ]
  rotate_left
  refine acons 8 rfl (fun K hK => ?_) ?_
  go_simp
  refine hK.out _ _ trivial (fun _ => ?_)
  clear hK K
  (try simp only [Act.put, List.setIfInBounds_toArray, List.set_cons_zero, List.set_cons_succ])
  refine tky 9 (some 23) (v := ?_) rfl (by kernel_rfl) (by kernel_rfl) (by kernel_rfl) (fun _ _ _ h => h) ?_ hHeld ?_
  rotate_left
  focus (intro w hSw; go_simp; (try with_reducible rfl); done)
  simp only [Act.put, List.setIfInBounds_toArray, List.set_cons_zero, List.set_cons_succ]
  refine rcons 4 rfl (by kernel_rfl) (fun K hK => ?_)
  go_simp
  refine hK.out _ _ trivial (fun _ => ?_)
  clear hK K
  (try simp only [Act.put, List.setIfInBounds_toArray, List.set_cons_zero, List.set_cons_succ])
  refine tky 15 (some 29) (v := ?_) rfl (by kernel_rfl) (by kernel_rfl) (by kernel_rfl) (fun _ _ _ h => h) ?_ hHeld ?_
  rotate_left
  focus (intro w hSw; go_simp; (try with_reducible rfl); done)
  simp only [Act.put, List.setIfInBounds_toArray, List.set_cons_zero, List.set_cons_succ]
  rotate_left
  exact AllReadyH.nil
  exact AllReadyH.nil
  exact AllReadyH.nil
  all_goals
    refine rcons 20 rfl (by kernel_rfl) (fun K hK => ?_)
    rw [if_pos]
    rotate_left
    focus kernel_rfl
    refine wp_appendN _ _ rfl (some ⟨g, 0, none⟩) n L HN.out rfl (by exact HSD.out) W.heap.size 1 ⟨k, s.data.toList, 0⟩ rfl (by exact HNEW.out) (by omega) ?_
    intro v' y6 hown hgrow
    obtain ⟨⟨c6, f6⟩, hfin⟩ := HFIN.out v' y6 hown hgrow
    obtain ⟨g6, n6, cap6, rfl, -, -, -⟩ := hown.formU (by simp)
    clear hown hgrow
    (try dsimp only)
    refine hK.out _ _ trivial (fun _ => ?_)
    clear hK K
    (try simp only [Act.put, List.setIfInBounds_toArray, List.set_cons_zero, List.set_cons_succ])
    refine tky 21 (some 35) (v := ?_) rfl (by kernel_rfl) (by kernel_rfl) (by kernel_rfl) (fun _ _ _ h => h) ?_ hHeld ?_
    rotate_left
    focus (intro w hSw; go_simp; (try with_reducible rfl); done)
    simp only [Act.put, List.setIfInBounds_toArray, List.set_cons_zero, List.set_cons_succ]
    refine tky 22 (some 36) (v := ?_) rfl (by kernel_rfl) (by kernel_rfl) (by kernel_rfl) (fun _ _ _ h => h) ?_ hHeld ?_
    rotate_left
    focus (intro w hSw; go_simp; (try with_reducible rfl); done)
    simp only [Act.put, List.setIfInBounds_toArray, List.set_cons_zero, List.set_cons_succ]
    refine rcons 23 rfl (by kernel_rfl) (fun K hK => ?_)
    go_simp
    refine hK.out _ _ trivial (fun _ => ?_)
    clear hK K
    (try simp only [Act.put, List.setIfInBounds_toArray, List.set_cons_zero, List.set_cons_succ])
    refine wpAnyH_done (by kernel_rfl) ?_ _
    go_wp2_with fail
    rw [rounds_succ]
    go_wp2_with fail
    go_end0
    exact ⟨rfl, ⟨_, hfin.1⟩, hfin.2⟩
set_option maxRecDepth 100000 in
set_option maxHeartbeats 8000000 in
theorem put_add_none (p : Nat) (ao : Option Addr) (n cap : Nat) (L : List Tok) (k : UInt8) (s : ByteArray) (lb cl : Nat) (W : World) (hao : ao = none ∧ n = 0 ∧ cap = 0) (hn : n = L.length) (hcap : n ≤ cap) (h : PutS p (.slice ao n cap) L W) (hl : W.cell? ⟨lb, 0, none⟩ = some (.string s)) (hlb : lb ≠ p) (hL : L.length ≤ 100000) :
    Calls Tryz.prog 39 #[.pointer (some ⟨p, 0, none⟩), .int .u8 (k.toNat : Int), .slice (some ⟨lb, 0, none⟩) 1 cl] W fun x W' => x = .returned (.tuple #[]) ∧ (∃ v', PutS p v' (L ++ [⟨k, s.data.toList, 0⟩]) W') ∧ RK p W W' := by
  obtain ⟨kd, hkd⟩ : ∃ kd : Int, (k.toNat : Int) = kd := ⟨_, rfl⟩
  rw [hkd]
  have HKD := Lib.hid hkd
  obtain ⟨rfl, rfl, rfl⟩ := hao
  have HS := Lib.hid h
  have HN := Lib.hid hn
  have hp := h.lt
  have c0 := h.cell
  have f0 : W.frozen? ⟨p, 0, none⟩ = false := Lib.frozen_of_heap h.1 0
  have hsl : TokSl (.slice none 0 0) L W := by
    exact Or.inl ⟨none, 0, rfl, List.eq_nil_of_length_eq_zero hn.symm, fun _ => rfl⟩
  have HSL := Lib.hid hsl
  clear h hn hkd hsl
  have c0d : W.drew.cell? ⟨p, 0, none⟩ = some (.slice none 0 0) := c0
  have c0e : ∀ o, (W.drew.alloc o).cell? ⟨p, 0, none⟩ = some (.slice none 0 0) := fun o => by
    rw [World.cell?_alloc_lt _ _ _ (by exact hp)]; exact c0
  have HFIN : Hid (∀ v' y6, OwnT (W.drew.alloc (.cells #[.int .u8 kd, .string s, .int .i64 0] 72 (0, 0))).heap.size v' (L ++ [⟨k, s.data.toList, 0⟩]) y6 → (W.drew.alloc (.cells #[.int .u8 kd, .string s, .int .i64 0] 72 (0, 0))).grownBy y6 none → (y6.cell? ⟨p, 0, none⟩ = some (.slice none 0 0) ∧ y6.frozen? ⟨p, 0, none⟩ = false) ∧ PutS p v' (L ++ [⟨k, s.data.toList, 0⟩]) (y6.setCell ⟨p, 0, none⟩ v') ∧ RK p W (y6.setCell ⟨p, 0, none⟩ v')) := Lib.hid (fun v' y6 ho hg => by
    have hpd : p < (W.drew.alloc (.cells #[.int .u8 kd, .string s, .int .i64 0] 72 (0, 0))).heap.size := by simp; exact Nat.lt_succ_of_lt hp
    have hb : (W.drew.alloc (.cells #[.int .u8 kd, .string s, .int .i64 0] 72 (0, 0))).heap[p]? = some (.cells #[.slice none 0 0] 78 (0, 0)) := heap_old HS.out.1
    have h6 := (hg.block p hpd (by intro e; cases e)).trans hb
    have hk1 : RK p W (W.drew.alloc (.cells #[.int .u8 kd, .string s, .int .i64 0] 72 (0, 0))) := ⟨(below_dN 1 (Below.refl p W)).alloc (by exact Nat.le_of_lt hp) _, fun j o hj _ => heap_old hj⟩
    have hk2 : RK p W y6 := hk1.trans (RK.grownN hg (Nat.le_of_lt hpd))
    refine ⟨⟨Lib.cell_of_heap h6 0, Lib.frozen_of_heap h6 0⟩, ⟨pset h6 _ rfl, (ho.lessU (by omega)).rk (RK.set p 0 y6 v') (Nat.lt_succ_self p)⟩, hk2.trans (RK.set p 0 y6 v')⟩)
  have HNEW : Hid ((W.drew.alloc (.cells #[.int .u8 kd, .string s, .int .i64 0] 72 (0, 0))).heap[W.heap.size]? = some (.cells #[.int .u8 (((⟨k, s.data.toList, 0⟩ : Tok).kind.toNat : Nat) : Int), .string ⟨(⟨k, s.data.toList, 0⟩ : Tok).text.toArray⟩, .int .i64 (⟨k, s.data.toList, 0⟩ : Tok).pos] 72 (0, 0))) := Lib.hid (by
    rw [show (((⟨k, s.data.toList, 0⟩ : Tok).kind.toNat : Nat) : Int) = kd from HKD.out]
    exact heap_alloc_last W.drew _)
  have HSD := Lib.hid (HSL.out.below ((below_dN 1 (Below.refl W.heap.size W)).alloc (Nat.le_refl _) (.cells #[.int .u8 kd, .string s, .int .i64 0] 72 (0, 0))))
  go_enter Tryz.func39, Tryz.ntmps39
  go_wp2_with fail
  refine wp_loop_rounds 2 ?_
  rw [rounds_succ]
  go_wp2_with fail
  refine wp_region_held_drew (S := fun _ => True) (by kernel_rfl) trivial (fun hHeld => ?_)
  refine tky 0 (some 14) (v := ?_) rfl (by kernel_rfl) (by kernel_rfl) (by kernel_rfl) (fun _ _ _ h => h) ?_ hHeld ?_
  rotate_left
  focus (intro w hSw; go_simp; (try with_reducible rfl); done)
  simp only [Act.put, List.setIfInBounds_toArray, List.set_cons_zero, List.set_cons_succ]
  refine tky 1 (some 15) (v := ?_) rfl (by kernel_rfl) (by kernel_rfl) (by kernel_rfl) (fun _ _ _ h => h) ?_ hHeld ?_
  rotate_left
  focus (intro w hSw; go_simp; (try with_reducible rfl); done)
  simp only [Act.put, List.setIfInBounds_toArray, List.set_cons_zero, List.set_cons_succ]
  refine tky 2 (some 16) (v := ?_) rfl (by kernel_rfl) (by kernel_rfl) (by kernel_rfl) (fun _ _ _ h => h) ?_ hHeld ?_
  rotate_left
  focus (intro w hSw; go_simp; (try with_reducible rfl); done)
  simp only [Act.put, List.setIfInBounds_toArray, List.set_cons_zero, List.set_cons_succ]
  refine tky 3 (some 17) (v := ?_) rfl (by kernel_rfl) (by kernel_rfl) (by kernel_rfl) (fun _ _ _ h => h) ?_ hHeld ?_
  rotate_left
  focus (intro w hSw; go_simp; (try with_reducible rfl); done)
  simp only [Act.put, List.setIfInBounds_toArray, List.set_cons_zero, List.set_cons_succ]
  refine tky 5 (some 19) (v := ?_) rfl (by kernel_rfl) (by kernel_rfl) (by kernel_rfl) (fun _ _ _ h => h) ?_ hHeld ?_
  rotate_left
  focus (intro w hSw; go_simp; (try with_reducible rfl); done)
  simp only [Act.put, List.setIfInBounds_toArray, List.set_cons_zero, List.set_cons_succ]
  refine tky 6 (some 20) (v := ?_) rfl (by kernel_rfl) (by kernel_rfl) (by kernel_rfl) (fun _ _ _ h => h) ?_ hHeld ?_
  rotate_left
  focus (intro w hSw; go_simp; (try with_reducible rfl); done)
  simp only [Act.put, List.setIfInBounds_toArray, List.set_cons_zero, List.set_cons_succ]
  refine tky 7 (some 21) (v := ?_) rfl (by kernel_rfl) (by kernel_rfl) (by kernel_rfl) (fun _ _ _ h => h) ?_ hHeld ?_
  rotate_left
  focus (intro w hSw; go_simp; (try with_reducible rfl); done)
  simp only [Act.put, List.setIfInBounds_toArray, List.set_cons_zero, List.set_cons_succ]
  refine tky 10 (some 24) (v := ?_) rfl (by kernel_rfl) (by kernel_rfl) (by kernel_rfl) (fun _ _ _ h => h) ?_ hHeld ?_
  rotate_left
  focus (intro w hSw; go_simp; (try with_reducible rfl); done)
  simp only [Act.put, List.setIfInBounds_toArray, List.set_cons_zero, List.set_cons_succ]
  refine tky 11 (some 25) (v := ?_) rfl (by kernel_rfl) (by kernel_rfl) (by kernel_rfl) (fun _ _ _ h => h) ?_ hHeld ?_
  rotate_left
  focus (intro w hSw; go_simp; (try with_reducible rfl); done)
  simp only [Act.put, List.setIfInBounds_toArray, List.set_cons_zero, List.set_cons_succ]
  refine tky 12 (some 26) (v := ?_) rfl (by kernel_rfl) (by kernel_rfl) (by kernel_rfl) (fun _ _ _ h => h) ?_ hHeld ?_
  rotate_left
  focus (intro w hSw; go_simp; (try with_reducible rfl); done)
  simp only [Act.put, List.setIfInBounds_toArray, List.set_cons_zero, List.set_cons_succ]
  refine tky 16 (some 30) (v := ?_) rfl (by kernel_rfl) (by kernel_rfl) (by kernel_rfl) (fun _ _ _ h => h) ?_ hHeld ?_
  rotate_left
  focus (intro w hSw; go_simp; (try with_reducible rfl); done)
  simp only [Act.put, List.setIfInBounds_toArray, List.set_cons_zero, List.set_cons_succ]
  refine tky 17 (some 31) (v := ?_) rfl (by kernel_rfl) (by kernel_rfl) (by kernel_rfl) (fun _ _ _ h => h) ?_ hHeld ?_
  rotate_left
  focus (intro w hSw; go_simp; (try with_reducible rfl); done)
  simp only [Act.put, List.setIfInBounds_toArray, List.set_cons_zero, List.set_cons_succ]
  refine tky 18 (some 32) (v := ?_) rfl (by kernel_rfl) (by kernel_rfl) (by kernel_rfl) (fun _ _ _ h => h) ?_ hHeld ?_
  rotate_left
  focus (intro w hSw; go_simp; (try with_reducible rfl); done)
  simp only [Act.put, List.setIfInBounds_toArray, List.set_cons_zero, List.set_cons_succ]
  refine wpAnyH_ready (rs := [4, 8, 13, 19]) (by kernel_rfl) (by simp) ?_
  refine acons 4 rfl (fun K hK => ?_) ?_
  go_simp
  refine hK.out _ _ trivial (fun _ => ?_)
  clear hK K
  (try simp only [Act.put, List.setIfInBounds_toArray, List.set_cons_zero, List.set_cons_succ])
  refine wpAnyH_ready (rs := [8, 13, 19]) (by kernel_rfl) (by simp) ?_
  refine acons 8 rfl (fun K hK => ?_) ?_
  go_simp
  refine hK.out _ _ trivial (fun _ => ?_)
  clear hK K
  (try simp only [Act.put, List.setIfInBounds_toArray, List.set_cons_zero, List.set_cons_succ])
  refine tky 9 (some 23) (v := ?_) rfl (by kernel_rfl) (by kernel_rfl) (by kernel_rfl) (fun _ _ _ h => h) ?_ hHeld ?_
  rotate_left
  focus (intro w hSw; go_simp; (try with_reducible rfl); done)
  simp only [Act.put, List.setIfInBounds_toArray, List.set_cons_zero, List.set_cons_succ]
  refine wpAnyH_ready (rs := [13, 19]) (by kernel_rfl) (by simp) ?_
  refine acons 13 rfl (fun K hK => ?_) ?_
  go_simp
  refine hK.out _ _ trivial (fun _ => ?_)
  clear hK K
  (try simp only [Act.put, List.setIfInBounds_toArray, List.set_cons_zero, List.set_cons_succ])
  refine tky 14 (some 28) (v := ?_) rfl (by kernel_rfl) (by kernel_rfl) (by kernel_rfl) (fun _ _ _ h => h) ?_ hHeld ?_
  rotate_left
  focus (intro w hSw; go_simp; (try with_reducible rfl); done)
  simp only [Act.put, List.setIfInBounds_toArray, List.set_cons_zero, List.set_cons_succ]
  refine tky 15 (some 29) (v := ?_) rfl (by kernel_rfl) (by kernel_rfl) (by kernel_rfl) (fun _ _ _ h => h) ?_ hHeld ?_
  rotate_left
  focus (intro w hSw; go_simp; (try with_reducible rfl); done)
  simp only [Act.put, List.setIfInBounds_toArray, List.set_cons_zero, List.set_cons_succ]
  refine rcons 19 rfl (by kernel_rfl) (fun K hK => ?_)
  go_simp
  refine hK.out _ _ trivial (fun _ => ?_)
  clear hK K
  (try simp only [Act.put, List.setIfInBounds_toArray, List.set_cons_zero, List.set_cons_succ])
  rotate_left
  refine acons 19 rfl (fun K hK => ?_) ?_
  go_simp
  refine hK.out _ _ trivial (fun _ => ?_)
  clear hK K
  (try simp only [Act.put, List.setIfInBounds_toArray, List.set_cons_zero, List.set_cons_succ])
  refine rcons 13 rfl (by kernel_rfl) (fun K hK => ?_)
  go_simp
  refine hK.out _ _ trivial (fun _ => ?_)
  clear hK K
  (try simp only [Act.put, List.setIfInBounds_toArray, List.set_cons_zero, List.set_cons_succ])
  refine tky 14 (some 28) (v := ?_) rfl (by kernel_rfl) (by kernel_rfl) (by kernel_rfl) (fun _ _ _ h => h) ?_ hHeld ?_
  rotate_left
  focus (intro w hSw; go_simp; (try with_reducible rfl); done)
  simp only [Act.put, List.setIfInBounds_toArray, List.set_cons_zero, List.set_cons_succ]
  refine tky 15 (some 29) (v := ?_) rfl (by kernel_rfl) (by kernel_rfl) (by kernel_rfl) (fun _ _ _ h => h) ?_ hHeld ?_
  rotate_left
  focus (intro w hSw; go_simp; (try with_reducible rfl); done)
  simp only [Act.put, List.setIfInBounds_toArray, List.set_cons_zero, List.set_cons_succ]
  rotate_left
  exact AllReadyH.nil
  refine acons 13 rfl (fun K hK => ?_) ?_
  go_simp
  refine hK.out _ _ trivial (fun _ => ?_)
  clear hK K
  (try simp only [Act.put, List.setIfInBounds_toArray, List.set_cons_zero, List.set_cons_succ])
  refine tky 14 (some 28) (v := ?_) rfl (by kernel_rfl) (by kernel_rfl) (by kernel_rfl) (fun _ _ _ h => h) ?_ hHeld ?_
  rotate_left
  focus (intro w hSw; go_simp; (try with_reducible rfl); done)
  simp only [Act.put, List.setIfInBounds_toArray, List.set_cons_zero, List.set_cons_succ]
  refine wpAnyH_ready (rs := [8, 19]) (by kernel_rfl) (by simp) ?_
  refine acons 8 rfl (fun K hK => ?_) ?_
  go_simp
  refine hK.out _ _ trivial (fun _ => ?_)
  clear hK K
  (try simp only [Act.put, List.setIfInBounds_toArray, List.set_cons_zero, List.set_cons_succ])
  refine tky 9 (some 23) (v := ?_) rfl (by kernel_rfl) (by kernel_rfl) (by kernel_rfl) (fun _ _ _ h => h) ?_ hHeld ?_
  rotate_left
  focus (intro w hSw; go_simp; (try with_reducible rfl); done)
  simp only [Act.put, List.setIfInBounds_toArray, List.set_cons_zero, List.set_cons_succ]
  refine tky 15 (some 29) (v := ?_) rfl (by kernel_rfl) (by kernel_rfl) (by kernel_rfl) (fun _ _ _ h => h) ?_ hHeld ?_
  rotate_left
  focus (intro w hSw; go_simp; (try with_reducible rfl); done)
  simp only [Act.put, List.setIfInBounds_toArray, List.set_cons_zero, List.set_cons_succ]
  refine rcons 19 rfl (by kernel_rfl) (fun K hK => ?_)
  go_simp
  refine hK.out _ _ trivial (fun _ => ?_)
  clear hK K
  (try simp only [Act.put, List.setIfInBounds_toArray, List.set_cons_zero, List.set_cons_succ])
  rotate_left
  refine acons 19 rfl (fun K hK => ?_) ?_
  go_simp
  refine hK.out _ _ trivial (fun _ => ?_)
  clear hK K
  (try simp only [Act.put, List.setIfInBounds_toArray, List.set_cons_zero, List.set_cons_succ])
  refine rcons 8 rfl (by kernel_rfl) (fun K hK => ?_)
  go_simp
  refine hK.out _ _ trivial (fun _ => ?_)
  clear hK K
  (try simp only [Act.put, List.setIfInBounds_toArray, List.set_cons_zero, List.set_cons_succ])
  refine tky 9 (some 23) (v := ?_) rfl (by kernel_rfl) (by kernel_rfl) (by kernel_rfl) (fun _ _ _ h => h) ?_ hHeld ?_
  rotate_left
  focus (intro w hSw; go_simp; (try with_reducible rfl); done)
  simp only [Act.put, List.setIfInBounds_toArray, List.set_cons_zero, List.set_cons_succ]
  refine tky 15 (some 29) (v := ?_) rfl (by kernel_rfl) (by kernel_rfl) (by kernel_rfl) (fun _ _ _ h => h) ?_ hHeld ?_
  rotate_left
  focus (intro w hSw; go_simp; (try with_reducible rfl); done)
  simp only [Act.put, List.setIfInBounds_toArray, List.set_cons_zero, List.set_cons_succ]
  rotate_left
  exact AllReadyH.nil
  refine acons 19 rfl (fun K hK => ?_) ?_
  go_simp
  refine hK.out _ _ trivial (fun _ => ?_)
  clear hK K
  (try simp only [Act.put, List.setIfInBounds_toArray, List.set_cons_zero, List.set_cons_succ])
  refine wpAnyH_ready (rs := [8, 13]) (by kernel_rfl) (by simp) ?_
  refine acons 8 rfl (fun K hK => ?_) ?_
  go_simp
  refine hK.out _ _ trivial (fun _ => ?_)
  clear hK K
  (try simp only [Act.put, List.setIfInBounds_toArray, List.set_cons_zero, List.set_cons_succ])
  refine tky 9 (some 23) (v := ?_) rfl (by kernel_rfl) (by kernel_rfl) (by kernel_rfl) (fun _ _ _ h => h) ?_ hHeld ?_
  rotate_left
  focus (intro w hSw; go_simp; (try with_reducible rfl); done)
  simp only [Act.put, List.setIfInBounds_toArray, List.set_cons_zero, List.set_cons_succ]
  refine rcons 13 rfl (by kernel_rfl) (fun K hK => ?_)
  go_simp
  refine hK.out _ _ trivial (fun _ => ?_)
  clear hK K
  (try simp only [Act.put, List.setIfInBounds_toArray, List.set_cons_zero, List.set_cons_succ])
  refine tky 14 (some 28) (v := ?_) rfl (by kernel_rfl) (by kernel_rfl) (by kernel_rfl) (fun _ _ _ h => h) ?_ hHeld ?_
  rotate_left
  focus (intro w hSw; go_simp; (try with_reducible rfl); done)
  simp only [Act.put, List.setIfInBounds_toArray, List.set_cons_zero, List.set_cons_succ]
  refine tky 15 (some 29) (v := ?_) rfl (by kernel_rfl) (by kernel_rfl) (by kernel_rfl) (fun _ _ _ h => h) ?_ hHeld ?_
  rotate_left
  focus (intro w hSw; go_simp; (try with_reducible rfl); done)
  simp only [Act.put, List.setIfInBounds_toArray, List.set_cons_zero, List.set_cons_succ]
  rotate_left
  refine acons 13 rfl (fun K hK => ?_) ?_
  go_simp
  refine hK.out _ _ trivial (fun _ => ?_)
  clear hK K
  (try simp only [Act.put, List.setIfInBounds_toArray, List.set_cons_zero, List.set_cons_succ])
  refine tky 14 (some 28) (v := ?_) rfl (by kernel_rfl) (by kernel_rfl) (by kernel_rfl) (fun _ _ _ h => h) ?_ hHeld ?_
  rotate_left
  focus (intro w hSw; go_simp; (try with_reducible rfl); done)
  simp only [Act.put, List.setIfInBounds_toArray, List.set_cons_zero, List.set_cons_succ]
  refine rcons 8 rfl (by kernel_rfl) (fun K hK => ?_)
  go_simp
  refine hK.out _ _ trivial (fun _ => ?_)
  clear hK K
  (try simp only [Act.put, List.setIfInBounds_toArray, List.set_cons_zero, List.set_cons_succ])
  refine tky 9 (some 23) (v := ?_) rfl (by kernel_rfl) (by kernel_rfl) (by kernel_rfl) (fun _ _ _ h => h) ?_ hHeld ?_
  rotate_left
  focus (intro w hSw; go_simp; (try with_reducible rfl); done)
  simp only [Act.put, List.setIfInBounds_toArray, List.set_cons_zero, List.set_cons_succ]
  refine tky 15 (some 29) (v := ?_) rfl (by kernel_rfl) (by kernel_rfl) (by kernel_rfl) (fun _ _ _ h => h) ?_ hHeld ?_
  rotate_left
  focus (intro w hSw; go_simp; (try with_reducible rfl); done)
  simp only [Act.put, List.setIfInBounds_toArray, List.set_cons_zero, List.set_cons_succ]
  rotate_left
  exact AllReadyH.nil
  exact AllReadyH.nil
  refine acons 8 rfl (fun K hK => ?_) ?_
  go_simp
  refine hK.out _ _ trivial (fun _ => ?_)
  clear hK K
  (try simp only [Act.put, List.setIfInBounds_toArray, List.set_cons_zero, List.set_cons_succ])
  refine tky 9 (some 23) (v := ?_) rfl (by kernel_rfl) (by kernel_rfl) (by kernel_rfl) (fun _ _ _ h => h) ?_ hHeld ?_
  rotate_left
  focus (intro w hSw; go_simp; (try with_reducible rfl); done)
  simp only [Act.put, List.setIfInBounds_toArray, List.set_cons_zero, List.set_cons_succ]
  refine wpAnyH_ready (rs := [4, 13, 19]) (by kernel_rfl) (by simp) ?_
  refine acons 4 rfl (fun K hK => ?_) ?_
  go_simp
  refine hK.out _ _ trivial (fun _ => ?_)
  clear hK K
  (try simp only [Act.put, List.setIfInBounds_toArray, List.set_cons_zero, List.set_cons_succ])
  refine wpAnyH_ready (rs := [13, 19]) (by kernel_rfl) (by simp) ?_
  refine acons 13 rfl (fun K hK => ?_) ?_
  go_simp
  refine hK.out _ _ trivial (fun _ => ?_)
  clear hK K
  (try simp only [Act.put, List.setIfInBounds_toArray, List.set_cons_zero, List.set_cons_succ])
  refine tky 14 (some 28) (v := ?_) rfl (by kernel_rfl) (by kernel_rfl) (by kernel_rfl) (fun _ _ _ h => h) ?_ hHeld ?_
  rotate_left
  focus (intro w hSw; go_simp; (try with_reducible rfl); done)
  simp only [Act.put, List.setIfInBounds_toArray, List.set_cons_zero, List.set_cons_succ]
  refine tky 15 (some 29) (v := ?_) rfl (by kernel_rfl) (by kernel_rfl) (by kernel_rfl) (fun _ _ _ h => h) ?_ hHeld ?_
  rotate_left
  focus (intro w hSw; go_simp; (try with_reducible rfl); done)
  simp only [Act.put, List.setIfInBounds_toArray, List.set_cons_zero, List.set_cons_succ]
  refine rcons 19 rfl (by kernel_rfl) (fun K hK => ?_)
  go_simp
  refine hK.out _ _ trivial (fun _ => ?_)
  clear hK K
  (try simp only [Act.put, List.setIfInBounds_toArray, List.set_cons_zero, List.set_cons_succ])
  rotate_left
  refine acons 19 rfl (fun K hK => ?_) ?_
  go_simp
  refine hK.out _ _ trivial (fun _ => ?_)
  clear hK K
  (try simp only [Act.put, List.setIfInBounds_toArray, List.set_cons_zero, List.set_cons_succ])
  refine rcons 13 rfl (by kernel_rfl) (fun K hK => ?_)
  go_simp
  refine hK.out _ _ trivial (fun _ => ?_)
  clear hK K
  (try simp only [Act.put, List.setIfInBounds_toArray, List.set_cons_zero, List.set_cons_succ])
  refine tky 14 (some 28) (v := ?_) rfl (by kernel_rfl) (by kernel_rfl) (by kernel_rfl) (fun _ _ _ h => h) ?_ hHeld ?_
  rotate_left
  focus (intro w hSw; go_simp; (try with_reducible rfl); done)
  simp only [Act.put, List.setIfInBounds_toArray, List.set_cons_zero, List.set_cons_succ]
  refine tky 15 (some 29) (v := ?_) rfl (by kernel_rfl) (by kernel_rfl) (by kernel_rfl) (fun _ _ _ h => h) ?_ hHeld ?_
  rotate_left
  focus (intro w hSw; go_simp; (try with_reducible rfl); done)
  simp only [Act.put, List.setIfInBounds_toArray, List.set_cons_zero, List.set_cons_succ]
  rotate_left
  exact AllReadyH.nil
  refine acons 13 rfl (fun K hK => ?_) ?_
  go_simp
  refine hK.out _ _ trivial (fun _ => ?_)
  clear hK K
  (try simp only [Act.put, List.setIfInBounds_toArray, List.set_cons_zero, List.set_cons_succ])
  refine tky 14 (some 28) (v := ?_) rfl (by kernel_rfl) (by kernel_rfl) (by kernel_rfl) (fun _ _ _ h => h) ?_ hHeld ?_
  rotate_left
  focus (intro w hSw; go_simp; (try with_reducible rfl); done)
  simp only [Act.put, List.setIfInBounds_toArray, List.set_cons_zero, List.set_cons_succ]
  refine wpAnyH_ready (rs := [4, 19]) (by kernel_rfl) (by simp) ?_
  refine acons 4 rfl (fun K hK => ?_) ?_
  go_simp
  refine hK.out _ _ trivial (fun _ => ?_)
  clear hK K
  (try simp only [Act.put, List.setIfInBounds_toArray, List.set_cons_zero, List.set_cons_succ])
  refine tky 15 (some 29) (v := ?_) rfl (by kernel_rfl) (by kernel_rfl) (by kernel_rfl) (fun _ _ _ h => h) ?_ hHeld ?_
  rotate_left
  focus (intro w hSw; go_simp; (try with_reducible rfl); done)
  simp only [Act.put, List.setIfInBounds_toArray, List.set_cons_zero, List.set_cons_succ]
  refine rcons 19 rfl (by kernel_rfl) (fun K hK => ?_)
  go_simp
  refine hK.out _ _ trivial (fun _ => ?_)
  clear hK K
  (try simp only [Act.put, List.setIfInBounds_toArray, List.set_cons_zero, List.set_cons_succ])
  rotate_left
  refine acons 19 rfl (fun K hK => ?_) ?_
  go_simp
  refine hK.out _ _ trivial (fun _ => ?_)
  clear hK K
  (try simp only [Act.put, List.setIfInBounds_toArray, List.set_cons_zero, List.set_cons_succ])
  refine rcons 4 rfl (by kernel_rfl) (fun K hK => ?_)
  go_simp
  refine hK.out _ _ trivial (fun _ => ?_)
  clear hK K
  (try simp only [Act.put, List.setIfInBounds_toArray, List.set_cons_zero, List.set_cons_succ])
  refine tky 15 (some 29) (v := ?_) rfl (by kernel_rfl) (by kernel_rfl) (by kernel_rfl) (fun _ _ _ h => h) ?_ hHeld ?_
  rotate_left
  focus (intro w hSw; go_simp; (try with_reducible rfl); done)
  simp only [Act.put, List.setIfInBounds_toArray, List.set_cons_zero, List.set_cons_succ]
  rotate_left
  exact AllReadyH.nil
  refine acons 19 rfl (fun K hK => ?_) ?_
  go_simp
  refine hK.out _ _ trivial (fun _ => ?_)
  clear hK K
  (try simp only [Act.put, List.setIfInBounds_toArray, List.set_cons_zero, List.set_cons_succ])
  refine wpAnyH_ready (rs := [4, 13]) (by kernel_rfl) (by simp) ?_
  refine acons 4 rfl (fun K hK => ?_) ?_
  go_simp
  refine hK.out _ _ trivial (fun _ => ?_)
  clear hK K
  (try simp only [Act.put, List.setIfInBounds_toArray, List.set_cons_zero, List.set_cons_succ])
  refine rcons 13 rfl (by kernel_rfl) (fun K hK => ?_)
  go_simp
  refine hK.out _ _ trivial (fun _ => ?_)
  clear hK K
  (try simp only [Act.put, List.setIfInBounds_toArray, List.set_cons_zero, List.set_cons_succ])
  refine tky 14 (some 28) (v := ?_) rfl (by kernel_rfl) (by kernel_rfl) (by kernel_rfl) (fun _ _ _ h => h) ?_ hHeld ?_
  rotate_left
  focus (intro w hSw; go_simp; (try with_reducible rfl); done)
  simp only [Act.put, List.setIfInBounds_toArray, List.set_cons_zero, List.set_cons_succ]
  refine tky 15 (some 29) (v := ?_) rfl (by kernel_rfl) (by kernel_rfl) (by kernel_rfl) (fun _ _ _ h => h) ?_ hHeld ?_
  rotate_left
  focus (intro w hSw; go_simp; (try with_reducible rfl); done)
  simp only [Act.put, List.setIfInBounds_toArray, List.set_cons_zero, List.set_cons_succ]
  rotate_left
  refine acons 13 rfl (fun K hK => ?_) ?_
  go_simp
  refine hK.out _ _ trivial (fun _ => ?_)
  clear hK K
  (try simp only [Act.put, List.setIfInBounds_toArray, List.set_cons_zero, List.set_cons_succ])
  refine tky 14 (some 28) (v := ?_) rfl (by kernel_rfl) (by kernel_rfl) (by kernel_rfl) (fun _ _ _ h => h) ?_ hHeld ?_
  rotate_left
  focus (intro w hSw; go_simp; (try with_reducible rfl); done)
  simp only [Act.put, List.setIfInBounds_toArray, List.set_cons_zero, List.set_cons_succ]
  refine rcons 4 rfl (by kernel_rfl) (fun K hK => ?_)
  go_simp
  refine hK.out _ _ trivial (fun _ => ?_)
  clear hK K
  (try simp only [Act.put, List.setIfInBounds_toArray, List.set_cons_zero, List.set_cons_succ])
  refine tky 15 (some 29) (v := ?_) rfl (by kernel_rfl) (by kernel_rfl) (by kernel_rfl) (fun _ _ _ h => h) ?_ hHeld ?_
  rotate_left
  focus (intro w hSw; go_simp; (try with_reducible rfl); done)
  simp only [Act.put, List.setIfInBounds_toArray, List.set_cons_zero, List.set_cons_succ]
  rotate_left
  exact AllReadyH.nil
  exact AllReadyH.nil
  refine acons 13 rfl (fun K hK => ?_) ?_
  go_simp
  refine hK.out _ _ trivial (fun _ => ?_)
  clear hK K
  (try simp only [Act.put, List.setIfInBounds_toArray, List.set_cons_zero, List.set_cons_succ])
  refine tky 14 (some 28) (v := ?_) rfl (by kernel_rfl) (by kernel_rfl) (by kernel_rfl) (fun _ _ _ h => h) ?_ hHeld ?_
  rotate_left
  focus (intro w hSw; go_simp; (try with_reducible rfl); done)
  simp only [Act.put, List.setIfInBounds_toArray, List.set_cons_zero, List.set_cons_succ]
  refine wpAnyH_ready (rs := [4, 8, 19]) (by kernel_rfl) (by simp) ?_
  refine acons 4 rfl (fun K hK => ?_) ?_
  go_simp
  refine hK.out _ _ trivial (fun _ => ?_)
  clear hK K
  (try simp only [Act.put, List.setIfInBounds_toArray, List.set_cons_zero, List.set_cons_succ])
  refine wpAnyH_ready (rs := [8, 19]) (by kernel_rfl) (by simp) ?_
  refine acons 8 rfl (fun K hK => ?_) ?_
  go_simp
  refine hK.out _ _ trivial (fun _ => ?_)
  clear hK K
  (try simp only [Act.put, List.setIfInBounds_toArray, List.set_cons_zero, List.set_cons_succ])
  refine tky 9 (some 23) (v := ?_) rfl (by kernel_rfl) (by kernel_rfl) (by kernel_rfl) (fun _ _ _ h => h) ?_ hHeld ?_
  rotate_left
  focus (intro w hSw; go_simp; (try with_reducible rfl); done)
  simp only [Act.put, List.setIfInBounds_toArray, List.set_cons_zero, List.set_cons_succ]
  refine tky 15 (some 29) (v := ?_) rfl (by kernel_rfl) (by kernel_rfl) (by kernel_rfl) (fun _ _ _ h => h) ?_ hHeld ?_
  rotate_left
  focus (intro w hSw; go_simp; (try with_reducible rfl); done)
  simp only [Act.put, List.setIfInBounds_toArray, List.set_cons_zero, List.set_cons_succ]
  refine rcons 19 rfl (by kernel_rfl) (fun K hK => ?_)
  go_simp
  refine hK.out _ _ trivial (fun _ => ?_)
  clear hK K
  (try simp only [Act.put, List.setIfInBounds_toArray, List.set_cons_zero, List.set_cons_succ])
  rotate_left
  refine acons 19 rfl (fun K hK => ?_) ?_
  go_simp
  refine hK.out _ _ trivial (fun _ => ?_)
  clear hK K
  (try simp only [Act.put, List.setIfInBounds_toArray, List.set_cons_zero, List.set_cons_succ])
  refine rcons 8 rfl (by kernel_rfl) (fun K hK => ?_)
  go_simp
  refine hK.out _ _ trivial (fun _ => ?_)
  clear hK K
  (try simp only [Act.put, List.setIfInBounds_toArray, List.set_cons_zero, List.set_cons_succ])
  refine tky 9 (some 23) (v := ?_) rfl (by kernel_rfl) (by kernel_rfl) (by kernel_rfl) (fun _ _ _ h => h) ?_ hHeld ?_
  rotate_left
  focus (intro w hSw; go_simp; (try with_reducible rfl); done)
  simp only [Act.put, List.setIfInBounds_toArray, List.set_cons_zero, List.set_cons_succ]
  refine tky 15 (some 29) (v := ?_) rfl (by kernel_rfl) (by kernel_rfl) (by kernel_rfl) (fun _ _ _ h => h) ?_ hHeld ?_
  rotate_left
  focus (intro w hSw; go_simp; (try with_reducible rfl); done)
  simp only [Act.put, List.setIfInBounds_toArray, List.set_cons_zero, List.set_cons_succ]
  rotate_left
  exact AllReadyH.nil
  refine acons 8 rfl (fun K hK => ?_) ?_
  go_simp
  refine hK.out _ _ trivial (fun _ => ?_)
  clear hK K
  (try simp only [Act.put, List.setIfInBounds_toArray, List.set_cons_zero, List.set_cons_succ])
  refine tky 9 (some 23) (v := ?_) rfl (by kernel_rfl) (by kernel_rfl) (by kernel_rfl) (fun _ _ _ h => h) ?_ hHeld ?_
  rotate_left
  focus (intro w hSw; go_simp; (try with_reducible rfl); done)
  simp only [Act.put, List.setIfInBounds_toArray, List.set_cons_zero, List.set_cons_succ]
  refine wpAnyH_ready (rs := [4, 19]) (by kernel_rfl) (by simp) ?_
  refine acons 4 rfl (fun K hK => ?_) ?_
  go_simp
  refine hK.out _ _ trivial (fun _ => ?_)
  clear hK K
  (try simp only [Act.put, List.setIfInBounds_toArray, List.set_cons_zero, List.set_cons_succ])
  refine tky 15 (some 29) (v := ?_) rfl (by kernel_rfl) (by kernel_rfl) (by kernel_rfl) (fun _ _ _ h => h) ?_ hHeld ?_
  rotate_left
  focus (intro w hSw; go_simp; (try with_reducible rfl); done)
  simp only [Act.put, List.setIfInBounds_toArray, List.set_cons_zero, List.set_cons_succ]
  refine rcons 19 rfl (by kernel_rfl) (fun K hK => ?_)
  go_simp
  refine hK.out _ _ trivial (fun _ => ?_)
  clear hK K
  (try simp only [Act.put, List.setIfInBounds_toArray, List.set_cons_zero, List.set_cons_succ])
  rotate_left
  refine acons 19 rfl (fun K hK => ?_) ?_
  go_simp
  refine hK.out _ _ trivial (fun _ => ?_)
  clear hK K
  (try simp only [Act.put, List.setIfInBounds_toArray, List.set_cons_zero, List.set_cons_succ])
  refine rcons 4 rfl (by kernel_rfl) (fun K hK => ?_)
  go_simp
  refine hK.out _ _ trivial (fun _ => ?_)
  clear hK K
  (try simp only [Act.put, List.setIfInBounds_toArray, List.set_cons_zero, List.set_cons_succ])
  refine tky 15 (some 29) (v := ?_) rfl (by kernel_rfl) (by kernel_rfl) (by kernel_rfl) (fun _ _ _ h => h) ?_ hHeld ?_
  rotate_left
  focus (intro w hSw; go_simp; (try with_reducible rfl); done)
  simp only [Act.put, List.setIfInBounds_toArray, List.set_cons_zero, List.set_cons_succ]
  rotate_left
  exact AllReadyH.nil
  refine acons 19 rfl (fun K hK => ?_) ?_
  go_simp
  refine hK.out _ _ trivial (fun _ => ?_)
  clear hK K
  (try simp only [Act.put, List.setIfInBounds_toArray, List.set_cons_zero, List.set_cons_succ])
  refine wpAnyH_ready (rs := [4, 8]) (by kernel_rfl) (by simp) ?_
  refine acons 4 rfl (fun K hK => ?_) ?_
  go_simp
  refine hK.out _ _ trivial (fun _ => ?_)
  clear hK K
  (try simp only [Act.put, List.setIfInBounds_toArray, List.set_cons_zero, List.set_cons_succ])
  refine rcons 8 rfl (by kernel_rfl) (fun K hK => ?_)
  go_simp
  refine hK.out _ _ trivial (fun _ => ?_)
  clear hK K
  (try simp only [Act.put, List.setIfInBounds_toArray, List.set_cons_zero, List.set_cons_succ])
  refine tky 9 (some 23) (v := ?_) rfl (by kernel_rfl) (by kernel_rfl) (by kernel_rfl) (fun _ _ _ h => h) ?_ hHeld ?_
  rotate_left
  focus (intro w hSw; go_simp; (try with_reducible rfl); done)
  simp only [Act.put, List.setIfInBounds_toArray, List.set_cons_zero, List.set_cons_succ]
  refine tky 15 (some 29) (v := ?_) rfl (by kernel_rfl) (by kernel_rfl) (by kernel_rfl) (fun _ _ _ h => h) ?_ hHeld ?_
  rotate_left
  focus (intro w hSw; go_simp; (try with_reducible rfl); done)
  simp only [Act.put, List.setIfInBounds_toArray, List.set_cons_zero, List.set_cons_succ]
  rotate_left
  refine acons 8 rfl (fun K hK => ?_) ?_
  go_simp
  refine hK.out _ _ trivial (fun _ => ?_)
  clear hK K
  (try simp only [Act.put, List.setIfInBounds_toArray, List.set_cons_zero, List.set_cons_succ])
  refine tky 9 (some 23) (v := ?_) rfl (by kernel_rfl) (by kernel_rfl) (by kernel_rfl) (fun _ _ _ h => h) ?_ hHeld ?_
  rotate_left
  focus (intro w hSw; go_simp; (try with_reducible rfl); done)
  simp only [Act.put, List.setIfInBounds_toArray, List.set_cons_zero, List.set_cons_succ]
  refine rcons 4 rfl (by kernel_rfl) (fun K hK => ?_)
  go_simp
  refine hK.out _ _ trivial (fun _ => ?_)
  clear hK K
  (try simp only [Act.put, List.setIfInBounds_toArray, List.set_cons_zero, List.set_cons_succ])
  refine tky 15 (some 29) (v := ?_) rfl (by kernel_rfl) (by kernel_rfl) (by kernel_rfl) (fun _ _ _ h => h) ?_ hHeld ?_
  rotate_left
  focus (intro w hSw; go_simp; (try with_reducible rfl); done)
  simp only [Act.put, List.setIfInBounds_toArray, List.set_cons_zero, List.set_cons_succ]
  rotate_left
  exact AllReadyH.nil
  exact AllReadyH.nil
  refine acons 19 rfl (fun K hK => ?_) ?_
  go_simp
  refine hK.out _ _ trivial (fun _ => ?_)
  clear hK K
  (try simp only [Act.put, List.setIfInBounds_toArray, List.set_cons_zero, List.set_cons_succ])
  refine wpAnyH_ready (rs := [4, 8, 13]) (by kernel_rfl) (by simp) ?_
  refine acons 4 rfl (fun K hK => ?_) ?_
  go_simp
  refine hK.out _ _ trivial (fun _ => ?_)
  clear hK K
  (try simp only [Act.put, List.setIfInBounds_toArray, List.set_cons_zero, List.set_cons_succ])
  refine wpAnyH_ready (rs := [8, 13]) (by kernel_rfl) (by simp) ?_
  refine acons 8 rfl (fun K hK => ?_) ?_
  go_simp
  refine hK.out _ _ trivial (fun _ => ?_)
  clear hK K
  (try simp only [Act.put, List.setIfInBounds_toArray, List.set_cons_zero, List.set_cons_succ])
  refine tky 9 (some 23) (v := ?_) rfl (by kernel_rfl) (by kernel_rfl) (by kernel_rfl) (fun _ _ _ h => h) ?_ hHeld ?_
  rotate_left
  focus (intro w hSw; go_simp; (try with_reducible rfl); done)
  simp only [Act.put, List.setIfInBounds_toArray, List.set_cons_zero, List.set_cons_succ]
  refine rcons 13 rfl (by kernel_rfl) (fun K hK => ?_)
  go_simp
  refine hK.out _ _ trivial (fun _ => ?_)
  clear hK K
  (try simp only [Act.put, List.setIfInBounds_toArray, List.set_cons_zero, List.set_cons_succ])
  refine tky 14 (some 28) (v := ?_) rfl (by kernel_rfl) (by kernel_rfl) (by kernel_rfl) (fun _ _ _ h => h) ?_ hHeld ?_
  rotate_left
  focus (intro w hSw; go_simp; (try with_reducible rfl); done)
  simp only [Act.put, List.setIfInBounds_toArray, List.set_cons_zero, List.set_cons_succ]
  refine tky 15 (some 29) (v := ?_) rfl (by kernel_rfl) (by kernel_rfl) (by kernel_rfl) (fun _ _ _ h => h) ?_ hHeld ?_
  rotate_left
  focus (intro w hSw; go_simp; (try with_reducible rfl); done)
  simp only [Act.put, List.setIfInBounds_toArray, List.set_cons_zero, List.set_cons_succ]
  rotate_left
  refine acons 13 rfl (fun K hK => ?_) ?_
  go_simp
  refine hK.out _ _ trivial (fun _ => ?_)
  clear hK K
  (try simp only [Act.put, List.setIfInBounds_toArray, List.set_cons_zero, List.set_cons_succ])
  refine tky 14 (some 28) (v := ?_) rfl (by kernel_rfl) (by kernel_rfl) (by kernel_rfl) (fun _ _ _ h => h) ?_ hHeld ?_
  rotate_left
  focus (intro w hSw; go_simp; (try with_reducible rfl); done)
  simp only [Act.put, List.setIfInBounds_toArray, List.set_cons_zero, List.set_cons_succ]
  refine rcons 8 rfl (by kernel_rfl) (fun K hK => ?_)
  go_simp
  refine hK.out _ _ trivial (fun _ => ?_)
  clear hK K
  (try simp only [Act.put, List.setIfInBounds_toArray, List.set_cons_zero, List.set_cons_succ])
  refine tky 9 (some 23) (v := ?_) rfl (by kernel_rfl) (by kernel_rfl) (by kernel_rfl) (fun _ _ _ h => h) ?_ hHeld ?_
  rotate_left
  focus (intro w hSw; go_simp; (try with_reducible rfl); done)
  simp only [Act.put, List.setIfInBounds_toArray, List.set_cons_zero, List.set_cons_succ]
  refine tky 15 (some 29) (v := ?_) rfl (by kernel_rfl) (by kernel_rfl) (by kernel_rfl) (fun _ _ _ h => h) ?_ hHeld ?_
  rotate_left
  focus (intro w hSw; go_simp; (try with_reducible rfl); done)
  simp only [Act.put, List.setIfInBounds_toArray, List.set_cons_zero, List.set_cons_succ]
  rotate_left
  exact AllReadyH.nil
  refine acons 8 rfl (fun K hK => ?_) ?_
  go_simp
  refine hK.out _ _ trivial (fun _ => ?_)
  clear hK K
  (try simp only [Act.put, List.setIfInBounds_toArray, List.set_cons_zero, List.set_cons_succ])
  refine tky 9 (some 23) (v := ?_) rfl (by kernel_rfl) (by kernel_rfl) (by kernel_rfl) (fun _ _ _ h => h) ?_ hHeld ?_
  rotate_left
  focus (intro w hSw; go_simp; (try with_reducible rfl); done)
  simp only [Act.put, List.setIfInBounds_toArray, List.set_cons_zero, List.set_cons_succ]
  refine wpAnyH_ready (rs := [4, 13]) (by kernel_rfl) (by simp) ?_
  refine acons 4 rfl (fun K hK => ?_) ?_
  go_simp
  refine hK.out _ _ trivial (fun _ => ?_)
  clear hK K
  (try simp only [Act.put, List.setIfInBounds_toArray, List.set_cons_zero, List.set_cons_succ])
  refine rcons 13 rfl (by kernel_rfl) (fun K hK => ?_)
  go_simp
  refine hK.out _ _ trivial (fun _ => ?_)
  clear hK K
  (try simp only [Act.put, List.setIfInBounds_toArray, List.set_cons_zero, List.set_cons_succ])
  refine tky 14 (some 28) (v := ?_) rfl (by kernel_rfl) (by kernel_rfl) (by kernel_rfl) (fun _ _ _ h => h) ?_ hHeld ?_
  rotate_left
  focus (intro w hSw; go_simp; (try with_reducible rfl); done)
  simp only [Act.put, List.setIfInBounds_toArray, List.set_cons_zero, List.set_cons_succ]
  refine tky 15 (some 29) (v := ?_) rfl (by kernel_rfl) (by kernel_rfl) (by kernel_rfl) (fun _ _ _ h => h) ?_ hHeld ?_
  rotate_left
  focus (intro w hSw; go_simp; (try with_reducible rfl); done)
  simp only [Act.put, List.setIfInBounds_toArray, List.set_cons_zero, List.set_cons_succ]
  rotate_left
  refine acons 13 rfl (fun K hK => ?_) ?_
  go_simp
  refine hK.out _ _ trivial (fun _ => ?_)
  clear hK K
  (try simp only [Act.put, List.setIfInBounds_toArray, List.set_cons_zero, List.set_cons_succ])
  refine tky 14 (some 28) (v := ?_) rfl (by kernel_rfl) (by kernel_rfl) (by kernel_rfl) (fun _ _ _ h => h) ?_ hHeld ?_
  rotate_left
  focus (intro w hSw; go_simp; (try with_reducible rfl); done)
  simp only [Act.put, List.setIfInBounds_toArray, List.set_cons_zero, List.set_cons_succ]
  refine rcons 4 rfl (by kernel_rfl) (fun K hK => ?_)
  go_simp
  refine hK.out _ _ trivial (fun _ => ?_)
  clear hK K
  (try simp only [Act.put, List.setIfInBounds_toArray, List.set_cons_zero, List.set_cons_succ])
  refine tky 15 (some 29) (v := ?_) rfl (by kernel_rfl) (by kernel_rfl) (by kernel_rfl) (fun _ _ _ h => h) ?_ hHeld ?_
  rotate_left
  focus (intro w hSw; go_simp; (try with_reducible rfl); done)
  simp only [Act.put, List.setIfInBounds_toArray, List.set_cons_zero, List.set_cons_succ]
  rotate_left
  exact AllReadyH.nil
  refine acons 13 rfl (fun K hK => ?_) ?_
  go_simp
  refine hK.out _ _ trivial (fun _ => ?_)
  clear hK K
  (try simp only [Act.put, List.setIfInBounds_toArray, List.set_cons_zero, List.set_cons_succ])
  refine tky 14 (some 28) (v := ?_) rfl (by kernel_rfl) (by kernel_rfl) (by kernel_rfl) (fun _ _ _ h => h) ?_ hHeld ?_
  rotate_left
  focus (intro w hSw; go_simp; (try with_reducible rfl); done)
  simp only [Act.put, List.setIfInBounds_toArray, List.set_cons_zero, List.set_cons_succ]
  refine wpAnyH_ready (rs := [4, 8]) (by kernel_rfl) (by simp) ?_
  refine acons 4 rfl (fun K hK => ?_) ?_
  go_simp
  refine hK.out _ _ trivial (fun _ => ?_)
  clear hK K
  (try simp only [Act.put, List.setIfInBounds_toArray, List.set_cons_zero, List.set_cons_succ])
  refine rcons 8 rfl (by kernel_rfl) (fun K hK => ?_)
  go_simp
  refine hK.out _ _ trivial (fun _ => ?_)
  clear hK K
  (try simp only [Act.put, List.setIfInBounds_toArray, List.set_cons_zero, List.set_cons_succ])
  refine tky 9 (some 23) (v := ?_) rfl (by kernel_rfl) (by kernel_rfl) (by kernel_rfl) (fun _ _ _ h => h) ?_ hHeld ?_
  rotate_left
  focus (intro w hSw; go_simp; (try with_reducible rfl); done)
  simp only [Act.put, List.setIfInBounds_toArray, List.set_cons_zero, List.set_cons_succ]
  refine tky 15 (some 29) (v := ?_) rfl (by kernel_rfl) (by kernel_rfl) (by kernel_rfl) (fun _ _ _ h => h) ?_ hHeld ?_
  rotate_left
  focus (intro w hSw; go_simp; (try with_reducible rfl); done)
  simp only [Act.put, List.setIfInBounds_toArray, List.set_cons_zero, List.set_cons_succ]
  rotate_left
  refine acons 8 rfl (fun K hK => ?_) ?_
  go_simp
  refine hK.out _ _ trivial (fun _ => ?_)
  clear hK K
  (try simp only [Act.put, List.setIfInBounds_toArray, List.set_cons_zero, List.set_cons_succ])
  refine tky 9 (some 23) (v := ?_) rfl (by kernel_rfl) (by kernel_rfl) (by kernel_rfl) (fun _ _ _ h => h) ?_ hHeld ?_
  rotate_left
  focus (intro w hSw; go_simp; (try with_reducible rfl); done)
  simp only [Act.put, List.setIfInBounds_toArray, List.set_cons_zero, List.set_cons_succ]
  refine rcons 4 rfl (by kernel_rfl) (fun K hK => ?_)
  go_simp
  refine hK.out _ _ trivial (fun _ => ?_)
  clear hK K
  (try simp only [Act.put, List.setIfInBounds_toArray, List.set_cons_zero, List.set_cons_succ])
  refine tky 15 (some 29) (v := ?_) rfl (by kernel_rfl) (by kernel_rfl) (by kernel_rfl) (fun _ _ _ h => h) ?_ hHeld ?_
  rotate_left
  focus (intro w hSw; go_simp; (try with_reducible rfl); done)
  simp only [Act.put, List.setIfInBounds_toArray, List.set_cons_zero, List.set_cons_succ]
  rotate_left
  exact AllReadyH.nil
  exact AllReadyH.nil
  exact AllReadyH.nil
  all_goals
    refine rcons 20 rfl (by kernel_rfl) (fun K hK => ?_)
    rw [if_pos]
    rotate_left
    focus kernel_rfl
    refine wp_appendN _ _ rfl none 0 L HN.out rfl (by exact HSD.out) W.heap.size 1 ⟨k, s.data.toList, 0⟩ rfl (by exact HNEW.out) (by omega) ?_
    intro v' y6 hown hgrow
    obtain ⟨⟨c6, f6⟩, hfin⟩ := HFIN.out v' y6 hown hgrow
    obtain ⟨g6, n6, cap6, rfl, -, -, -⟩ := hown.formU (by simp)
    clear hown hgrow
    (try dsimp only)
    refine hK.out _ _ trivial (fun _ => ?_)
    clear hK K
    (try simp only [Act.put, List.setIfInBounds_toArray, List.set_cons_zero, List.set_cons_succ])
    refine tky 21 (some 35) (v := ?_) rfl (by kernel_rfl) (by kernel_rfl) (by kernel_rfl) (fun _ _ _ h => h) ?_ hHeld ?_
    rotate_left
    focus (intro w hSw; go_simp; (try with_reducible rfl); done)
    simp only [Act.put, List.setIfInBounds_toArray, List.set_cons_zero, List.set_cons_succ]
    refine tky 22 (some 36) (v := ?_) rfl (by kernel_rfl) (by kernel_rfl) (by kernel_rfl) (fun _ _ _ h => h) ?_ hHeld ?_
    rotate_left
    focus (intro w hSw; go_simp; (try with_reducible rfl); done)
    simp only [Act.put, List.setIfInBounds_toArray, List.set_cons_zero, List.set_cons_succ]
    refine rcons 23 rfl (by kernel_rfl) (fun K hK => ?_)
    go_simp
    refine hK.out _ _ trivial (fun _ => ?_)
    clear hK K
    (try simp only [Act.put, List.setIfInBounds_toArray, List.set_cons_zero, List.set_cons_succ])
    refine wpAnyH_done (by kernel_rfl) ?_ _
    go_wp2_with fail
    rw [rounds_succ]
    go_wp2_with fail
    go_end0
    exact ⟨rfl, ⟨_, hfin.1⟩, hfin.2⟩
end Go.Proofs.YtgaknbnhmoddcaaGreatDoor
namespace Go.Proofs.YtgaknbnhmoddcaaGreatDoor
open Go.RowKit
/-- What a variable holds, it holds behind a call that only makes blocks. -/
theorem var_stays_w {P : Program} {w w' : World} {n : String} {cs : Array Value} (hv : w.var? P n = some cs) (hb : Below w.heap.size w w') : w'.var? P n = some cs := by
  unfold World.var? at hv
  obtain ⟨g, hg, h2⟩ := Option.bind_eq_some_iff.1 hv
  have hlt : g < w.heap.size := by
    rcases Nat.lt_or_ge g w.heap.size with h | h
    · exact h
    · rw [Array.getElem?_eq_none h] at h2; cases h2
  unfold World.var?
  rw [hg]
  simp only [Option.bind_some]
  rw [hb.block g hlt]; exact h2
/-- What the library's table of powers holds. -/
def EnvT (w : World) : Prop := Lib.TabIs Tryz.prog w "internal/strconv.uint64pow10" .u64 Lib.pow10Tab
theorem below_grow (w : World) (k : Nat) (os : Array Obj) : Below w.heap.size w (Go.Sort.grow (w.drewN k) os) := by
  refine ⟨rfl, rfl, rfl, by show w.heap.size ≤ ((w.drewN k).heap ++ os).size; rw [Array.size_append]; exact Nat.le_add_right _ _, fun i hi => ?_⟩
  show ((w.drewN k).heap ++ os)[i]? = w.heap[i]?
  rw [Array.getElem?_append_left (show i < (w.drewN k).heap.size from hi)]; rfl
theorem EnvT.stays {w w' : World} (h : EnvT w) (hb : Below w.heap.size w w') : EnvT w' := var_stays_w h hb
set_option maxHeartbeats 400000 in
theorem write_tab (n : Int) (hr : R n) (w : World) (ht : EnvT w) :
    Calls Tryz.prog 65 #[.int .i64 n] w fun e w' => e = .returned (.string ⟨(Lib.itoa n).toArray⟩) ∧ Below w.heap.size w w' := by
  have HT := Lib.hid ht
  clear ht
  go_enter Tryz.func65, Tryz.ntmps65
  go_wp2_with fail
  refine (Tryz.strconv_FormatInt_10 n hr.1 hr.2 _ HT.out).mono ?_; rintro e w1 ⟨rfl, k, os, rfl⟩
  go_wp2_with fail
  go_ret
  exact ⟨rfl, below_grow _ _ _⟩
end Go.Proofs.YtgaknbnhmoddcaaGreatDoor
