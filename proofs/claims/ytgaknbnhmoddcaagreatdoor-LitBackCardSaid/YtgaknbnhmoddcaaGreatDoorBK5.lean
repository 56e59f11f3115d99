/- Walks and plain laws of this proof, joined from smaller texts (5). -/
import Derived.Lib.AppendZerosOnto
import Derived.Laws.IdiomCopy
import Derived.Maps.RangeWalk
import Derived.Laws.AppendOwnNone
import Derived.Deep.LoopGhost
import Derived.RangeFuncNested
import Derived.RangeFuncBound
import Derived.RangeFuncCalls
import Derived.RangeFuncLeaves
import Derived.Shelf.Abstract
import Derived.Shelf.RegionOpen
import Derived.WalkKit
import Derived.OwnWalkIn
import Derived.TacticsInMore
import Derived.LoopNIn
import Derived.LoopIn
import Derived.Test.YtgaknbnhmoddcaaGreatDoorRows
import Derived.WalkSpells
import Derived.Handy
import Derived.Lib.Hide
import Derived.Deep.Light
import Derived.Lib.ItoaLen
import Derived.Test.YtgaknbnhmoddcaaGreatDoorShelf
import Derived.ProofKit
import Derived.OpenShut
import Derived.Lib.SmallJoins
import Derived.Deep.Slices
import Derived.Deep.Fields
import Derived.ChangeSame
import Derived.Deep.SlicePairs
import Derived.Deep.DeepCutAuto
import Derived.Test.YtgaknbnhmoddcaaGreatDoorBK4
set_option linter.unusedSimpArgs false
set_option linter.unusedVariables false
namespace Go.Proofs.YtgaknbnhmoddcaaGreatDoor
open Go.RowKit Go.Lib
theorem OwnC.up {B B' : Nat} {v : Value} {L : List Cel} {W : World} (h : OwnC B v L W) (hb : ∀ j, v.ownBlock = some j → B' ≤ j) : OwnC B' v L W := by
  obtain ⟨h1, h2⟩ := h
  refine ⟨h1, ?_⟩
  rcases h2 with h2 | ⟨g, cap, cur, hv, hB, hrest⟩
  · exact Or.inl h2
  · exact Or.inr ⟨g, cap, cur, hv, hb g (by rw [hv]; rfl), hrest⟩
theorem OwnX.chg {α : Type} {T : TypeId} {Own Own' : Value → α → World → Prop} {B B' : Nat} {v : Value} {L : List (List UInt8 × α)} {W : World} (h : OwnX T Own B v L W) (hB : B' ≤ B) (hO : ∀ u x, Own u x W → Own' u x W) : OwnX T Own' B' v L W := by
  obtain ⟨U, h1, h2, h3⟩ := h
  refine ⟨U, h1, ⟨h2.1, ?_⟩, fun i hi hi' => ⟨(h3 i hi hi').1, hO _ _ (h3 i hi hi').2⟩⟩
  rcases h2.2 with h2 | ⟨g, cap, cur, hv, hB2, hrest⟩
  · exact Or.inl h2
  · exact Or.inr ⟨g, cap, cur, hv, by omega, hrest⟩
theorem OwnA.less {B B' : Nat} {v : Value} {L : List (List UInt8 × List Cel)} {W : World} (h : OwnA B v L W) (hB : B' ≤ B) : OwnA B' v L W := OwnX.chg h hB fun u x hx => hx.less hB
theorem OwnD.less {B B' : Nat} {v : Value} {L : List (List UInt8 × List (List UInt8 × List Cel))} {W : World} (h : OwnD B v L W) (hB : B' ≤ B) : OwnD B' v L W := OwnX.chg h hB fun u x hx => OwnA.less hx hB
theorem OwnC.setT {B A i : Nat} {v u : Value} {L : List Cel} {W : World} {cs : Array Value} {T : TypeId} (h : OwnC B v L W) (hA : W.heap[A]? = some (.cells cs T (0, 0))) (hT : T ≠ 63) : OwnC B v L (W.setCell ⟨A, i, none⟩ u) := by
  obtain ⟨h1, h2⟩ := h
  refine ⟨h1, ?_⟩
  rcases h2 with h2 | ⟨g, cap, cur, hv, hB, hgg, hrest⟩
  · exact Or.inl h2
  · refine Or.inr ⟨g, cap, cur, hv, hB, (Below.heap_setCell _ _ _ _ (fun e => ?_)).trans hgg, hrest⟩
    have e2 : g = A := e
    rw [e2, hA] at hgg
    injection hgg with hcs
    injection hcs with _ hcs _
    exact hT hcs
theorem OwnX.setT {α : Type} {T : TypeId} {Own : Value → α → World → Prop} {B A i : Nat} {v u : Value} {L : List (List UInt8 × α)} {W : World} (h : OwnX T Own B v L W) (hA : v.ownBlock ≠ some A) (hO : ∀ u2 x, Own u2 x W → Own u2 x (W.setCell ⟨A, i, none⟩ u)) : OwnX T Own B v L (W.setCell ⟨A, i, none⟩ u) := by
  obtain ⟨U, h1, h2, h3⟩ := h
  refine ⟨U, h1, ⟨h2.1, ?_⟩, fun i hi hi' => ⟨(h3 i hi hi').1, hO _ _ (h3 i hi hi').2⟩⟩
  rcases h2.2 with h2 | ⟨g, cap, cur, hv, hB, hgg, hrest⟩
  · exact Or.inl h2
  · exact Or.inr ⟨g, cap, cur, hv, hB, (Below.heap_setCell _ _ _ _ (fun e => hA (by rw [hv]; show some g = some A; rw [show g = A from e]))).trans hgg, hrest⟩
theorem RK.mkNew {p m : Nat} {w W W' : World} (h : RK p w W) (hm : MK p m W W') (hn : w.heap.size ≤ m) : RK p w W' := ⟨h.1.trans hm.1, fun k o hk hne => hm.2 k o (h.2 k o hk hne) hne (by have := heap_lt hk; omega)⟩
theorem RK.setNew {p A i : Nat} {u : Value} {w W : World} (h : RK p w W) (hp : p ≤ A) (hn : w.heap.size ≤ A) : RK p w (W.setCell ⟨A, i, none⟩ u) := ⟨h.1.setCell (p := ⟨A, i, none⟩) hp u, fun k o hk hne => by
  rw [Below.heap_setCell _ _ _ _ (by show k ≠ A; have := heap_lt hk; omega)]; exact h.2 k o hk hne⟩
theorem LS.grown_ {p tb off cap : Nat} {T : List Tok} {fx : Bool} {k : Nat} {op : Int} {v : Value} {W W' : World} {r : Option Nat} (h : LS p tb off cap T fx k op v W) (hg : W.grownBy W' r) (hr : ∀ j, r = some j → p < j) : LS p tb off cap T fx k op v W' := by
  have htb := h.2.2.1
  have hlt := h.lt
  exact h.same (hg.block p hlt (fun e => by have := hr p e.symm; omega)) (hg.block tb (by omega) (fun e => by have := hr tb e.symm; omega))
/-- What a reader's step leaves that makes a row; so many brackets are open as before. -/
def DoO {α : Type} (p tb off cap : Nat) (T : List Tok) (fx : Bool) (op : Int) (R : Except ErrP (Nat × α)) (G : α → Value → World → Prop) (W : World) (x : Ending) (W' : World) : Prop := match R with
  | .error e => x = .panicked (stopP e) ∧ Below p W W'
  | .ok (k', y) => ∃ a n c v, x = .returned (.slice a n c) ∧ G y (.slice a n c) W' ∧ LS p tb off cap T fx k' op v W' ∧ RK p W W'
theorem DoO.to {α : Type} {p tb off cap : Nat} {T : List Tok} {fx : Bool} {op : Int} {R : Except ErrP (Nat × α)} {G G' : α → Value → World → Prop} {W W' : World} {x : Ending} (h : DoO p tb off cap T fx op R G W x W') (hG : ∀ y u, G y u W' → G' y u W') : DoV p tb off cap T fx R G' W x W' := by
  cases R with
  | error e => exact h
  | ok y =>
    obtain ⟨k', y⟩ := y
    obtain ⟨a, n, c, v, h1, h2, h3, h4⟩ := h
    exact ⟨a, n, c, op, v, h1, hG _ _ h2, h3, h4⟩
theorem argG_end {fixed : Bool} {T : List Tok} {f : Nat} {nm : List (List UInt8)} {a : Nat} {acc : List (List UInt8 × List Cel)} (h0 : acc.isEmpty = false) (h : mrkP T a [41] = true) : argG fixed T (f + 1) nm a acc = .ok (a + 1, acc) := by
  unfold argG
  rw [h0, h]; rfl
theorem argG_go {fixed : Bool} {T : List Tok} {f : Nat} {nm : List (List UInt8)} {a : Nat} {acc : List (List UInt8 × List Cel)} (h : acc.isEmpty = true ∨ mrkP T a [41] = false) : argG fixed T (f + 1) nm a acc = match memP nm T a with
    | .error e => .error e
    | .ok (s, a1) => match litP fixed T a1 with
      | .error e => .error e
      | .ok (a2, v) => argG fixed T f (s :: nm) a2 (acc ++ [(s, v)]) := by
  conv => lhs; unfold argG
  rw [if_neg (by rcases h with h | h <;> rw [h] <;> simp)]
  rfl
theorem lit_on (fixed : Bool) (T : List Tok) (a m : Nat) (v : List Cel) (h : litP fixed T a = .ok (m, v)) : a < m ∧ m ≤ T.length := val_on fixed T 16 _ _ _ _ _ h
theorem sl_form {B : Nat} {v : Value} {L : List Cel} {W : World} (h : OwnC B v L W) : ∃ a n c, v = .slice a n c := by
  rcases h.2 with ⟨e1, _⟩ | ⟨g, cap, cur, e1, _⟩
  · exact ⟨_, _, _, e1⟩
  · exact ⟨_, _, _, e1⟩
end Go.Proofs.YtgaknbnhmoddcaaGreatDoor
namespace Go.Proofs.YtgaknbnhmoddcaaGreatDoor
open Go.RowKit Go.Lib
set_option maxRecDepth 100000 in
theorem l_args_none {p tb off cap : Nat} {T : List Tok} {fx : Bool} {k : Nat} {v : Value} (W : World) (h : LS p tb off cap T fx k 0 v W) (hk : k ≤ 100000) (hm : mrkP T k [40] = false) :
    Calls Tryz.prog 57 #[.pointer (some ⟨p, 0, none⟩)] W (DoO p tb off cap T fx 0 (.ok (k, [])) (fun L u W' => L.length ≤ 100000 ∧ OwnA W.heap.size u L W') W) := by
  have HM := Lib.hid (l_mark_not (what := ⟨#[40]⟩) hm W h hk)
  clear h
  go_enter Tryz.func57, Tryz.ntmps57
  go_wp2_with fail
  refine HM.out.mono ?_; rintro x w1 ⟨rfl, hst, hrk⟩
  have HL := Lib.hid hst
  have HK := Lib.hid hrk
  clear hst hrk
  go_wp2_with fail
  go_returns
  exact ⟨none, 0, 0, v, rfl, ⟨Nat.zero_le _, OwnX.nil _⟩, HL.out, HK.out⟩
set_option maxRecDepth 100000 in
set_option maxHeartbeats 8000000 in
theorem l_args_go {p tb off cap : Nat} {T : List Tok} {fx : Bool} {k : Nat} {v : Value} (W : World) (h : LS p tb off cap T fx k 0 v W) (hm : mrkP T k [40] = true) (hE : ∀ W', Below p W W' → Env W') :
    Calls Tryz.prog 57 #[.pointer (some ⟨p, 0, none⟩)] W (DoO p tb off cap T fx 0 (argG fx T (T.length + 1) [] (k + 1) []) (fun L u W' => L.length ≤ 100000 ∧ OwnA W.heap.size u L W') W) := by
  have hT8 := h.2.2.2.1.1
  have hkT := mrk_lt hm
  have HM := Lib.hid (l_mark_yes (what := ⟨#[40]⟩) hm W h (by omega))
  have HEE := Lib.hid hE
  have hpl := h.lt
  obtain ⟨Z, hZ⟩ : ∃ Z, argG fx T (T.length + 1) [] (k + 1) [] = Z := ⟨_, rfl⟩
  have HZ0 := Lib.hid hZ
  rw [hZ]
  have hmm := @run_makeMap Tryz.prog
  clear h hm hE hZ
  go_enter Tryz.func57, Tryz.ntmps57
  go_wp2_with fail
  refine HM.out.mono ?_; rintro x w1 ⟨rfl, hst, hrk⟩
  obtain ⟨bm, hbm⟩ : ∃ bm, w1.heap.size = bm := ⟨_, rfl⟩
  obtain ⟨w2, hw2⟩ : ∃ w2, w1.alloc (.map #[] 0) = w2 := ⟨_, rfl⟩
  have hb2 : Below w1.heap.size w1 w2 := by rw [← hw2]; exact (Below.refl _ _).alloc (Nat.le_refl _) _
  have HL2 := Lib.hid (hst.below hb2)
  have HN2 : Hid (NamesM bm [] w2) := Lib.hid (by rw [← hw2, ← hbm]; exact NamesM.made w1)
  have HR2 := Lib.hid (hrk.trans (RK.of_below hb2 hst.lt))
  have hbW : W.heap.size ≤ bm := by rw [← hbm]; exact hrk.1.size
  have hpb : p < bm := by omega
  have HW2 := Lib.hid hw2
  have HBM := Lib.hid hbm
  clear hst hrk hb2 hw2 hbm
  go_wp2_with fail
  try rw [HW2.out]
  try simp only [HBM.out]
  go_loopg [2, 4] (T.length + 1) (fun gk lv av wr => ∃ (nm : List (List UInt8)) (k1 : Nat) (acc : List (List UInt8 × List Cel)) (v1 : Value) (la : Option Addr) (lc : Nat), lv = .slice la acc.length lc ∧ k1 ≤ T.length ∧ T.length + 1 < gk + k1 ∧ nm.length ≤ acc.length ∧ acc.length ≤ k1 ∧ Hid (OwnA (bm + 1) (.slice la acc.length lc) acc wr) ∧ Hid (LS p tb off cap T fx k1 0 v1 wr) ∧ Hid (NamesM bm nm wr) ∧ Hid (RK p W wr) ∧ Hid (argG fx T gk nm k1 acc = Z))
  case atStart => exact ⟨[], k + 1, [], v, none, 0, rfl, by omega, by omega, Nat.le_refl _, by simp, Lib.hid (OwnX.nil _), HL2, HN2, HR2, HZ0⟩
  case round =>
    clear HL2 HN2 HR2 HZ0 hmm HM HW2
    rename World => wr
    obtain ⟨nm, k1, acc, v1, la, lc, rfl, hkT1, hg, hnm, hac, HOA, HLS, HNM, HRK, HQ⟩ := hrel
    obtain ⟨g, rfl⟩ : ∃ g, gk = g + 1 := ⟨gk - 1, by omega⟩
    obtain ⟨ln, hln⟩ : ∃ ln, acc.length = ln := ⟨_, rfl⟩
    rw [hln] at HOA ⊢
    have hln9 : ln ≤ 100000 := by omega
    cases he : acc.isEmpty with
    | true =>
      have hl0 : ln = 0 := by rw [← hln]; simpa using he
      have hq := HQ.out
      rw [argG_go (Or.inl he)] at hq
      have HQ := Lib.hid hq
      subst hl0
      clear hq
      go_wp2_with fail
      cases hna : namP nm T k1 with
      | error e =>
        have hme : memP nm T k1 = .error e := by unfold memP; rw [hna]
        have HZ : Hid (.error e = Z) := Lib.hid (by have := HQ.out; simp only [hme] at this; exact this)
        refine (l_name_not bm nm hna _ HLS.out (by omega) HNM.out hpb (by omega)).mono ?_; rintro x w4 ⟨rfl, hb⟩
        have HB4 := Lib.hid (HRK.out.1.trans hb)
        clear hb hna hme HQ
        go_wp2_with fail
        refine ⟨rfl, ?_⟩
        rw [← HZ.out]
        exact ⟨rfl, HB4.out⟩
      | ok s =>
        have hk2 := (nam_lt hna).1
        have hme : memP nm T k1 = if mrkP T (k1 + 1) [58] then .ok (s, k1 + 2) else .error (180, k1 + 1) := by unfold memP; rw [hna]
        refine (l_name_yes bm nm hna _ HLS.out (by omega) HNM.out hpb (by omega)).mono ?_; rintro x w4 ⟨rfl, hst, hnm4, hmk⟩
        have HO4 := Lib.hid (HOA.out.kp (Kp.mk hmk (by omega) (Nat.lt_succ_self bm)))
        have HR4 := Lib.hid (HRK.out.mkNew hmk hbW)
        obtain ⟨sb, hsb⟩ : ∃ sb : ByteArray, (⟨s.toArray⟩ : ByteArray) = sb := ⟨_, rfl⟩
        have hsl : sb.data.toList = s := by rw [← hsb]
        rw [hsb]
        obtain ⟨A, hA⟩ : ∃ A, w4.heap.size = A := ⟨_, rfl⟩
        obtain ⟨w5, hw5⟩ : ∃ w5, w4.alloc (.cells #[.string sb, .slice none 0 0] 65 (0, 0)) = w5 := ⟨_, rfl⟩
        have hb5 : Below w4.heap.size w4 w5 := by rw [← hw5]; exact (Below.refl _ _).alloc (Nat.le_refl _) _
        have HA5 : Hid (w5.heap[A]? = some (.cells #[.string sb, .slice none 0 0] 65 (0, 0))) := Lib.hid (by rw [← hw5, ← hA]; exact heap_alloc_last _ _)
        have HL5 := Lib.hid (hst.below hb5)
        have HN5 := Lib.hid (hnm4.below hb5)
        have HO5 := Lib.hid (HO4.out.kp (Kp.below hb5))
        have HR5 := Lib.hid (HR4.out.trans (RK.of_below hb5 hst.lt))
        have hbA : bm < A := by rw [← hA]; exact hnm4.lt
        have hoA : ∀ j, (Value.slice la 0 lc).ownBlock = some j → j < A := fun j hj => by rw [← hA]; exact (HO4.out.blk j hj).2
        have HW5 := Lib.hid hw5
        have HA_ := Lib.hid hA
        clear hst hnm4 hmk hna hsb hb5 hw5 hA
        go_wp2_with fail
        rw [HW5.out, HA_.out]
        clear HW5 HA_
        cases hc : mrkP T (k1 + 1) [58] with
        | false =>
          rw [hc] at hme
          have HZ : Hid (.error (180, k1 + 1) = Z) := Lib.hid (by have := HQ.out; simp only [hme, Bool.false_eq_true, if_false] at this; exact this)
          refine (l_must_not (what := ⟨#[58]⟩) hc _ HL5.out (by omega)).mono ?_; rintro x w6 ⟨rfl, hb⟩
          have HB6 := Lib.hid (HR5.out.1.trans hb)
          clear hb hc hme HQ
          go_wp2_with fail
          refine ⟨rfl, ?_⟩
          rw [← HZ.out]
          exact ⟨rfl, HB6.out⟩
        | true =>
          have hcT := mrk_lt hc
          rw [hc] at hme
          simp only [if_true, hme] at HQ
          refine (l_must_yes (what := ⟨#[58]⟩) hc _ HL5.out (by omega)).mono ?_; rintro x w6 ⟨rfl, hst, hrk6⟩
          have HL6 : Hid (LS p tb off cap T fx (k1 + 2) 0 v1 w6) := Lib.hid hst
          have HN6 := Lib.hid (HN5.out.rk hrk6 (by omega))
          have HO6 := Lib.hid (HO5.out.kp (Kp.rk hrk6 (by omega)))
          have HR6 := Lib.hid (HR5.out.trans hrk6)
          have HA6 := Lib.hid (hrk6.2 A _ HA5.out (by omega))
          have hA6 := heap_lt HA6.out
          clear hst hrk6 hc hme
          go_wp2_with fail
          have HLT := Lib.hid (l_literal w6 HL6.out (by omega) (fun W' hb => HEE.out W' (HR6.out.1.trans hb)))
          cases hx : litP fx T (k1 + 2) with
          | error e =>
            rw [hx] at HLT
            have HZ : Hid (.error e = Z) := Lib.hid (by have := HQ.out; simp only [hx] at this; exact this)
            clear hx HQ
            refine HLT.out.mono ?_; rintro x w7 hx7
            obtain ⟨hxe, hbb⟩ : x = .panicked (stopP e) ∧ Below p w6 w7 := hx7
            have HBB := Lib.hid (HR6.out.1.trans hbb)
            clear hbb
            subst hxe
            go_wp2_with fail
            refine ⟨rfl, ?_⟩
            rw [← HZ.out]
            exact ⟨rfl, HBB.out⟩
          | ok y =>
            obtain ⟨k4, out4⟩ := y
            obtain ⟨hk4, hk4T⟩ := lit_on fx T _ _ _ hx
            have HQ4 : Hid (argG fx T g (s :: nm) k4 (acc ++ [(s, out4)]) = Z) := Lib.hid (by have := HQ.out; simp only [hx] at this; exact this)
            rw [hx] at HLT
            clear hx HQ
            refine HLT.out.mono ?_; rintro x w7 hx7
            obtain ⟨hl4, v4, hxe, hls7, hoc7, hrk7, hob7⟩ : out4.length ≤ 2048 ∧ ∃ v, x = .returned v ∧ LS p tb off cap T fx k4 0 v w7 ∧ OwnC (p + 1) v out4 w7 ∧ RK p w6 w7 ∧ ∀ j, v.ownBlock = some j → w6.heap.size ≤ j := hx7
            obtain ⟨a4, n4, c4, rfl⟩ := sl_form hoc7
            have HC7 : Hid (OwnC (bm + 1) (.slice a4 n4 c4) out4 w7) := Lib.hid (hoc7.up fun j hj => by have := hob7 j hj; omega)
            have HL7 := Lib.hid hls7
            have HN7 := Lib.hid (HN6.out.rk hrk7 (by omega))
            have HO7 := Lib.hid (HO6.out.kp (Kp.rk hrk7 (by omega)))
            have HR7 := Lib.hid (HR6.out.trans hrk7)
            have HA7 := Lib.hid (hrk7.2 A _ HA6.out (by omega))
            clear hls7 hoc7 hrk7 hob7 HLT HA5 HA6
            subst hxe
            obtain ⟨w8, hw8⟩ : ∃ w8, w7.setCell ⟨A, 1, none⟩ (.slice a4 n4 c4) = w8 := ⟨_, rfl⟩
            have hAp : A ≠ p := by omega
            have HA8 : Hid (w8.heap[A]? = some (.cells #[.string sb, .slice a4 n4 c4] 65 (0, 0))) := Lib.hid (by rw [← hw8]; exact pset HA7.out _ rfl)
            have HL8 : Hid (LS p tb off cap T fx k4 0 (.slice a4 n4 c4) w8) := Lib.hid (by
              have := HL7.out.2.2.1
              rw [← hw8]
              exact HL7.out.same (Below.heap_setCell _ _ _ _ (by show p ≠ A; omega)) (Below.heap_setCell _ _ _ _ (by show tb ≠ A; omega)))
            have HN8 : Hid (NamesM bm (s :: nm) w8) := Lib.hid (by rw [← hw8]; exact HN7.out.keep (Below.heap_setCell _ _ _ _ (by show bm ≠ A; omega)))
            have HC8 : Hid (OwnC (bm + 1) (.slice a4 n4 c4) out4 w8) := Lib.hid (by rw [← hw8]; exact HC7.out.setT HA7.out (by decide))
            have HO8 : Hid (OwnA (bm + 1) (.slice la 0 lc) acc w8) := Lib.hid (by rw [← hw8]; exact OwnX.setT HO7.out (fun e => by have := hoA A e; omega) fun u2 x hx => hx.setT HA7.out (by decide))
            have HR8 : Hid (RK p W w8) := Lib.hid (by rw [← hw8]; exact HR7.out.setNew (by omega) (by omega))
            have HW8 := Lib.hid hw8
            obtain ⟨w9, hw9⟩ : ∃ w9, w8.alloc (.cells #[.string sb, .slice a4 n4 c4] 65 (0, 0)) = w9 := ⟨_, rfl⟩
            have hb9 : Below w8.heap.size w8 w9 := by rw [← hw9]; exact (Below.refl _ _).alloc (Nat.le_refl _) _
            have HL9 := Lib.hid (HL8.out.below hb9)
            have HN9 := Lib.hid (HN8.out.below hb9)
            have HC9 := Lib.hid (HC8.out.kp (Kp.below hb9))
            have HO9 := Lib.hid (HO8.out.kp (Kp.below hb9))
            have HR9 := Lib.hid (HR8.out.trans (RK.of_below hb9 HL8.out.lt))
            have HNEW : Hid (w9.heap[w8.heap.size]? = some (.cells #[.string sb, .slice a4 n4 c4] 65 (0, 0))) := Lib.hid (by rw [← hw9]; exact heap_alloc_last _ _)
            have hsz9 : bm + 1 ≤ w9.heap.size := HN9.out.lt
            have HW9 := Lib.hid hw9
            have s1 : w7.frozen? ⟨A, 1, none⟩ = false := Lib.frozen_of_heap HA7.out 1
            have d0 : w7.cell? ⟨A, 0, none⟩ = some (.string sb) := by rw [Lib.cell_of_heap HA7.out]; rfl
            have d1 : w7.cell? ⟨A, 1, none⟩ = some (.slice none 0 0) := by rw [Lib.cell_of_heap HA7.out]; rfl
            have d2 : w8.cell? ⟨A, 0, none⟩ = some (.string sb) := by rw [Lib.cell_of_heap HA8.out]; rfl
            have d3 : w8.cell? ⟨A, 1, none⟩ = some (.slice a4 n4 c4) := by rw [Lib.cell_of_heap HA8.out]; rfl
            clear hb9 hw9 hw8 HA7 HA8 HL7 HN7 HO7 HC7 HR7
            have hs87 : w8.heap.size = w7.heap.size := by rw [← HW8.out]; simp
            rw [hs87] at HNEW
            have HSL := Lib.hid hsl
            clear hsl
            go_wp2_with (at_builtin; refine wpList_pushA rfl _ _ rfl (bm + 1) (.slice la 0 lc) acc rfl (by rw [HW8.out, HW9.out]; exact HO9.out) w7.heap.size 1 sb (.slice a4 n4 c4) out4 rfl (by rw [HW8.out, HW9.out]; exact HNEW.out) ⟨_, _, _, rfl⟩ (by rw [HW8.out, HW9.out]; exact HC9.out) (by omega) (by rw [HW8.out, HW9.out]; exact hsz9) ?_)
            intro v' w10 hown' hgrow hat
            rw [HW8.out, HW9.out] at hgrow
            rw [HSL.out] at hown'
            have hob : ∀ j, (Value.slice la 0 lc).ownBlock = some j → bm + 1 ≤ j := fun j hj => (HO9.out.blk j hj).1
            have HL10 := Lib.hid (HL9.out.grown_ hgrow (fun j hj => by have := hob j hj; omega))
            have HN10 := Lib.hid (HN9.out.grown hgrow (fun e => by have := hob bm e.symm; omega))
            have HR10 := Lib.hid (RK.grown HR9.out hgrow (fun j hj => by have := hob j hj; omega) hpl)
            obtain ⟨la', lc', hv'⟩ := OwnX.form hown'
            subst hv'
            have HO10 : Hid (OwnA (bm + 1) (.slice la' (acc ++ [(s, out4)]).length lc') (acc ++ [(s, out4)]) w10) := Lib.hid hown'
            have hlen : (acc ++ [(s, out4)]).length = acc.length + 1 := by simp
            clear hown' hgrow hat hob d0 d1 d2 d3 s1
            go_wp2_with fail
            go_roundg g
            case measure => omega
            case rel => exact ⟨s :: nm, k4, acc ++ [(s, out4)], _, la', lc', rfl, hk4T, by omega, by rw [hlen]; simp; omega, by rw [hlen]; omega, HO10, HL10, HN10, HR10, HQ4⟩
    | false =>
      have t0 : ((ln : Int) == 0) = false := by
        rw [beq_eq_false_iff_ne]
        intro e
        have : acc.length = 0 := by omega
        rw [List.length_eq_zero_iff.1 this] at he
        cases he
      cases ht : mrkP T k1 [41] with
      | true =>
        have hkT2 := mrk_lt ht
        have HZ : Hid (.ok (k1 + 1, acc) = Z) := Lib.hid (by rw [← HQ.out]; exact (argG_end he ht).symm)
        have HAC : Hid (acc.length ≤ 100000) := Lib.hid (by omega)
        clear HQ
        go_wp2_with fail
        refine (l_mark_yes (what := ⟨#[41]⟩) ht _ HLS.out (by omega)).mono ?_; rintro x w3 ⟨rfl, hst, hrk3⟩
        have HL3 := Lib.hid hst
        have HR3 := Lib.hid (HRK.out.trans hrk3)
        have HO3 := Lib.hid (HOA.out.kp (Kp.rk hrk3 (by omega)))
        clear hst hrk3 ht
        go_wp2_with fail
        go_returns
        rw [← HZ.out]
        exact ⟨la, ln, lc, v1, rfl, ⟨HAC.out, HO3.out.less (by omega)⟩, HL3.out, HR3.out⟩
      | false =>
        have hq := HQ.out
        rw [argG_go (Or.inr ht)] at hq
        have HQ := Lib.hid hq
        clear hq
        go_wp2_with fail
        refine (l_mark_not (what := ⟨#[41]⟩) ht _ HLS.out (by omega)).mono ?_; rintro x w3 ⟨rfl, hst, hrk3⟩
        have HL3 := Lib.hid hst
        have HR3 := Lib.hid (HRK.out.trans hrk3)
        have HO3 := Lib.hid (HOA.out.kp (Kp.rk hrk3 (by omega)))
        have HN3 := Lib.hid (HNM.out.rk hrk3 (by omega))
        clear hst hrk3 ht
        go_wp2_with fail
        cases hna : namP nm T k1 with
        | error e =>
          have hme : memP nm T k1 = .error e := by unfold memP; rw [hna]
          have HZ : Hid (.error e = Z) := Lib.hid (by have := HQ.out; simp only [hme] at this; exact this)
          refine (l_name_not bm nm hna _ HL3.out (by omega) HN3.out hpb (by omega)).mono ?_; rintro x w4 ⟨rfl, hb⟩
          have HB4 := Lib.hid (HR3.out.1.trans hb)
          clear hb hna hme HQ
          go_wp2_with fail
          refine ⟨rfl, ?_⟩
          rw [← HZ.out]
          exact ⟨rfl, HB4.out⟩
        | ok s =>
          have hk2 := (nam_lt hna).1
          have hme : memP nm T k1 = if mrkP T (k1 + 1) [58] then .ok (s, k1 + 2) else .error (180, k1 + 1) := by unfold memP; rw [hna]
          refine (l_name_yes bm nm hna _ HL3.out (by omega) HN3.out hpb (by omega)).mono ?_; rintro x w4 ⟨rfl, hst, hnm4, hmk⟩
          have HO4 := Lib.hid (HO3.out.kp (Kp.mk hmk (by omega) (Nat.lt_succ_self bm)))
          have HR4 := Lib.hid (HR3.out.mkNew hmk hbW)
          obtain ⟨sb, hsb⟩ : ∃ sb : ByteArray, (⟨s.toArray⟩ : ByteArray) = sb := ⟨_, rfl⟩
          have hsl : sb.data.toList = s := by rw [← hsb]
          rw [hsb]
          obtain ⟨A, hA⟩ : ∃ A, w4.heap.size = A := ⟨_, rfl⟩
          obtain ⟨w5, hw5⟩ : ∃ w5, w4.alloc (.cells #[.string sb, .slice none 0 0] 65 (0, 0)) = w5 := ⟨_, rfl⟩
          have hb5 : Below w4.heap.size w4 w5 := by rw [← hw5]; exact (Below.refl _ _).alloc (Nat.le_refl _) _
          have HA5 : Hid (w5.heap[A]? = some (.cells #[.string sb, .slice none 0 0] 65 (0, 0))) := Lib.hid (by rw [← hw5, ← hA]; exact heap_alloc_last _ _)
          have HL5 := Lib.hid (hst.below hb5)
          have HN5 := Lib.hid (hnm4.below hb5)
          have HO5 := Lib.hid (HO4.out.kp (Kp.below hb5))
          have HR5 := Lib.hid (HR4.out.trans (RK.of_below hb5 hst.lt))
          have hbA : bm < A := by rw [← hA]; exact hnm4.lt
          have hoA : ∀ j, (Value.slice la ln lc).ownBlock = some j → j < A := fun j hj => by rw [← hA]; exact (HO4.out.blk j hj).2
          have HW5 := Lib.hid hw5
          have HA_ := Lib.hid hA
          clear hst hnm4 hmk hna hsb hb5 hw5 hA
          go_wp2_with fail
          rw [HW5.out, HA_.out]
          clear HW5 HA_
          cases hc : mrkP T (k1 + 1) [58] with
          | false =>
            rw [hc] at hme
            have HZ : Hid (.error (180, k1 + 1) = Z) := Lib.hid (by have := HQ.out; simp only [hme, Bool.false_eq_true, if_false] at this; exact this)
            refine (l_must_not (what := ⟨#[58]⟩) hc _ HL5.out (by omega)).mono ?_; rintro x w6 ⟨rfl, hb⟩
            have HB6 := Lib.hid (HR5.out.1.trans hb)
            clear hb hc hme HQ
            go_wp2_with fail
            refine ⟨rfl, ?_⟩
            rw [← HZ.out]
            exact ⟨rfl, HB6.out⟩
          | true =>
            have hcT := mrk_lt hc
            rw [hc] at hme
            simp only [if_true, hme] at HQ
            refine (l_must_yes (what := ⟨#[58]⟩) hc _ HL5.out (by omega)).mono ?_; rintro x w6 ⟨rfl, hst, hrk6⟩
            have HL6 : Hid (LS p tb off cap T fx (k1 + 2) 0 v1 w6) := Lib.hid hst
            have HN6 := Lib.hid (HN5.out.rk hrk6 (by omega))
            have HO6 := Lib.hid (HO5.out.kp (Kp.rk hrk6 (by omega)))
            have HR6 := Lib.hid (HR5.out.trans hrk6)
            have HA6 := Lib.hid (hrk6.2 A _ HA5.out (by omega))
            have hA6 := heap_lt HA6.out
            clear hst hrk6 hc hme
            go_wp2_with fail
            have HLT := Lib.hid (l_literal w6 HL6.out (by omega) (fun W' hb => HEE.out W' (HR6.out.1.trans hb)))
            cases hx : litP fx T (k1 + 2) with
            | error e =>
              rw [hx] at HLT
              have HZ : Hid (.error e = Z) := Lib.hid (by have := HQ.out; simp only [hx] at this; exact this)
              clear hx HQ
              refine HLT.out.mono ?_; rintro x w7 hx7
              obtain ⟨hxe, hbb⟩ : x = .panicked (stopP e) ∧ Below p w6 w7 := hx7
              have HBB := Lib.hid (HR6.out.1.trans hbb)
              clear hbb
              subst hxe
              go_wp2_with fail
              refine ⟨rfl, ?_⟩
              rw [← HZ.out]
              exact ⟨rfl, HBB.out⟩
            | ok y =>
              obtain ⟨k4, out4⟩ := y
              obtain ⟨hk4, hk4T⟩ := lit_on fx T _ _ _ hx
              have HQ4 : Hid (argG fx T g (s :: nm) k4 (acc ++ [(s, out4)]) = Z) := Lib.hid (by have := HQ.out; simp only [hx] at this; exact this)
              rw [hx] at HLT
              clear hx HQ
              refine HLT.out.mono ?_; rintro x w7 hx7
              obtain ⟨hl4, v4, hxe, hls7, hoc7, hrk7, hob7⟩ : out4.length ≤ 2048 ∧ ∃ v, x = .returned v ∧ LS p tb off cap T fx k4 0 v w7 ∧ OwnC (p + 1) v out4 w7 ∧ RK p w6 w7 ∧ ∀ j, v.ownBlock = some j → w6.heap.size ≤ j := hx7
              obtain ⟨a4, n4, c4, rfl⟩ := sl_form hoc7
              have HC7 : Hid (OwnC (bm + 1) (.slice a4 n4 c4) out4 w7) := Lib.hid (hoc7.up fun j hj => by have := hob7 j hj; omega)
              have HL7 := Lib.hid hls7
              have HN7 := Lib.hid (HN6.out.rk hrk7 (by omega))
              have HO7 := Lib.hid (HO6.out.kp (Kp.rk hrk7 (by omega)))
              have HR7 := Lib.hid (HR6.out.trans hrk7)
              have HA7 := Lib.hid (hrk7.2 A _ HA6.out (by omega))
              clear hls7 hoc7 hrk7 hob7 HLT HA5 HA6
              subst hxe
              obtain ⟨w8, hw8⟩ : ∃ w8, w7.setCell ⟨A, 1, none⟩ (.slice a4 n4 c4) = w8 := ⟨_, rfl⟩
              have hAp : A ≠ p := by omega
              have HA8 : Hid (w8.heap[A]? = some (.cells #[.string sb, .slice a4 n4 c4] 65 (0, 0))) := Lib.hid (by rw [← hw8]; exact pset HA7.out _ rfl)
              have HL8 : Hid (LS p tb off cap T fx k4 0 (.slice a4 n4 c4) w8) := Lib.hid (by
                have := HL7.out.2.2.1
                rw [← hw8]
                exact HL7.out.same (Below.heap_setCell _ _ _ _ (by show p ≠ A; omega)) (Below.heap_setCell _ _ _ _ (by show tb ≠ A; omega)))
              have HN8 : Hid (NamesM bm (s :: nm) w8) := Lib.hid (by rw [← hw8]; exact HN7.out.keep (Below.heap_setCell _ _ _ _ (by show bm ≠ A; omega)))
              have HC8 : Hid (OwnC (bm + 1) (.slice a4 n4 c4) out4 w8) := Lib.hid (by rw [← hw8]; exact HC7.out.setT HA7.out (by decide))
              have HO8 : Hid (OwnA (bm + 1) (.slice la ln lc) acc w8) := Lib.hid (by rw [← hw8]; exact OwnX.setT HO7.out (fun e => by have := hoA A e; omega) fun u2 x hx => hx.setT HA7.out (by decide))
              have HR8 : Hid (RK p W w8) := Lib.hid (by rw [← hw8]; exact HR7.out.setNew (by omega) (by omega))
              have HW8 := Lib.hid hw8
              obtain ⟨w9, hw9⟩ : ∃ w9, w8.alloc (.cells #[.string sb, .slice a4 n4 c4] 65 (0, 0)) = w9 := ⟨_, rfl⟩
              have hb9 : Below w8.heap.size w8 w9 := by rw [← hw9]; exact (Below.refl _ _).alloc (Nat.le_refl _) _
              have HL9 := Lib.hid (HL8.out.below hb9)
              have HN9 := Lib.hid (HN8.out.below hb9)
              have HC9 := Lib.hid (HC8.out.kp (Kp.below hb9))
              have HO9 := Lib.hid (HO8.out.kp (Kp.below hb9))
              have HR9 := Lib.hid (HR8.out.trans (RK.of_below hb9 HL8.out.lt))
              have HNEW : Hid (w9.heap[w8.heap.size]? = some (.cells #[.string sb, .slice a4 n4 c4] 65 (0, 0))) := Lib.hid (by rw [← hw9]; exact heap_alloc_last _ _)
              have hsz9 : bm + 1 ≤ w9.heap.size := HN9.out.lt
              have HW9 := Lib.hid hw9
              have s1 : w7.frozen? ⟨A, 1, none⟩ = false := Lib.frozen_of_heap HA7.out 1
              have d0 : w7.cell? ⟨A, 0, none⟩ = some (.string sb) := by rw [Lib.cell_of_heap HA7.out]; rfl
              have d1 : w7.cell? ⟨A, 1, none⟩ = some (.slice none 0 0) := by rw [Lib.cell_of_heap HA7.out]; rfl
              have d2 : w8.cell? ⟨A, 0, none⟩ = some (.string sb) := by rw [Lib.cell_of_heap HA8.out]; rfl
              have d3 : w8.cell? ⟨A, 1, none⟩ = some (.slice a4 n4 c4) := by rw [Lib.cell_of_heap HA8.out]; rfl
              clear hb9 hw9 hw8 HA7 HA8 HL7 HN7 HO7 HC7 HR7
              have hs87 : w8.heap.size = w7.heap.size := by rw [← HW8.out]; simp
              rw [hs87] at HNEW
              have HSL := Lib.hid hsl
              clear hsl
              go_wp2_with (at_builtin; refine wpList_pushA rfl _ _ rfl (bm + 1) (.slice la ln lc) acc rfl (by rw [HW8.out, HW9.out]; exact HO9.out) w7.heap.size 1 sb (.slice a4 n4 c4) out4 rfl (by rw [HW8.out, HW9.out]; exact HNEW.out) ⟨_, _, _, rfl⟩ (by rw [HW8.out, HW9.out]; exact HC9.out) (by omega) (by rw [HW8.out, HW9.out]; exact hsz9) ?_)
              intro v' w10 hown' hgrow hat
              rw [HW8.out, HW9.out] at hgrow
              rw [HSL.out] at hown'
              have hob : ∀ j, (Value.slice la ln lc).ownBlock = some j → bm + 1 ≤ j := fun j hj => (HO9.out.blk j hj).1
              have HL10 := Lib.hid (HL9.out.grown_ hgrow (fun j hj => by have := hob j hj; omega))
              have HN10 := Lib.hid (HN9.out.grown hgrow (fun e => by have := hob bm e.symm; omega))
              have HR10 := Lib.hid (RK.grown HR9.out hgrow (fun j hj => by have := hob j hj; omega) hpl)
              obtain ⟨la', lc', hv'⟩ := OwnX.form hown'
              subst hv'
              have HO10 : Hid (OwnA (bm + 1) (.slice la' (acc ++ [(s, out4)]).length lc') (acc ++ [(s, out4)]) w10) := Lib.hid hown'
              have hlen : (acc ++ [(s, out4)]).length = acc.length + 1 := by simp
              clear hown' hgrow hat hob d0 d1 d2 d3 s1
              go_wp2_with fail
              go_roundg g
              case measure => omega
              case rel => exact ⟨s :: nm, k4, acc ++ [(s, out4)], _, la', lc', rfl, hk4T, by omega, by rw [hlen]; simp; omega, by rw [hlen]; omega, HO10, HL10, HN10, HR10, HQ4⟩
theorem l_args {p tb off cap : Nat} {T : List Tok} {fx : Bool} {k : Nat} {v : Value} (W : World) (h : LS p tb off cap T fx k 0 v W) (hk : k ≤ 100000) (hE : ∀ W', Below p W W' → Env W') :
    Calls Tryz.prog 57 #[.pointer (some ⟨p, 0, none⟩)] W (DoO p tb off cap T fx 0 (argsP fx T k) (fun L u W' => L.length ≤ 100000 ∧ OwnA W.heap.size u L W') W) := by
  unfold argsP
  cases hm : mrkP T k [40] with
  | false => exact l_args_none W h hk hm
  | true => exact l_args_go W h hm hE
end Go.Proofs.YtgaknbnhmoddcaaGreatDoor
namespace Go.Proofs.YtgaknbnhmoddcaaGreatDoor
open Go.RowKit Go.Lib
theorem OwnA.setT {B A i : Nat} {v u : Value} {L : List (List UInt8 × List Cel)} {W : World} {cs : Array Value} {T : TypeId} (h : OwnA B v L W) (hA : W.heap[A]? = some (.cells cs T (0, 0))) (hT : T ≠ 65) (hT2 : T ≠ 63) : OwnA B v L (W.setCell ⟨A, i, none⟩ u) := by
  refine OwnX.setT h (fun e => ?_) fun u2 x hx => hx.setT hA hT2
  obtain ⟨cs2, h2⟩ := OwnX.row h A e
  rw [hA] at h2
  injection h2 with h2
  injection h2 with _ h2 _
  exact hT h2
theorem argG_on (fixed : Bool) (T : List Tok) : ∀ (f : Nat) (nm : List (List UInt8)) (a : Nat) (acc : List (List UInt8 × List Cel)) (m : Nat) (r : List (List UInt8 × List Cel)), argG fixed T f nm a acc = .ok (m, r) → a < m ∧ m ≤ T.length
  | 0, _, _, _, _, _, h => by cases h
  | f + 1, nm, a, acc, m, r, h => by
    by_cases hc : acc.isEmpty = false ∧ mrkP T a [41] = true
    · rw [argG_end hc.1 hc.2] at h
      injection h with h
      injection h with h1 h2
      have := mrk_lt hc.2
      omega
    · have hc2 : acc.isEmpty = true ∨ mrkP T a [41] = false := by
        cases he : acc.isEmpty with
        | true => exact Or.inl rfl
        | false =>
          cases hm : mrkP T a [41] with
          | true => exact absurd ⟨he, hm⟩ hc
          | false => exact Or.inr rfl
      rw [argG_go hc2] at h
      cases hm : memP nm T a with
      | error e => rw [hm] at h; cases h
      | ok sa =>
        obtain ⟨s, a1⟩ := sa
        rw [hm] at h
        dsimp only at h
        have h1 := mem_lt hm
        cases hx : litP fixed T a1 with
        | error e => rw [hx] at h; cases h
        | ok y =>
          obtain ⟨a2, v⟩ := y
          rw [hx] at h
          have h2 := lit_on fixed T _ _ _ hx
          have h3 := argG_on fixed T f _ _ _ _ _ h
          omega
theorem args_on (fixed : Bool) (T : List Tok) (a m : Nat) (r : List (List UInt8 × List Cel)) (ha : a ≤ T.length) (h : argsP fixed T a = .ok (m, r)) : a ≤ m ∧ m ≤ T.length := by
  unfold argsP at h
  split at h
  · have := argG_on fixed T _ _ _ _ _ _ h
    omega
  · injection h with h
    injection h with h1 h2
    omega
theorem dirG_end {fixed : Bool} {T : List Tok} {f a : Nat} {acc : List DirP} (h : mrkP T a [64] = false) : dirG fixed T (f + 1) a acc = .ok (a, acc) := by
  unfold dirG
  rw [h]; rfl
theorem dirG_go {fixed : Bool} {T : List Tok} {f a : Nat} {acc : List DirP} (h : mrkP T a [64] = true) : dirG fixed T (f + 1) a acc = match namP [] T (a + 1) with
    | .error e => .error e
    | .ok s => match argsP fixed T (a + 2) with
      | .error e => .error e
      | .ok (a2, l) => dirG fixed T f a2 (acc ++ [(s, l)]) := by
  conv => lhs; unfold dirG
  rw [if_pos h]
  rfl
theorem l_name0_yes {p tb off cap : Nat} {T : List Tok} {fx : Bool} {k : Nat} {op : Int} {v : Value} {s : List UInt8} (hn : namP [] T k = .ok s) (w : World) (h : LS p tb off cap T fx k op v w) (hk : k ≤ 100000) :
    Calls Tryz.prog 86 #[.pointer (some ⟨p, 0, none⟩), .map none] w fun x w' => x = .returned (.string ⟨s.toArray⟩) ∧ LS p tb off cap T fx (k + 1) op v w' ∧ RK p w w' := by
  have := l_name0 w h hk
  rw [hn] at this; exact this
theorem l_name0_not {p tb off cap : Nat} {T : List Tok} {fx : Bool} {k : Nat} {op : Int} {v : Value} {e : ErrP} (hn : namP [] T k = .error e) (w : World) (h : LS p tb off cap T fx k op v w) (hk : k ≤ 100000) :
    Calls Tryz.prog 86 #[.pointer (some ⟨p, 0, none⟩), .map none] w fun x w' => x = .panicked (stopP e) ∧ Below p w w' := by
  have := l_name0 w h hk
  rw [hn] at this; exact this
set_option maxRecDepth 100000 in
set_option maxHeartbeats 8000000 in
theorem l_dirs {p tb off cap : Nat} {T : List Tok} {fx : Bool} {k : Nat} {v : Value} (W : World) (h : LS p tb off cap T fx k 0 v W) (hk : k ≤ T.length) (hE : ∀ W', Below p W W' → Env W') :
    Calls Tryz.prog 55 #[.pointer (some ⟨p, 0, none⟩)] W (DoO p tb off cap T fx 0 (dirsP fx T k) (fun L u W' => L.length ≤ 100000 ∧ OwnD W.heap.size u L W') W) := by
  have hT8 := h.2.2.2.1.1
  have HEE := Lib.hid hE
  have hpl := h.lt
  obtain ⟨B, hB⟩ : ∃ B, W.heap.size = B := ⟨_, rfl⟩
  have hpb : p < B := by omega
  obtain ⟨Z, hZ⟩ : ∃ Z, dirsP fx T k = Z := ⟨_, rfl⟩
  have HZ0 : Hid (dirG fx T (T.length + 1) k [] = Z) := Lib.hid hZ
  have HL2 := Lib.hid h
  have HR2 : Hid (RK p W W) := Lib.hid ⟨Below.refl _ _, fun k o h _ => h⟩
  rw [hZ, hB]
  clear h hE hZ
  go_enter Tryz.func55, Tryz.ntmps55
  go_wp2_with fail
  go_loopg [2, 3] (T.length + 1) (fun gk lv av wr => ∃ (k1 : Nat) (acc : List DirP) (v1 : Value) (la : Option Addr) (lc : Nat), lv = .slice la acc.length lc ∧ k1 ≤ T.length ∧ T.length + 1 ≤ gk + k1 ∧ acc.length ≤ k1 ∧ Hid (OwnD B (.slice la acc.length lc) acc wr) ∧ Hid (LS p tb off cap T fx k1 0 v1 wr) ∧ Hid (RK p W wr) ∧ Hid (dirG fx T gk k1 acc = Z))
  case atStart => exact ⟨k, [], v, none, 0, rfl, hk, by omega, Nat.zero_le _, Lib.hid (OwnX.nil _), HL2, HR2, HZ0⟩
  case round =>
    clear HL2 HR2 HZ0 hk
    rename World => wr
    obtain ⟨k1, acc, v1, la, lc, rfl, hkT1, hg, hac, HOA, HLS, HRK, HQ⟩ := hrel
    obtain ⟨g, rfl⟩ : ∃ g, gk = g + 1 := ⟨gk - 1, by omega⟩
    obtain ⟨ln, hln⟩ : ∃ ln, acc.length = ln := ⟨_, rfl⟩
    rw [hln] at HOA ⊢
    have hln9 : ln ≤ 100000 := by omega
    cases ht : mrkP T k1 [64] with
    | false =>
      have HZ : Hid (.ok (k1, acc) = Z) := Lib.hid (by rw [← HQ.out]; exact (dirG_end ht).symm)
      have HAC : Hid (acc.length ≤ 100000) := Lib.hid (by omega)
      clear HQ
      go_wp2_with fail
      refine (l_mark_not (what := ⟨#[64]⟩) ht _ HLS.out (by omega)).mono ?_; rintro x w3 ⟨rfl, hst, hrk3⟩
      have HL3 := Lib.hid hst
      have HR3 := Lib.hid (HRK.out.trans hrk3)
      have HO3 := Lib.hid (HOA.out.kp (Kp.rk hrk3 hpb))
      clear hst hrk3 ht
      go_wp2_with fail
      go_returns
      rw [← HZ.out]
      exact ⟨la, ln, lc, v1, rfl, ⟨HAC.out, HO3.out⟩, HL3.out, HR3.out⟩
    | true =>
      have hkT2 := mrk_lt ht
      have hq := HQ.out
      rw [dirG_go ht] at hq
      have HQ := Lib.hid hq
      clear hq
      go_wp2_with fail
      refine (l_mark_yes (what := ⟨#[64]⟩) ht _ HLS.out (by omega)).mono ?_; rintro x w3 ⟨rfl, hst, hrk3⟩
      have HL3 := Lib.hid hst
      have HR3 := Lib.hid (HRK.out.trans hrk3)
      have HO3 := Lib.hid (HOA.out.kp (Kp.rk hrk3 hpb))
      clear hst hrk3 ht
      go_wp2_with fail
      cases hna : namP [] T (k1 + 1) with
      | error e =>
        have HZ : Hid (.error e = Z) := Lib.hid (by have := HQ.out; simp only [hna] at this; exact this)
        refine (l_name0_not hna _ HL3.out (by omega)).mono ?_; rintro x w4 ⟨rfl, hb⟩
        have HB4 := Lib.hid (HR3.out.1.trans hb)
        clear hb hna HQ
        go_wp2_with fail
        refine ⟨rfl, ?_⟩
        rw [← HZ.out]
        exact ⟨rfl, HB4.out⟩
      | ok s =>
        have hk2 := (nam_lt hna).1
        simp only [hna] at HQ
        refine (l_name0_yes hna _ HL3.out (by omega)).mono ?_; rintro x w4 ⟨rfl, hst, hrk4⟩
        have HO4 := Lib.hid (HO3.out.kp (Kp.rk hrk4 hpb))
        have HR4 := Lib.hid (HR3.out.trans hrk4)
        obtain ⟨sb, hsb⟩ : ∃ sb : ByteArray, (⟨s.toArray⟩ : ByteArray) = sb := ⟨_, rfl⟩
        have hsl : sb.data.toList = s := by rw [← hsb]
        rw [hsb]
        obtain ⟨A, hA⟩ : ∃ A, w4.heap.size = A := ⟨_, rfl⟩
        obtain ⟨w5, hw5⟩ : ∃ w5, w4.alloc (.cells #[.string sb, .slice none 0 0] 61 (0, 0)) = w5 := ⟨_, rfl⟩
        have hb5 : Below w4.heap.size w4 w5 := by rw [← hw5]; exact (Below.refl _ _).alloc (Nat.le_refl _) _
        have HA5 : Hid (w5.heap[A]? = some (.cells #[.string sb, .slice none 0 0] 61 (0, 0))) := Lib.hid (by rw [← hw5, ← hA]; exact heap_alloc_last _ _)
        have HL5 : Hid (LS p tb off cap T fx (k1 + 2) 0 v1 w5) := Lib.hid (hst.below hb5)
        have HO5 := Lib.hid (HO4.out.kp (Kp.below hb5))
        have HR5 := Lib.hid (HR4.out.trans (RK.of_below hb5 hst.lt))
        have hBA : B ≤ A := by rw [← hA, ← hB]; exact HR4.out.1.size
        have hoA : ∀ j, (Value.slice la ln lc).ownBlock = some j → j < A := fun j hj => by rw [← hA]; exact (HO4.out.blk j hj).2
        have HW5 := Lib.hid hw5
        have HA_ := Lib.hid hA
        have hA5 := heap_lt HA5.out
        clear hst hrk4 hna hsb hb5 hw5 hA
        go_wp2_with fail
        rw [HW5.out, HA_.out]
        clear HW5 HA_
        have HLT := Lib.hid (l_args w5 HL5.out (by omega) (fun W' hb => HEE.out W' (HR5.out.1.trans hb)))
        cases hx : argsP fx T (k1 + 2) with
        | error e =>
          rw [hx] at HLT
          have HZ : Hid (.error e = Z) := Lib.hid (by have := HQ.out; simp only [hx] at this; exact this)
          clear hx HQ
          refine HLT.out.mono ?_; rintro x w7 hx7
          obtain ⟨hxe, hbb⟩ : x = .panicked (stopP e) ∧ Below p w5 w7 := hx7
          have HBB := Lib.hid (HR5.out.1.trans hbb)
          clear hbb
          subst hxe
          go_wp2_with fail
          refine ⟨rfl, ?_⟩
          rw [← HZ.out]
          exact ⟨rfl, HBB.out⟩
        | ok y =>
          obtain ⟨k4, out4⟩ := y
          obtain ⟨hk4, hk4T⟩ := args_on fx T _ _ _ (by omega) hx
          have HQ4 : Hid (dirG fx T g k4 (acc ++ [(s, out4)]) = Z) := Lib.hid (by have := HQ.out; simp only [hx] at this; exact this)
          rw [hx] at HLT
          clear hx HQ
          refine HLT.out.mono ?_; rintro x w7 hx7
          obtain ⟨a4, n4, c4, v7, hxe, ⟨hl4, hoc7⟩, hls7, hrk7⟩ : ∃ a n c v, x = .returned (.slice a n c) ∧ (out4.length ≤ 100000 ∧ OwnA w5.heap.size (.slice a n c) out4 w7) ∧ LS p tb off cap T fx k4 0 v w7 ∧ RK p w5 w7 := hx7
          have HC7 : Hid (OwnA B (.slice a4 n4 c4) out4 w7) := Lib.hid (hoc7.less (by omega))
          have HL7 := Lib.hid hls7
          have HO7 := Lib.hid (HO5.out.kp (Kp.rk hrk7 hpb))
          have HR7 := Lib.hid (HR5.out.trans hrk7)
          have HA7 := Lib.hid (hrk7.2 A _ HA5.out (by omega))
          clear hls7 hoc7 hrk7 HLT HA5
          subst hxe
          obtain ⟨w8, hw8⟩ : ∃ w8, w7.setCell ⟨A, 1, none⟩ (.slice a4 n4 c4) = w8 := ⟨_, rfl⟩
          have HA8 : Hid (w8.heap[A]? = some (.cells #[.string sb, .slice a4 n4 c4] 61 (0, 0))) := Lib.hid (by rw [← hw8]; exact pset HA7.out _ rfl)
          have HL8 : Hid (LS p tb off cap T fx k4 0 v7 w8) := Lib.hid (by
            have := HL7.out.2.2.1
            rw [← hw8]
            exact HL7.out.same (Below.heap_setCell _ _ _ _ (by show p ≠ A; omega)) (Below.heap_setCell _ _ _ _ (by show tb ≠ A; omega)))
          have HC8 : Hid (OwnA B (.slice a4 n4 c4) out4 w8) := Lib.hid (by rw [← hw8]; exact HC7.out.setT HA7.out (by decide) (by decide))
          have HO8 : Hid (OwnD B (.slice la ln lc) acc w8) := Lib.hid (by rw [← hw8]; exact OwnX.setT HO7.out (fun e => by have := hoA A e; omega) fun u2 x hx => OwnA.setT hx HA7.out (by decide) (by decide))
          have HR8 : Hid (RK p W w8) := Lib.hid (by rw [← hw8]; exact HR7.out.setNew (by omega) (by omega))
          have HW8 := Lib.hid hw8
          obtain ⟨w9, hw9⟩ : ∃ w9, w8.alloc (.cells #[.string sb, .slice a4 n4 c4] 61 (0, 0)) = w9 := ⟨_, rfl⟩
          have hb9 : Below w8.heap.size w8 w9 := by rw [← hw9]; exact (Below.refl _ _).alloc (Nat.le_refl _) _
          have HL9 := Lib.hid (HL8.out.below hb9)
          have HC9 := Lib.hid (HC8.out.kp (Kp.below hb9))
          have HO9 := Lib.hid (HO8.out.kp (Kp.below hb9))
          have HR9 := Lib.hid (HR8.out.trans (RK.of_below hb9 HL8.out.lt))
          have HNEW : Hid (w9.heap[w8.heap.size]? = some (.cells #[.string sb, .slice a4 n4 c4] 61 (0, 0))) := Lib.hid (by rw [← hw9]; exact heap_alloc_last _ _)
          have hsz9 : B ≤ w9.heap.size := by rw [← hB]; exact HR9.out.1.size
          have HW9 := Lib.hid hw9
          have s1 : w7.frozen? ⟨A, 1, none⟩ = false := Lib.frozen_of_heap HA7.out 1
          have d0 : w7.cell? ⟨A, 0, none⟩ = some (.string sb) := by rw [Lib.cell_of_heap HA7.out]; rfl
          have d1 : w7.cell? ⟨A, 1, none⟩ = some (.slice none 0 0) := by rw [Lib.cell_of_heap HA7.out]; rfl
          have d2 : w8.cell? ⟨A, 0, none⟩ = some (.string sb) := by rw [Lib.cell_of_heap HA8.out]; rfl
          have d3 : w8.cell? ⟨A, 1, none⟩ = some (.slice a4 n4 c4) := by rw [Lib.cell_of_heap HA8.out]; rfl
          have hs87 : w8.heap.size = w7.heap.size := by rw [← hw8]; simp
          rw [hs87] at HNEW
          have HSL := Lib.hid hsl
          clear hb9 hw9 hw8 HA7 HA8 HL7 HO7 HC7 HR7 hsl
          go_wp2_with (at_builtin; refine wpList_pushD rfl _ _ rfl B (.slice la ln lc) acc rfl (by rw [HW8.out, HW9.out]; exact HO9.out) w7.heap.size 1 sb (.slice a4 n4 c4) out4 rfl (by rw [HW8.out, HW9.out]; exact HNEW.out) ⟨_, _, _, rfl⟩ (by rw [HW8.out, HW9.out]; exact HC9.out) (by omega) (by rw [HW8.out, HW9.out]; exact hsz9) ?_)
          intro v' w10 hown' hgrow hat
          rw [HW8.out, HW9.out] at hgrow
          rw [HSL.out] at hown'
          have hob : ∀ j, (Value.slice la ln lc).ownBlock = some j → B ≤ j := fun j hj => (HO9.out.blk j hj).1
          have HL10 := Lib.hid (HL9.out.grown_ hgrow (fun j hj => by have := hob j hj; omega))
          have HR10 := Lib.hid (RK.grown HR9.out hgrow (fun j hj => by have := hob j hj; omega) hpl)
          obtain ⟨la', lc', hv'⟩ := OwnX.form hown'
          subst hv'
          have HO10 : Hid (OwnD B (.slice la' (acc ++ [(s, out4)]).length lc') (acc ++ [(s, out4)]) w10) := Lib.hid hown'
          have hlen : (acc ++ [(s, out4)]).length = acc.length + 1 := by simp
          clear hown' hgrow hat hob d0 d1 d2 d3 s1
          go_wp2_with fail
          go_roundg g
          case measure => omega
          case rel => exact ⟨k4, acc ++ [(s, out4)], _, la', lc', rfl, hk4T, by omega, by rw [hlen]; omega, HO10, HL10, HR10, HQ4⟩
end Go.Proofs.YtgaknbnhmoddcaaGreatDoor
namespace Go.Proofs.YtgaknbnhmoddcaaGreatDoor
open Go.RowKit
/-- What a byte row reads as: the value alone matters. -/
theorem own_two {B g cap : Nat} {C : Array Value} {x y : UInt8} {W : World} (hB : B ≤ g) (hc : 2 ≤ cap) (hm : cap ≤ maxLen) (hC : C.size = cap) (h0 : C[0]? = some (.int .u8 (x.toNat : Int))) (h1 : C[1]? = some (.int .u8 (y.toNat : Int))) (hg : W.heap[g]? = some (.cells C 5 (0, 0))) : Own B (.slice (some ⟨g, 0, none⟩) 2 cap) [x, y] W := by
  refine ⟨rfl, Or.inr ⟨g, cap, C, rfl, hB, hg, hc, hm, by omega, ?_⟩⟩
  have e0 : C.toList[0]? = some (.int .u8 (x.toNat : Int)) := by rw [Array.getElem?_toList]; exact h0
  have e1 : C.toList[1]? = some (.int .u8 (y.toNat : Int)) := by rw [Array.getElem?_toList]; exact h1
  match hl : C.toList, e0, e1 with
  | a :: b :: r, e0, e1 =>
    simp only [List.getElem?_cons_zero, Option.some.injEq, List.getElem?_cons_succ] at e0 e1
    rw [e0, e1]
    rfl
  | [a], e0, e1 => simp at e1
  | [], e0, e1 => simp at e0
set_option maxRecDepth 100000 in
/-- 'append(s[:0], make([]uint8, 2)..)' of a slice that has room for one. -/
theorem wpList_zeros2 {ops : Array Oper} {rest : List Oper} {o : Oper} {a : Act} {Q : Exit → Act → World → Prop} {w : World} (hgd : o.guard = none) (s x : Operand)
    (ho : o.op = .call { callee := .builtin .append, args := #[s, x], argTypes := #[23, 3] }) (b : Nat) (hs : a.eval s = .slice (some ⟨b, 0, none⟩) 0 1) (hx : a.eval x = .int .i64 2)
    (h : ∀ cap C, 2 ≤ cap → cap ≤ maxLen → C.size = cap → C[0]? = some (.int .u8 0) → C[1]? = some (.int .u8 0) → wpList Tryz.prog ops Q rest (a.put o.dst (.slice (some ⟨w.heap.size, 0, none⟩) 2 cap)) (w.drew.alloc (.cells C 5 (0, 0)))) : wpList Tryz.prog ops Q (o :: rest) a w := by
  obtain ⟨i0, hi, hz0, hz1, hz2⟩ := info_parts u8_info
  have hr := Lib.run_append_grow_zeros (P := Tryz.prog) w 23 3 o.type 5 i0 (.int .u8 0) .i64 .i64 Tryz.underlying23 Tryz.underlying3 hi hz0 (some ⟨b, 0, none⟩) 0 1 [] (by rw [hz1]; have hl := run_loadCells_list (P := Tryz.prog) w.drew ⟨b, 0, none⟩ [] (by simp); simp only [List.length_nil] at hl; simp [Builtin.firstCells, hl]) 2 (by decide) (by rw [hz1]; decide) (by decide) (by decide) (by rw [hz2]; decide) (by rw [hz2]; decide)
  refine wpList_plain hgd fun K hK' => ?_
  unfold Oper.wp
  have hr2 : (Builtin.append_ #[23, 3] o.type #[.slice (some ⟨b, 0, none⟩) 0 1, .int .i64 2]).run Tryz.prog w = _ := hr
  simp only [execOp, ho, resolve, invoke, builtin, Sem.run_bind, Sem.run_pure, Result.andThen_ok, List.map_toArray, List.map_cons, List.map_nil, hs, hx, hr2]
  have hge := grownCap_ge w (0 + 2) 1 5
  have hle := grownCap_le_maxLen w (0 + 2) 1 5 (by unfold maxLen; omega)
  clear hr hr2
  generalize grownCap w (0 + 2) 1 5 = cap at hge hle ⊢
  have hcc : (Value.int IntKind.u8 0).cells = #[.int .u8 0] := rfl
  have hz2 : Builtin.zeroCells (Value.int IntKind.u8 0).cells 2 = #[.int .u8 0, .int .u8 0] := by kernel_rfl
  rw [hz2]
  refine hK' _ _ (h cap _ (by omega) hle ?_ ?_ ?_)
  · simp only [List.toArray, Array.size_append, size_zeroCells, hcc]
    simp; omega
  · rw [Array.getElem?_append_left (by decide)]; rfl
  · rw [Array.getElem?_append_left (by decide)]; rfl
theorem wp_copy1 {o : Oper} {a : Act} {K : Act → World → Prop} {Q : Exit → Act → World → Prop} {w : World} (d s : Operand)
    (ho : o.op = .call { callee := .builtin .copy, args := #[d, s], argTypes := #[23, 23] }) (g off dn dc : Nat) (hd : a.eval d = .slice (some ⟨g, off, none⟩) dn dc) (hdn : 1 ≤ dn) (b sc : Nat) (x : Int) (hs : a.eval s = .slice (some ⟨b, 0, none⟩) 1 sc) (hx : w.cell? ⟨b, 0, none⟩ = some (.int .u8 x)) (hc : (w.cell? ⟨g, off, none⟩).isSome = true) (hf : w.frozen? ⟨g, off, none⟩ = false)
    (h : K (a.put o.dst (.int .i64 1)) (w.setCell ⟨g, off, none⟩ (.int .u8 x))) : o.wp Tryz.prog a w K Q := by
  obtain ⟨i0, hi, hz0, hz1, hz2⟩ := info_parts u8_info
  have hr := run_copy_cells (P := Tryz.prog) w 23 23 o.type 5 g off dn dc ⟨b, 0, none⟩ 1 sc [.int .u8 x] Tryz.underlying23 (by rw [hi]; simp [hz1]) (by show 1 = min 1 dn; omega) (fun j v hj => by
    match j, hj with
    | 0, hj => simp at hj; rw [← hj]; exact hx
    | j + 1, hj => simp at hj) (fun j hj => by
    have : j = 0 := by simp at hj; omega
    subst this; exact hc) (fun j hj => by
    have : j = 0 := by simp at hj; omega
    subst this; exact hf) (fun v hv => by
    rw [List.mem_singleton.1 hv]; rfl)
  unfold Oper.wp
  simp only [execOp, ho, resolve, invoke, builtin, Sem.run_bind, Sem.run_pure, Result.andThen_ok, List.map_toArray, List.map_cons, List.map_nil, hd, hs, hr]
  exact h
theorem run_copy1 (w : World) (ty : TypeId) (g off dn dc : Nat) (hdn : 1 ≤ dn) (b sc : Nat) (x : Int) (hx : w.cell? ⟨b, 0, none⟩ = some (.int .u8 x)) (hc : (w.cell? ⟨g, off, none⟩).isSome = true) (hf : w.frozen? ⟨g, off, none⟩ = false) :
    (Builtin.copy_ #[23, 23] ty #[.slice (some ⟨g, off, none⟩) dn dc, .slice (some ⟨b, 0, none⟩) 1 sc]).run Tryz.prog w = .ok (.int .i64 1) (w.setCell ⟨g, off, none⟩ (.int .u8 x)) := by
  obtain ⟨i0, hi, hz0, hz1, hz2⟩ := info_parts u8_info
  exact run_copy_cells (P := Tryz.prog) w 23 23 ty 5 g off dn dc ⟨b, 0, none⟩ 1 sc [.int .u8 x] Tryz.underlying23 (by rw [hi]; simp [hz1]) (by show 1 = min 1 dn; omega) (fun j v hj => by
    match j, hj with
    | 0, hj => simp at hj; rw [← hj]; exact hx
    | j + 1, hj => simp at hj) (fun j hj => by
    have : j = 0 := by simp at hj; omega
    subst this; exact hc) (fun j hj => by
    have : j = 0 := by simp at hj; omega
    subst this; exact hf) (fun v hv => by
    rw [List.mem_singleton.1 hv]; rfl)
set_option maxRecDepth 100000 in
theorem insert_none (c : Nat) (W : World) (hc : W.cell? ⟨c, 0, none⟩ = some (.int .u8 1)) :
    Calls Tryz.prog 87 #[.slice none 0 0, .int .i64 0, .slice (some ⟨c, 0, none⟩) 1 1] W fun x W' => ∃ g cap, x = .returned (.slice (some ⟨g, 0, none⟩) 1 cap) ∧ Own W.heap.size (.slice (some ⟨g, 0, none⟩) 1 cap) [1] W' ∧ W.grownBy W' none := by
  go_enter Tryz.func87, Tryz.ntmps87
  go_wp2_with (at_builtin; refine wpList_push rfl _ _ rfl W.heap.size (.slice none 0 0) [] rfl (Own.nil _ _) ⟨c, 0, none⟩ 1 [1] rfl ?_ (by decide) (Nat.le_refl _) ?_)
  · intro j hj
    have : j = 0 := by simp at hj; omega
    subst this
    exact hc
  intro v' w' ho hg
  have hf : ∃ g cap, v' = .slice (some ⟨g, 0, none⟩) 1 cap := by
    rcases ho.2 with ⟨_, e⟩ | ⟨g, cap, cur, e, _⟩
    · simp at e
    · exact ⟨g, cap, e⟩
  obtain ⟨g, cap, rfl⟩ := hf
  have HO := Lib.hid ho
  have HG := Lib.hid hg
  clear ho hg
  go_wp2_with fail
  go_ret
  exact ⟨g, cap, rfl, HO.out, HG.out⟩
set_option maxRecDepth 100000 in
theorem insert_one (b c : Nat) (W : World) (hb : W.cell? ⟨b, 0, none⟩ = some (.int .u8 2)) (hc : W.cell? ⟨c, 0, none⟩ = some (.int .u8 1)) :
    Calls Tryz.prog 87 #[.slice (some ⟨b, 0, none⟩) 1 1, .int .i64 0, .slice (some ⟨c, 0, none⟩) 1 1] W fun x W' => ∃ g cap, x = .returned (.slice (some ⟨g, 0, none⟩) 2 cap) ∧ Own W.heap.size (.slice (some ⟨g, 0, none⟩) 2 cap) [1, 2] W' ∧ Below W.heap.size W W' := by
  have hbl := lt_of_cell hb
  have hcl := lt_of_cell hc
  go_enter Tryz.func87, Tryz.ntmps87
  go_wp2_with (at_builtin; refine wpList_zeros2 rfl _ _ rfl b rfl rfl ?_)
  intro cap C hc2 hcm hcs h0 h1
  obtain ⟨g, hg⟩ : ∃ g, W.heap.size = g := ⟨_, rfl⟩
  obtain ⟨w1, hw1⟩ : ∃ w1, (W.alloc (.cells C 5 (0, 0))).drew = w1 := ⟨_, rfl⟩
  have hG : w1.heap[g]? = some (.cells C 5 (0, 0)) := by rw [← hw1, ← hg]; exact heap_alloc_last W _
  have hBw : Below g W w1 := by rw [← hw1, ← hg]; exact ((Below.refl _ _).alloc (Nat.le_refl _) _).drew
  have hc1 : w1.cell? ⟨c, 0, none⟩ = some (.int .u8 1) := (hBw.cell (p := ⟨c, 0, none⟩) (by show c < g; omega)).trans hc
  have hb1 : w1.cell? ⟨b, 0, none⟩ = some (.int .u8 2) := (hBw.cell (p := ⟨b, 0, none⟩) (by show b < g; omega)).trans hb
  have k0 : w1.cell? ⟨g, 0, none⟩ = some (.int .u8 0) := by rw [Lib.cell_of_heap hG]; exact h0
  have f0 : w1.frozen? ⟨g, 0, none⟩ = false := Lib.frozen_of_heap hG 0
  have HW1 := Lib.hid hw1
  have n1 : ¬ (2 : Int) < 0 := by decide
  have hcI : (2 : Int) ≤ (cap : Int) := by omega
  rw [hg]
  rw [hw1]
  have hcp := fun ty => run_copy1 w1 ty g 0 2 cap (by decide) c 1 1 hc1 (by rw [k0]; rfl) f0
  go_wp2_with fail
  obtain ⟨w2, hw2⟩ : ∃ w2, w1.setCell ⟨g, 0, none⟩ (.int .u8 1) = w2 := ⟨_, rfl⟩
  have hG2 : w2.heap[g]? = some (.cells (C.setIfInBounds 0 (.int .u8 1)) 5 (0, 0)) := by rw [← hw2]; exact pset hG _ rfl
  have hBw2 : Below g W w2 := by rw [← hw2]; exact hBw.setCell (p := ⟨g, 0, none⟩) (Nat.le_refl _) _
  have HB2 : Hid (w2.cell? ⟨b, 0, none⟩ = some (.int .u8 2)) := Lib.hid ((hBw2.cell (p := ⟨b, 0, none⟩) (by show b < g; omega)).trans hb)
  have HG2 := Lib.hid hG2
  have HBW2 := Lib.hid hBw2
  have HW2 := Lib.hid hw2
  rw [hw2]
  have k1 : w2.cell? ⟨g, 1, none⟩ = some (.int .u8 0) := by rw [Lib.cell_of_heap hG2]; simpa using h1
  have f1 : w2.frozen? ⟨g, 1, none⟩ = false := Lib.frozen_of_heap hG2 1
  have hb2 := HB2.out
  clear hG2 hBw2 hw2 hw1 hG hBw hc1 hb1 k0 f0 hcp
  have hwr : IntKind.i64.wrap 1 = 1 := rfl
  have hn1 : ¬ cap = 1 := by omega
  refine wp_region_held_drew (S := fun _ => True) (by kernel_rfl) (trivial) (fun hHeld => ?_)
  refine tky 0 (some 46) (v := ?_) rfl (by kernel_rfl) (by kernel_rfl) (by kernel_rfl) (fun _ _ _ h => h) ?_ hHeld ?_
  rotate_left
  focus (intro w hSw; (try dsimp only at hSw); go_simp; (try with_reducible rfl); done)
  go_frame
  refine tky 1 (some 47) (v := ?_) rfl (by kernel_rfl) (by kernel_rfl) (by kernel_rfl) (fun _ _ _ h => h) ?_ hHeld ?_
  rotate_left
  focus (intro w hSw; (try dsimp only at hSw); go_simp; (try with_reducible rfl); done)
  go_frame
  refine tky 2 (some 48) (v := ?_) rfl (by kernel_rfl) (by kernel_rfl) (by kernel_rfl) (fun _ _ _ h => h) ?_ hHeld ?_
  rotate_left
  focus (intro w hSw; (try dsimp only at hSw); go_simp; (try with_reducible rfl); done)
  go_frame
  refine tky 3 (some 49) (v := ?_) rfl (by kernel_rfl) (by kernel_rfl) (by kernel_rfl) (fun _ _ _ h => h) ?_ hHeld ?_
  rotate_left
  focus (intro w hSw; (try dsimp only at hSw); go_simp; (try with_reducible rfl); done)
  go_frame
  refine tky 4 (some 50) (v := ?_) rfl (by kernel_rfl) (by kernel_rfl) (by kernel_rfl) (fun _ _ _ h => h) ?_ hHeld ?_
  rotate_left
  focus (intro w hSw; (try dsimp only at hSw); go_simp; (try with_reducible rfl); done)
  go_frame
  refine tky 5 (some 51) (v := ?_) rfl (by kernel_rfl) (by kernel_rfl) (by kernel_rfl) (fun _ _ _ h => h) ?_ hHeld ?_
  rotate_left
  focus (intro w hSw; (try dsimp only at hSw); go_simp; (try with_reducible rfl); done)
  go_frame
  refine tky 6 (some 52) (v := ?_) rfl (by kernel_rfl) (by kernel_rfl) (by kernel_rfl) (fun _ _ _ h => h) ?_ hHeld ?_
  rotate_left
  focus (intro w hSw; (try dsimp only at hSw); go_simp; (try with_reducible rfl); done)
  go_frame
  refine tky 7 (some 53) (v := ?_) rfl (by kernel_rfl) (by kernel_rfl) (by kernel_rfl) (fun _ _ _ h => h) ?_ hHeld ?_
  rotate_left
  focus (intro w hSw; (try dsimp only at hSw); go_simp; (try with_reducible rfl); done)
  go_frame
  refine rcons 8 rfl (by kernel_rfl) (fun K hK => ?_)
  rw [if_pos]
  rotate_left
  focus kernel_rfl
  refine wp_copy1 _ _ rfl g 1 1 (cap - 1) rfl (Nat.le_refl _) b 1 2 rfl (by exact hb2) (by show (w2.cell? _).isSome = true; rw [k1]; rfl) (by exact f1) ?_
  (try dsimp only)
  refine hK.out _ _ (trivial) (fun hHeld2 => ?_)
  clear hK K hHeld
  have hHeld := hHeld2
  clear hHeld2
  (try go_frame)
  refine wpAnyH_done (by kernel_rfl) ?_ _
  go_wp2_with fail
  go_ret
  refine ⟨g, cap, rfl, own_two (x := 1) (y := 2) (C := (C.setIfInBounds 0 (.int .u8 1)).setIfInBounds 1 (.int .u8 2)) (by omega) hc2 hcm (by simp [hcs]) ?_ ?_ ?_, ?_⟩
  · rw [Array.getElem?_setIfInBounds_ne (by decide), Array.getElem?_setIfInBounds_self_of_lt (by omega)]; rfl
  · rw [Array.getElem?_setIfInBounds_self_of_lt (by simp; omega)]; rfl
  · exact pset (show w2.drew.heap[g]? = _ from HG2.out) _ rfl
  · rw [hg]; exact HBW2.out.drew.setCell (p := ⟨g, 1, none⟩) (Nat.le_refl _) _
end Go.Proofs.YtgaknbnhmoddcaaGreatDoor
namespace Go.Proofs.YtgaknbnhmoddcaaGreatDoor
open Go.RowKit Go.Lib
/-- What a wrapper's mark leaves. -/
def WrE (p tb off cap : Nat) (T : List Tok) (fx : Bool) (a kk : Nat) (v : Value) (w0 : World) (o : Except ErrP (Option Nat)) (x : Ending) (W : World) : Prop := match o with
  | .error e => x = .panicked (stopP e) ∧ Below p w0 W
  | .ok none => x = .returned (.bool false) ∧ LS p tb off cap T fx a (kk : Int) v W ∧ RK p w0 W
  | .ok (some k') => x = .returned (.bool true) ∧ LS p tb off cap T fx (a + 1) (k' : Int) v W ∧ RK p w0 W
set_option maxRecDepth 100000 in
theorem l_wrap {p tb off cap : Nat} {T : List Tok} {fx : Bool} {a kk : Nat} {v : Value} (what : ByteArray) (bx : Nat) (W : World) (h : LS p tb off cap T fx a (kk : Int) v W) (ha : a ≤ 100000) (hk : kk ≤ 8) (hb : W.heap[bx]? = some (.cells #[.pointer (some ⟨p, 0, none⟩)] 112 (0, 0))) (hne : bx ≠ p) :
    Calls Tryz.prog 81 #[.string what, .pointer (some ⟨bx, 0, none⟩)] W (WrE p tb off cap T fx a kk v W (wrapP T kk a what.data.toList)) := by
  have HI := Lib.hid (l_is what W h)
  have HNO := Lib.hid (fun (op : Int) (e : Int) (W' : World) (hW : LS p tb off cap T fx a op v W') => l_no e W' hW)
  have hp := h.lt
  have HS := Lib.hid h
  have HBX := Lib.hid hb
  have b0 : W.cell? ⟨bx, 0, none⟩ = some (.pointer (some ⟨p, 0, none⟩)) := by rw [Lib.cell_of_heap hb]; rfl
  unfold wrapP
  cases hm : mrkP T a what.data.toList with
  | false =>
    rw [hm] at HI
    clear h hb hm
    go_enter Tryz.func81, Tryz.ntmps81
    go_wp2_with fail
    refine HI.out.mono ?_; rintro x w1 ⟨rfl, hb⟩
    have HL1 := Lib.hid (HS.out.below hb)
    have HK1 := Lib.hid (RK.of_below hb hp)
    clear hb
    go_wp2_with fail
    go_returns
    exact ⟨rfl, HL1.out, HK1.out⟩
  | true =>
    rw [hm] at HI
    rw [if_pos rfl]
    have hw : IntKind.i64.wrap ((kk : Int) + 1) = (kk : Int) + 1 := IntWalk.i64_in _ (by omega)
    have HMK := Lib.hid (fun (W' : World) (hW : LS p tb off cap T fx a ((kk : Int) + 1) v W') => l_mark_yes hm W' hW ha)
    by_cases h8 : kk = 8
    · subst h8
      rw [if_pos rfl]
      clear h hb hm
      go_enter Tryz.func81, Tryz.ntmps81
      go_wp2_with fail
      refine HI.out.mono ?_; rintro x w1 ⟨rfl, hb⟩
      have HL1 := Lib.hid (HS.out.below hb)
      have HB1 := Lib.hid ((hb.block bx (heap_lt HBX.out)).trans HBX.out)
      have HK1 := Lib.hid (RK.of_below hb hp)
      obtain ⟨c0, c1, c2, c3, c4⟩ := HL1.out.cells
      have f3 := HL1.out.frozen 3
      have d0 : w1.cell? ⟨bx, 0, none⟩ = some (.pointer (some ⟨p, 0, none⟩)) := by rw [Lib.cell_of_heap HB1.out]; rfl
      have HL2 := Lib.hid (HL1.out.op_ (((8 : Nat) : Int) + 1))
      have hp2 : p ≤ (w1.setCell ⟨p, 3, none⟩ (.int .i64 (((8 : Nat) : Int) + 1))).heap.size := Nat.le_of_lt HL2.out.lt
      have HK2 := Lib.hid (HK1.out.trans (RK.set p 3 w1 (.int .i64 (((8 : Nat) : Int) + 1))))
      clear hb
      go_wp2_with fail
      refine (HNO.out _ 30 _ HL2.out).mono ?_; rintro x w2 ⟨rfl, hb⟩
      have HB9 := Lib.hid (HK2.out.1.trans (hb.mono hp2))
      clear hb
      go_wp2_with fail
      exact ⟨rfl, rfl, HB9.out⟩
    · rw [if_neg h8]
      have h9 : ¬ (8 : Int) < (kk : Int) + 1 := by omega
      have hcast : ((kk + 1 : Nat) : Int) = (kk : Int) + 1 := by omega
      clear h hb hm h8
      go_enter Tryz.func81, Tryz.ntmps81
      go_wp2_with fail
      refine HI.out.mono ?_; rintro x w1 ⟨rfl, hb⟩
      have HL1 := Lib.hid (HS.out.below hb)
      have HB1 := Lib.hid ((hb.block bx (heap_lt HBX.out)).trans HBX.out)
      have HK1 := Lib.hid (RK.of_below hb hp)
      obtain ⟨c0, c1, c2, c3, c4⟩ := HL1.out.cells
      have f3 := HL1.out.frozen 3
      have d0 : w1.cell? ⟨bx, 0, none⟩ = some (.pointer (some ⟨p, 0, none⟩)) := by rw [Lib.cell_of_heap HB1.out]; rfl
      have HL2 := Lib.hid (HL1.out.op_ ((kk : Int) + 1))
      have HK2 := Lib.hid (HK1.out.trans (RK.set p 3 w1 (.int .i64 ((kk : Int) + 1))))
      clear hb
      go_wp2_with fail
      refine (HMK.out _ HL2.out).mono ?_; rintro x w2 ⟨rfl, hst, hrk⟩
      have HL3 := Lib.hid hst
      have HK3 := Lib.hid (HK2.out.trans hrk)
      clear hst hrk
      go_wp2_with fail
      go_returns
      refine ⟨rfl, ?_, HK3.out⟩
      rw [hcast]
      exact HL3.out
end Go.Proofs.YtgaknbnhmoddcaaGreatDoor
namespace Go.Proofs.YtgaknbnhmoddcaaGreatDoor
open Go.RowKit Go.Lib
theorem Own.kp {B : Nat} {v : Value} {l : List UInt8} {W W' : World} (h : Own B v l W) (hk : Kp B W W') : Own B v l W' := by
  obtain ⟨h1, h2⟩ := h
  refine ⟨h1, ?_⟩
  rcases h2 with h2 | ⟨g, cap, cur, hv, hB, hg, hrest⟩
  · exact Or.inl h2
  · exact Or.inr ⟨g, cap, cur, hv, hB, hk g _ hB hg, hrest⟩
theorem Own.less {B B' : Nat} {v : Value} {l : List UInt8} {W : World} (h : Own B v l W) (hB : B' ≤ B) : Own B' v l W := by
  obtain ⟨h1, h2⟩ := h
  refine ⟨h1, ?_⟩
  rcases h2 with h2 | ⟨g, cap, cur, hv, hg, hrest⟩
  · exact Or.inl h2
  · exact Or.inr ⟨g, cap, cur, hv, by omega, hrest⟩
/-- Bytes in a row that the call made; none are in no row. -/
def BytW (B : Nat) (u : Value) (ws : List UInt8) (W : World) : Prop := Own B u ws W ∧ (ws = [] → u = .slice none 0 0)
theorem BytW.nil (B : Nat) (W : World) : BytW B (.slice none 0 0) [] W := ⟨Own.nil _ _, fun _ => rfl⟩
theorem BytW.kp {B : Nat} {v : Value} {l : List UInt8} {W W' : World} (h : BytW B v l W) (hk : Kp B W W') : BytW B v l W' := ⟨h.1.kp hk, h.2⟩
theorem BytW.less {B B' : Nat} {v : Value} {l : List UInt8} {W : World} (h : BytW B v l W) (hB : B' ≤ B) : BytW B' v l W := ⟨h.1.less hB, h.2⟩
theorem BytW.form {B : Nat} {v : Value} {l : List UInt8} {W : World} (h : BytW B v l W) : ∃ a n c, v = .slice a n c := by
  rcases h.1.2 with ⟨e1, _⟩ | ⟨g, cap, cur, e1, _⟩
  · exact ⟨_, _, _, e1⟩
  · exact ⟨_, _, _, e1⟩
/-- 'append(v, u..)' of bytes that the call made. -/
theorem wpList_pushW {ops : Array Oper} {rest : List Oper} {o : Oper} {a : Act} {Q : Exit → Act → World → Prop} {w : World} (hgd : o.guard = none) (s x : Operand)
    (ho : o.op = .call { callee := .builtin .append, args := #[s, x], argTypes := #[23, 23] }) (B : Nat) (v : Value) (l : List UInt8) (hs : a.eval s = v) (hown : BytW B v l w)
    (B2 : Nat) (u : Value) (ws : List UInt8) (hx : a.eval x = u) (hu : BytW B2 u ws w) (hlen : l.length + ws.length ≤ 1000000000) (hB : B ≤ w.heap.size)
    (h : ∀ v' w', BytW B v' (l ++ ws) w' → w.grownBy w' v.ownBlock → wpList Tryz.prog ops Q rest (a.put o.dst v') w') : wpList Tryz.prog ops Q (o :: rest) a w := by
  obtain ⟨i0, hi, hz0, hz1, hz2⟩ := info_parts u8_info
  by_cases hw : ws = []
  · subst hw
    refine wpList_append_own_none hgd s x 23 ho B 5 i0 1 Tryz.underlying23 hi v l.length (Lib.byteCells l) hs hown.1 (by rw [hx, hu.2 rfl]) ?_
    exact h v w (by rw [List.append_nil]; exact hown) (World.grownBy.refl w _)
  · have hf : ∃ g cap, u = .slice (some ⟨g, 0, none⟩) ws.length cap ∧ ∀ j (hj : j < ws.length), w.cell? ((⟨g, 0, none⟩ : Addr).add j) = some (.int .u8 (ws[j].toNat : Int)) := by
      rcases hu.1.2 with ⟨_, e2⟩ | ⟨g, cap, cur, e1, _, hg, _, _, _, ht⟩
      · exact absurd (List.eq_nil_of_length_eq_zero e2) hw
      · refine ⟨g, cap, e1, fun j hj => ?_⟩
        rw [addr_add, Nat.zero_add, Lib.cell_of_heap hg, ← Array.getElem?_toList]
        have hq : (Lib.byteCells ws)[j]? = some (.int .u8 (ws[j].toNat : Int)) := by
          unfold Lib.byteCells
          rw [List.getElem?_map, List.getElem?_eq_getElem hj]; rfl
        have hlen2 : j < ws.length * 1 := by omega
        rw [← ht, List.getElem?_take, if_pos hlen2] at hq
        exact hq
    obtain ⟨g, cap, rfl, hcells⟩ := hf
    refine wpList_push hgd s x ho B v l hs hown.1 ⟨g, 0, none⟩ cap ws hx hcells hlen hB ?_
    intro v' w' h1 h2
    exact h v' w' ⟨h1, fun e => absurd (List.append_eq_nil_iff.1 e).2 hw⟩ h2
/-- What a type's reader leaves. -/
def TyE (p tb off cap : Nat) (T : List Tok) (fx : Bool) (v : Value) (w0 : World) (o : Except ErrP TypP) (x : Ending) (W : World) : Prop := match o with
  | .error e => x = .panicked (stopP e) ∧ Below p w0 W
  | .ok (k2, a2, nm, ws) => ∃ u, x = .returned (.agg #[.string ⟨nm.toArray⟩, u]) ∧ BytW w0.heap.size u ws W ∧ LS p tb off cap T fx a2 (k2 : Int) v W ∧ RK p w0 W
theorem wrapP_some {T : List Tok} {k a k' : Nat} {s : List UInt8} (h : wrapP T k a s = .ok (some k')) : k' = k + 1 ∧ k ≠ 8 ∧ a < T.length := by
  unfold wrapP at h
  split at h
  · rename_i hm
    have := mrk_lt hm
    split at h
    · cases h
    · rename_i h8
      injection h with h
      injection h with h
      exact ⟨h.symm, h8, this⟩
  · cases h
theorem typE_on {T : List Tok} {x y : TypP} (h : typE T x = .ok y) (hk : x.1 ≤ 8) (ha : x.2.1 ≤ T.length) : y.1 ≤ 8 ∧ x.2.1 ≤ y.2.1 ∧ y.2.1 ≤ T.length ∧ y.2.2.2.length ≤ x.2.2.2.length + 1 := by
  unfold typE at h
  split at h
  · cases h
  · rename_i k4 hw
    obtain ⟨e1, e2, e3⟩ := wrapP_some hw
    injection h with h
    subst h
    exact ⟨by show k4 ≤ 8; omega, by show _ ≤ _ + 1; omega, by show _ + 1 ≤ _; omega, by simp⟩
  · injection h with h
    subst h
    exact ⟨hk, Nat.le_refl _, ha, Nat.le_succ _⟩
theorem typG_on (T : List Tok) : ∀ (f k a : Nat) (y : TypP), typG T f k a = .ok y → k ≤ 8 → y.1 ≤ 8 ∧ a < y.2.1 ∧ y.2.1 ≤ T.length ∧ y.2.2.2.length ≤ 2 * f
  | 0, k, a, y, h, hk => by cases h
  | f + 1, k, a, y, h, hk => by
    unfold typG at h
    cases hH : typH T k a (fun k1 => typG T f k1 (a + 1)) with
    | error e => rw [hH] at h; cases h
    | ok x =>
      rw [hH] at h
      dsimp only at h
      have hx : x.1 ≤ 8 ∧ a < x.2.1 ∧ x.2.1 ≤ T.length ∧ x.2.2.2.length ≤ 2 * f + 1 := by
        unfold typH at hH
        split at hH
        · cases hH
        · rename_i k1 hw
          obtain ⟨e1, e2, e3⟩ := wrapP_some hw
          split at hH
          · cases hH
          · rename_i k2 a2 nm ws hi
            have := typG_on T f k1 (a + 1) _ hi (by omega)
            split at hH
            · rename_i hm
              have hml := mrk_lt hm
              injection hH with hH
              subst hH
              simp only at this ⊢
              refine ⟨this.1, by omega, by omega, by simp; omega⟩
            · cases hH
        · split at hH
          · cases hH
          · rename_i s hn
            have := (nam_lt hn).1
            injection hH with hH
            subst hH
            exact ⟨hk, Nat.lt_succ_self _, this, Nat.zero_le _⟩
      have := typE_on h hx.1 hx.2.2.1
      omega
theorem ref_cells {A : Nat} {W : World} {x y : Value} (h : W.heap[A]? = some (.cells #[x, y] 25 (0, 0))) : W.cell? ⟨A, 0, none⟩ = some x ∧ W.cell? ⟨A, 1, none⟩ = some y ∧ W.frozen? ⟨A, 0, none⟩ = false ∧ W.frozen? ⟨A, 1, none⟩ = false := by
  refine ⟨?_, ?_, Lib.frozen_of_heap h 0, Lib.frozen_of_heap h 1⟩
  all_goals (rw [Lib.cell_of_heap h]; rfl)
theorem ty_fin {p tb off cap bx : Nat} {T : List Tok} {fx : Bool} {a : Nat} {op : Int} {v u x y z c0 c1 : Value} {l : List UInt8} {W w9 : World} (hL : LS p tb off cap T fx a op v w9) (hR : RK p W w9) (hO : BytW (bx + 2) u l w9) (hT : w9.heap[bx + 1]? = some (.cells #[c0, c1] 25 (0, 0))) (hbx : W.heap.size = bx) (hp : p < bx) (wf : World) (hwf : ((w9.setCell ⟨bx + 1, 1, none⟩ x).setCell ⟨bx + 1, 0, none⟩ y).setCell ⟨bx + 1, 1, none⟩ z = wf) :
    LS p tb off cap T fx a op v wf ∧ RK p W wf ∧ BytW W.heap.size u l wf ∧ wf.cell? ⟨bx + 1, 0, none⟩ = some y ∧ wf.cell? ⟨bx + 1, 1, none⟩ = some z := by
  have htb := hL.2.2.1
  have h4 : wf.heap[bx + 1]? = some (.cells #[y, z] 25 (0, 0)) := by
    rw [← hwf]; exact pset (pset (pset hT _ rfl) _ rfl) _ rfl
  refine ⟨?_, ?_, ?_, ?_, ?_⟩
  · have key : ∀ (W0 : World) (i : Nat) (u0 : Value), LS p tb off cap T fx a op v W0 → LS p tb off cap T fx a op v (W0.setCell ⟨bx + 1, i, none⟩ u0) := fun W0 i u0 h => h.same (Below.heap_setCell _ _ _ _ (by show p ≠ bx + 1; omega)) (Below.heap_setCell _ _ _ _ (by show tb ≠ bx + 1; omega))
    rw [← hwf]
    exact key _ _ _ (key _ _ _ (key _ _ _ hL))
  · rw [← hwf]
    exact ((hR.setNew (by omega) (by omega)).setNew (by omega) (by omega)).setNew (by omega) (by omega)
  · rw [← hwf]
    have k1 := hO.kp (Kp.rk (RK.set (bx + 1) 1 w9 x) (by omega))
    have k2 := k1.kp (Kp.rk (RK.set (bx + 1) 0 _ y) (by omega))
    exact (k2.kp (Kp.rk (RK.set (bx + 1) 1 _ z) (by omega))).less (by omega)
  · rw [Lib.cell_of_heap h4]; rfl
  · rw [Lib.cell_of_heap h4]; rfl
end Go.Proofs.YtgaknbnhmoddcaaGreatDoor
namespace Go.Proofs.YtgaknbnhmoddcaaGreatDoor
open Go.RowKit Go.Lib
/-- A row of names with slices behind them, read. -/
def XRow {α : Type} (Sl : Value → α → World → Prop) (b off : Nat) (L : List (List UInt8 × α)) (W : World) : Prop := ∀ (i : Nat) (h : i < L.length), W.cell? ⟨b, off + i * 2, none⟩ = some (.string ⟨L[i].1.toArray⟩) ∧ ∃ a n c, W.cell? ⟨b, off + i * 2 + 1, none⟩ = some (.slice a n c) ∧ Sl (.slice a n c) L[i].2 W
theorem XRow.below {α : Type} {Sl : Value → α → World → Prop} {b off : Nat} {L : List (List UInt8 × α)} {w w' : World} (h : XRow Sl b off L w) (hS : ∀ u x, Sl u x w → Sl u x w') (hb : Below w.heap.size w w') : XRow Sl b off L w' := by
  intro i hi
  obtain ⟨h0, a, n, c, h1, h2⟩ := h i hi
  have hlt := lt_of_cell h0
  exact ⟨(hb.cell (p := ⟨b, _, none⟩) hlt).trans h0, a, n, c, (hb.cell (p := ⟨b, _, none⟩) hlt).trans h1, hS _ _ h2⟩
def XSl {α : Type} (Sl : Value → α → World → Prop) (v : Value) (L : List (List UInt8 × α)) (W : World) : Prop := (∃ a cap, v = .slice a 0 cap ∧ L = []) ∨ ∃ b off cap, v = .slice (some ⟨b, off, none⟩) L.length cap ∧ XRow Sl b off L W ∧ 0 < L.length
theorem XSl.below {α : Type} {Sl : Value → α → World → Prop} {v : Value} {L : List (List UInt8 × α)} {w w' : World} (h : XSl Sl v L w) (hS : ∀ u x, Sl u x w → Sl u x w') (hb : Below w.heap.size w w') : XSl Sl v L w' := by
  rcases h with h | ⟨b, off, cap, h1, h2, h3⟩
  · exact Or.inl h
  · exact Or.inr ⟨b, off, cap, h1, h2.below hS hb, h3⟩
abbrev ArgSl : Value → List (List UInt8 × List Cel) → World → Prop := XSl CelSl
abbrev DirSl : Value → List (List UInt8 × List (List UInt8 × List Cel)) → World → Prop := XSl ArgSl
theorem ArgSl.below {v : Value} {L : List (List UInt8 × List Cel)} {w w' : World} (h : ArgSl v L w) (hb : Below w.heap.size w w') : ArgSl v L w' := XSl.below h (fun _ _ h => h.below hb) hb
theorem DirSl.below {v : Value} {L : List (List UInt8 × List (List UInt8 × List Cel))} {w w' : World} (h : DirSl v L w) (hb : Below w.heap.size w w') : DirSl v L w' := XSl.below h (fun _ _ h => ArgSl.below h hb) hb
theorem xFlat_get {α : Type} : ∀ (L : List (List UInt8 × α)) (U : List Value) (i : Nat) (h : i < L.length) (h' : i < U.length), U.length = L.length → (xFlat L U)[i * 2]? = some (.string ⟨L[i].1.toArray⟩) ∧ (xFlat L U)[i * 2 + 1]? = some U[i]
  | [], U, i, h, h', _ => by simp at h
  | (n, x) :: r, [], i, h, h', _ => by simp at h'
  | (n, x) :: r, u :: us, 0, h, h', _ => by simp [xFlat]
  | (n, x) :: r, u :: us, i + 1, h, h', hl => by
    have ih := xFlat_get r us i (by simpa using h) (by simpa using h') (by simpa using hl)
    rw [show (i + 1) * 2 = i * 2 + 1 + 1 from by omega]
    simp only [xFlat, List.getElem?_cons_succ, List.getElem_cons_succ]
    exact ih
theorem OwnX.xsl {α : Type} {T : TypeId} {Own Sl : Value → α → World → Prop} {B : Nat} {v : Value} {L : List (List UInt8 × α)} {W : World} (h : OwnX T Own B v L W) (hS : ∀ u x, Own u x W → Sl u x W) : XSl Sl v L W := by
  obtain ⟨U, hU, h2, h3⟩ := h
  rcases h2.2 with ⟨rfl, hz⟩ | ⟨g, cap, cur, rfl, hB, hg, hn, hc, hcs, ht⟩
  · exact Or.inl ⟨_, _, rfl, List.eq_nil_of_length_eq_zero hz⟩
  · by_cases h0 : L = []
    · subst h0
      exact Or.inl ⟨_, _, rfl, rfl⟩
    refine Or.inr ⟨g, 0, cap, rfl, ?_, List.length_pos_iff.2 h0⟩
    intro i hi
    obtain ⟨g0, g1⟩ := xFlat_get L U i hi (by omega) hU
    have F : ∀ j u, (xFlat L U)[j]? = some u → W.cell? ⟨g, 0 + j, none⟩ = some u := by
      intro j u hj
      have hjl : j < L.length * 2 := by rw [← xFlat_len L U hU]; exact (List.getElem?_eq_some_iff.1 hj).1
      rw [← ht, List.getElem?_take, if_pos hjl] at hj
      rw [Nat.zero_add]
      refine (Lib.cell_of_heap hg j).trans ?_
      simpa using hj
    obtain ⟨⟨a, n, c, e⟩, hx⟩ := h3 i hi (by omega)
    have e1 := F _ _ g1
    rw [e] at e1 hx
    exact ⟨F _ _ g0, a, n, c, e1, hS _ _ hx⟩
theorem OwnA.sl {B : Nat} {v : Value} {L : List (List UInt8 × List Cel)} {W : World} (h : OwnA B v L W) : ArgSl v L W := OwnX.xsl h fun u x hx => hx.sl
theorem OwnD.sl {B : Nat} {v : Value} {L : List (List UInt8 × List (List UInt8 × List Cel))} {W : World} (h : OwnD B v L W) : DirSl v L W := OwnX.xsl h fun u x hx => OwnA.sl hx
end Go.Proofs.YtgaknbnhmoddcaaGreatDoor
namespace Go.Proofs.YtgaknbnhmoddcaaGreatDoor
open Go.RowKit
/-- An argument's tokens; arguments'. -/
def argK (x : List UInt8 × List Cel) : List Tok := nmT x.1 :: mkT [58] :: tokK 16 x.2
def argsK (A : List (List UInt8 × List Cel)) : List Tok := if A.isEmpty then [] else mkT [40] :: (A.flatMap argK ++ [mkT [41]])
def roomA : List (List UInt8 × List Cel) → Nat
  | [] => 0
  | x :: r => 4 * (x.2.length + 1) + 2 + roomA r
/-- Arguments whose values may be. -/
def ArgsOk (A : List (List UInt8 × List Cel)) : Prop := ∀ x ∈ A, 0 < x.2.length ∧ x.2.length ≤ 2048 ∧ NumV x.2 ∧ valN 16 x.2 = some x.2.length
theorem argK_len (x : List UInt8 × List Cel) (h : valN 16 x.2 = some x.2.length) : (argK x).length ≤ 4 * (x.2.length + 1) + 2 := by
  have := tokK_len 16 x.2 x.2.length h
  simp only [argK, List.length_cons]
  omega
theorem argsK_len : ∀ A : List (List UInt8 × List Cel), ArgsOk A → (A.flatMap argK).length ≤ roomA A
  | [], _ => Nat.le_refl _
  | x :: r, h => by
    have h1 := argK_len x (h x (by simp)).2.2.2
    have h2 := argsK_len r (fun y hy => h y (by simp [hy]))
    simp only [List.flatMap_cons, List.length_append, roomA]
    omega
set_option maxRecDepth 100000 in
theorem up_args_none (q : Nat) (a : Option Addr) (c : Nat) (W : World) :
    Calls Tryz.prog 44 #[.pointer (some ⟨q, 0, none⟩), .slice a 0 c] W fun e w' => e = .returned (.tuple #[]) ∧ W = w' := by
  go_enter Tryz.func44, Tryz.ntmps44
  go_wp2_with fail
  go_returns
  exact ⟨rfl, rfl⟩
set_option maxRecDepth 100000 in
set_option maxHeartbeats 4000000 in
theorem up_args_go (w0 : World) (A : List (List UInt8 × List Cel)) (q b off cap : Nat) (hA : XRow CelSl b off A w0) (hok : ArgsOk A) (hpos : 0 < A.length) (hl : A.length ≤ 100000) (hET : EnvT w0) (hq0 : w0.heap.size ≤ q) (W : World) (pv : Value) (L : List Tok) (hP : PutS q pv L W) (hW : Below w0.heap.size w0 W) (hroom : L.length + 1 + roomA A + 1 ≤ 90000) :
    Calls Tryz.prog 44 #[.pointer (some ⟨q, 0, none⟩), .slice (some ⟨b, off, none⟩) A.length cap] W fun e w' => e = .returned (.tuple #[]) ∧ (∃ v', PutS q v' (L ++ (mkT [40] :: (A.flatMap argK ++ [mkT [41]]))) w') ∧ RK q W w' := by
  have hq := hP.lt
  have HEL : Hid (∀ (i : Nat) (h : i < A.length), ∃ b' o' c', w0.cell? ⟨b, off + i * 2, none⟩ = some (.string ⟨A[i].1.toArray⟩) ∧ w0.cell? ⟨b, off + i * 2 + 1, none⟩ = some (.slice (some ⟨b', o', none⟩) A[i].2.length c') ∧ CelRow b' o' A[i].2 w0 ∧ b' < w0.heap.size) := Lib.hid fun i hi => by
    obtain ⟨e0, a, n, c, e1, hy⟩ := hA i hi
    have hp := (hok A[i] (List.getElem_mem hi)).1
    rcases hy with ⟨a2, c2, e2, e3, _⟩ | ⟨b', o', c', e2, e3, e4⟩
    · rw [e3] at hp; simp at hp
    · rw [e2] at e1
      exact ⟨b', o', c', e0, e1, e3, e3.lt e4⟩
  have HOK := Lib.hid hok
  have HBW := Lib.hid hW
  have HET := Lib.hid hET
  have HROOM := Lib.hid hroom
  have HLL : Hid (A.length = A.length) := Lib.hid rfl
  obtain ⟨R, hR⟩ : ∃ R, L ++ (mkT [40] :: (A.flatMap argK ++ [mkT [41]])) = R := ⟨_, rfl⟩
  have HR0 : Hid ((L ++ [mkT [40]]) ++ ((A.drop 0).flatMap argK ++ [mkT [41]]) = R) := Lib.hid (by rw [← hR]; simp)
  rw [hR]
  obtain ⟨n, hn⟩ : ∃ n, A.length = n := ⟨_, rfl⟩
  have HN := Lib.hid hn
  rw [hn]
  rw [hn] at hpos hl
  have hn0 : ((n : Int) == 0) = false := by rw [beq_eq_false_iff_ne]; omega
  have hn1 : ¬ (n : Int) = 0 := by omega
  obtain ⟨W1, hW1⟩ : ∃ W1, W.alloc (.cells #[.string ⟨#[40]⟩] 9 (0, 0)) = W1 := ⟨_, rfl⟩
  have hb1 : Below W.heap.size W W1 := by rw [← hW1]; exact (Below.refl _ _).alloc (Nat.le_refl _) _
  have HP1 := Lib.hid (hP.below hb1)
  have HK1 : Hid (RK q W W1) := Lib.hid (rk_below hb1 (Nat.le_of_lt hq))
  have hl1 : W1.cell? ⟨W.heap.size, 0, none⟩ = some (.string ⟨#[40]⟩) := by rw [← hW1]; exact new_cell0 _ _ _
  have hne : W.heap.size ≠ q := by omega
  have hLL : L.length ≤ 100000 := by omega
  have HW1 := Lib.hid hW1
  clear hA hok hET hW hR hn hP hb1 hW1 hroom
  go_enter Tryz.func44, Tryz.ntmps44
  go_wp2_with fail
  rw [HW1.out]
  refine (put_add q pv L 4 4 rfl ⟨#[40]⟩ _ 1 W1 HP1.out hl1 hne hLL).mono ?_; rintro e w1 ⟨rfl, ⟨pv1, hx1⟩, hx2⟩
  have HP2 : Hid (PutS q pv1 (L ++ [mkT [40]]) w1) := Lib.hid hx1
  have HK2 := Lib.hid (HK1.out.trans hx2)
  clear hx1 hx2 hl1 hne HP1 HK1 hLL
  go_wp2_with fail
  go_loopg [14] n (fun gk iv wr => ∃ (i : Nat) (L1 : List Tok) (pv1 : Value), iv = .int .i64 (i : Int) ∧ (gk + i ≤ n ∧ n ≤ gk + i) ∧ Hid (L1.length + roomA (A.drop i) + 1 ≤ 90000) ∧ Hid (L1 ++ ((A.drop i).flatMap argK ++ [mkT [41]]) = R) ∧ Hid (PutS q pv1 L1 wr) ∧ Hid (RK q W wr))
  case atStart => exact ⟨0, _, pv1, by go_num, ⟨by omega, by omega⟩, Lib.hid (by have := HROOM.out; simp only [List.length_append, List.length_cons, List.length_nil, List.drop_zero]; omega), HR0, HP2, HK2⟩
  case round =>
    clear HP2 HK2 HR0
    rename World => wr
    obtain ⟨i, L1, pv1, rfl, ⟨hj, hj'⟩, HLEN, HRR, HPr, HKr⟩ := hrel
    have hqr := HPr.out.lt
    have hL1 : L1.length ≤ 90000 := by have := HLEN.out; omega
    by_cases hg0 : gk = 0
    · subst hg0
      have hin : i = n := by omega
      have hlt : ¬ (i : Int) < (n : Int) := by omega
      have HF : Hid (L1 ++ [mkT [41]] = R) := Lib.hid (by have := HRR.out; rw [List.drop_of_length_le (by have := HN.out; omega)] at this; simpa using this)
      have hb5 : Below wr.heap.size wr (wr.alloc (.cells #[.string ⟨#[41]⟩] 9 (0, 0))) := (Below.refl _ _).alloc (Nat.le_refl _) _
      have HP5 := Lib.hid (HPr.out.below hb5)
      have HK5 : Hid (RK q W _) := Lib.hid (HKr.out.trans (rk_below hb5 (Nat.le_of_lt hqr)))
      have hne5 : wr.heap.size ≠ q := by omega
      clear hj hj' hb5 hin
      go_wp2_with fail
      refine (put_add q pv1 L1 4 4 rfl ⟨#[41]⟩ _ 1 _ HP5.out (new_cell0 _ _ _) hne5 (by omega)).mono ?_; rintro e wx ⟨rfl, ⟨pvx, hx1⟩, hx2⟩
      have HFIN : Hid ((∃ v', PutS q v' R wx) ∧ RK q W wx) := Lib.hid (by
        rw [← HF.out]
        exact ⟨⟨_, hx1⟩, HK5.out.trans hx2⟩)
      clear hx1 hx2
      go_wp2_with fail
      go_returns
      exact ⟨rfl, HFIN.out⟩
    · obtain ⟨g1, rfl⟩ : ∃ g1, gk = g1 + 1 := ⟨gk - 1, by omega⟩
      have hin : i < n := by omega
      have hil : i < A.length := by have := HN.out; omega
      clear hg0
      obtain ⟨b', o', c', e0, e1, hrow, hblt⟩ := HEL.out i hil
      obtain ⟨hm0, hm1, hm2, hm3⟩ := HOK.out A[i] (List.getElem_mem hil)
      have hbw : Below w0.heap.size w0 wr := HBW.out.trans (HKr.out.1.mono hq0)
      have r0 : wr.cell? ⟨b, off + i * 2, none⟩ = some (.string ⟨(A[i]'hil).1.toArray⟩) := (hbw.cell (p := ⟨b, _, none⟩) (lt_of_cell e0)).trans e0
      have r1 : wr.cell? ⟨b, off + i * 2 + 1, none⟩ = some (.slice (some ⟨b', o', none⟩) (A[i]'hil).2.length c') := (hbw.cell (p := ⟨b, _, none⟩) (lt_of_cell e0)).trans e1
      have hdrop : A.drop i = A[i] :: A.drop (i + 1) := List.drop_eq_getElem_cons hil
      have hrr := HRR.out
      have hln := HLEN.out
      have htl := tokK_len 16 (A[i]'hil).2 _ hm3
      rw [hdrop, List.flatMap_cons] at hrr
      rw [hdrop, roomA] at hln
      have HV : Hid (∀ (W' : World) (pv' : Value) (L' : List Tok), RK q W W' → L'.length + 4 * ((A[i]'hil).2.length + 1) ≤ 90000 → PutS q pv' L' W' → Calls Tryz.prog 35 #[.pointer (some ⟨q, 0, none⟩), .slice (some ⟨b', o', none⟩) (A[i]'hil).2.length c', .int .i64 0] W' fun e w' => (∃ z, e = .returned (.int .i64 z)) ∧ (∃ v', PutS q v' (L' ++ tokK 16 (A[i]'hil).2) w') ∧ RK q W' w') := Lib.hid fun W' pv' L' h0 h1 h2 => by
        have hw := HBW.out.trans (h0.1.mono hq0)
        refine (up_any w0 (A[i]'hil).2 q b' o' c' hm2 hm1 HET.out hq0 (by omega) 16 W' pv' L' 0 (A[i]'hil).2.length hm0 (by rw [List.drop_zero]; exact hm3) h1 h2 (hrow.below hw hblt) hw).mono ?_
        rintro e w' ⟨h3, h4, h5⟩
        rw [List.drop_zero] at h4
        exact ⟨⟨_, h3⟩, h4, h5⟩
      have HNX : Hid (L1.length + (2 + 4 * ((A[i]'hil).2.length + 1)) + roomA (A.drop (i + 1)) + 1 ≤ 90000 ∧ (tokK 16 (A[i]'hil).2).length + 2 ≤ 4 * (A[i]'hil).2.length) := Lib.hid ⟨by omega, htl⟩
      have HRX : Hid ((((L1 ++ [nmT (A[i]'hil).1]) ++ [mkT [58]]) ++ tokK 16 (A[i]'hil).2) ++ ((A.drop (i + 1)).flatMap argK ++ [mkT [41]]) = R) := Lib.hid (by rw [← hrr]; simp [argK])
      obtain ⟨nb, hnb⟩ : ∃ nb : ByteArray, (⟨(A[i]'hil).1.toArray⟩ : ByteArray) = nb := ⟨_, rfl⟩
      have hnm : nmT (A[i]'hil).1 = ⟨1, nb.data.toList, 0⟩ := by rw [← hnb]; rfl
      rw [hnm] at HRX
      rw [hnb] at r0
      clear e0 e1 hrow hblt hm0 hm1 hm2 hm3 hdrop hrr hln htl hnb hnm hbw
      generalize (A[i]'hil).2.length = vn at *
      generalize tokK 16 (A[i]'hil).2 = tj at *
      have i1 : (i : Int).toNat = i := by omega
      have i2 : (0 : Int) ≤ (i : Int) := by omega
      have i3 : (i : Int) < (n : Int) := by omega
      have i4 : IntKind.i64.wrap ((i : Int) + 1) = ((i + 1 : Nat) : Int) := by rw [IntWalk.i64_in _ (by omega)]; omega
      obtain ⟨w2, hw2⟩ : ∃ w2, (wr.alloc (.cells #[.string nb, .slice (some ⟨b', o', none⟩) vn c'] 65 (0, 0))).alloc (.cells #[.string nb] 9 (0, 0)) = w2 := ⟨_, rfl⟩
      have hb2 : Below wr.heap.size wr w2 := by rw [← hw2]; exact ((Below.refl _ _).alloc (Nat.le_refl _) _).alloc (by simp) _
      have HP2 := Lib.hid (HPr.out.below hb2)
      have HK2 : Hid (RK q W w2) := Lib.hid (HKr.out.trans (rk_below hb2 (Nat.le_of_lt hqr)))
      have HC2 : Hid (w2.heap[wr.heap.size]? = some (.cells #[.string nb, .slice (some ⟨b', o', none⟩) vn c'] 65 (0, 0))) := Lib.hid (by rw [← hw2]; exact heap_old (heap_new _ _ _ rfl))
      have hl2 : w2.cell? ⟨wr.heap.size + 1, 0, none⟩ = some (.string nb) := by rw [← hw2]; exact Lib.cell_of_heap (heap_new _ _ _ (by simp)) 0
      have hne2 : wr.heap.size + 1 ≠ q := by omega
      have hcq : wr.heap.size ≠ q := by omega
      have HW2 := Lib.hid hw2
      have HJJ := Lib.hid (And.intro hj hj')
      clear hb2 hw2 hj hj' hil
      go_wp2_with fail
      rw [HW2.out]
      refine (put_add q pv1 L1 1 1 rfl nb _ 1 w2 HP2.out hl2 hne2 (by omega)).mono ?_; rintro e w3 ⟨rfl, ⟨pv3, hx1⟩, hx2⟩
      have HP3 := Lib.hid hx1
      have HK3 := Lib.hid (HK2.out.trans hx2)
      have HC3 := Lib.hid (hx2.2 _ _ HC2.out hcq)
      clear hx1 hx2 hl2 hne2 HP2 HK2 HC2 r0 r1 HW2
      generalize wr.heap.size = cb at *
      have hq3 := HP3.out.lt
      have hb4 : Below w3.heap.size w3 (w3.alloc (.cells #[.string ⟨#[58]⟩] 9 (0, 0))) := (Below.refl _ _).alloc (Nat.le_refl _) _
      have HP4 := Lib.hid (HP3.out.below hb4)
      have HK4 := Lib.hid (HK3.out.trans (rk_below hb4 (Nat.le_of_lt hq3)))
      have HC4 := Lib.hid ((hb4.block cb (heap_lt HC3.out)).trans HC3.out)
      have hne4 : w3.heap.size ≠ q := by omega
      clear hb4
      go_wp2_with fail
      refine (put_add q pv3 _ 4 4 rfl ⟨#[58]⟩ _ 1 _ HP4.out (new_cell0 _ _ _) hne4 (by simp only [List.length_append, List.length_cons, List.length_nil]; omega)).mono ?_; rintro e w5 ⟨rfl, ⟨pv5, hx1⟩, hx2⟩
      have HP5 : Hid (PutS q pv5 ((L1 ++ [⟨1, nb.data.toList, 0⟩]) ++ [mkT [58]]) w5) := Lib.hid hx1
      have HK5 := Lib.hid (HK4.out.trans hx2)
      have HC5 := Lib.hid (hx2.2 _ _ HC4.out hcq)
      have d1 : w5.cell? ⟨cb, 1, none⟩ = some (.slice (some ⟨b', o', none⟩) vn c') := by rw [Lib.cell_of_heap HC5.out]; rfl
      clear hx1 hx2 hne4 HP4 HK4 HC4 HP3 HK3 HC3
      go_wp2_with fail
      refine (HV.out w5 pv5 _ HK5.out (by have := HNX.out.1; simp only [List.length_append, List.length_cons, List.length_nil]; omega) HP5.out).mono ?_; rintro e w8 ⟨⟨z, rfl⟩, ⟨pv8, hx1⟩, hx2⟩
      have HP8 := Lib.hid hx1
      have HK8 := Lib.hid (HK5.out.trans hx2)
      clear hx1 hx2
      go_wp2_with fail
      obtain ⟨hj, hj'⟩ := HJJ.out
      go_roundg g1
      case measure => omega
      case rel => exact ⟨i + 1, _, pv8, by first | rfl | go_num, ⟨by omega, by omega⟩, Lib.hid (by have := HNX.out; simp only [List.length_append, List.length_cons, List.length_nil]; omega), HRX, HP8, HK8⟩
theorem up_args (w0 : World) (A : List (List UInt8 × List Cel)) (q : Nat) (u : Value) (hA : ArgSl u A w0) (hok : ArgsOk A) (hl : A.length ≤ 100000) (hET : EnvT w0) (hq0 : w0.heap.size ≤ q) (W : World) (pv : Value) (L : List Tok) (hP : PutS q pv L W) (hW : Below w0.heap.size w0 W) (hroom : L.length + 1 + roomA A + 1 ≤ 90000) :
    Calls Tryz.prog 44 #[.pointer (some ⟨q, 0, none⟩), u] W fun e w' => e = .returned (.tuple #[]) ∧ (∃ v', PutS q v' (L ++ argsK A) w') ∧ RK q W w' := by
  rcases hA with ⟨a, c, rfl, rfl⟩ | ⟨b, off, cap, rfl, hrow, hpos⟩
  · refine (up_args_none q a c W).mono ?_
    rintro e w' ⟨h1, rfl⟩
    exact ⟨h1, ⟨pv, by simpa [argsK] using hP⟩, RK.refl _ _⟩
  · have he : A.isEmpty = false := by cases A with
      | nil => simp at hpos
      | cons x r => rfl
    unfold argsK
    rw [he]
    exact up_args_go w0 A q b off cap hrow hok hpos hl hET hq0 W pv L hP hW hroom
end Go.Proofs.YtgaknbnhmoddcaaGreatDoor
namespace Go.Proofs.YtgaknbnhmoddcaaGreatDoor
open Go.RowKit
/-- Arguments that may be, behind names. -/
def namedB : List (List UInt8) → List (List UInt8 × List Cel) → Bool
  | _, [] => true
  | nm, x :: r => !nm.contains x.1 && nameB x.1 && litB x.2 && namedB (x.1 :: nm) r
def ArgsSm (A : List (List UInt8 × List Cel)) : Prop := A.length ≤ 100000 ∧ ∀ x ∈ A, x.1.length ≤ 1000000 ∧ SmallV x.2
set_option maxRecDepth 100000 in
theorem lnamed_none (a : Option Addr) (c : Nat) (w : World) :
    Calls Tryz.prog 43 #[.slice a 0 c] w fun e w' => e = .returned (.bool true) ∧ Below w.heap.size w w' := by
  have hmm := @run_makeMap Tryz.prog
  have HB : Hid (Below w.heap.size w (w.alloc (.map #[] 0))) := Lib.hid ((Below.refl _ _).alloc (Nat.le_refl _) _)
  go_enter Tryz.func43, Tryz.ntmps43
  go_wp2_with fail
  refine wp_loop_rounds 1 ?_; rw [rounds_succ]
  go_wp2_with fail
  go_ret
  exact ⟨rfl, HB.out⟩
set_option maxRecDepth 100000 in
set_option maxHeartbeats 4000000 in
theorem lnamed_go (A : List (List UInt8 × List Cel)) (b off cap : Nat) (w : World) (hA : XRow CelSl b off A w) (hpos : 0 < A.length) (hs : ArgsSm A) (hE : EnvU w) :
    Calls Tryz.prog 43 #[.slice (some ⟨b, off, none⟩) A.length cap] w fun e w' => e = .returned (.bool (namedB [] A)) ∧ Below w.heap.size w w' := by
  have HA := Lib.hid hA
  have HS := Lib.hid hs.2
  have hl := hs.1
  have HE := Lib.hid hE
  obtain ⟨Z, hZ⟩ : ∃ Z, namedB [] A = Z := ⟨_, rfl⟩
  have HZ0 : Hid (namedB [] (A.drop 0) = Z) := Lib.hid hZ
  rw [hZ]
  obtain ⟨n, hn⟩ : ∃ n, A.length = n := ⟨_, rfl⟩
  have HN := Lib.hid hn
  rw [hn]
  rw [hn] at hl hpos
  have hmm := @run_makeMap Tryz.prog
  obtain ⟨bm, hbm⟩ : ∃ bm, w.heap.size = bm := ⟨_, rfl⟩
  obtain ⟨w1, hw1⟩ : ∃ w1, w.alloc (.map #[] 0) = w1 := ⟨_, rfl⟩
  have HB1 : Hid (Below w.heap.size w w1) := Lib.hid (by rw [← hw1]; exact (Below.refl _ _).alloc (Nat.le_refl _) _)
  have HM1 : Hid (NamesM bm [] w1) := Lib.hid (by rw [← hw1, ← hbm]; exact NamesM.made w)
  have HW1 := Lib.hid hw1
  have HBM := Lib.hid hbm
  clear hA hs hE hZ hn hbm hw1
  go_enter Tryz.func43, Tryz.ntmps43
  go_wp2_with fail
  try rw [HW1.out]
  try simp only [HBM.out]
  go_loopg [9] n (fun gk iv wr => ∃ (i : Nat) (nm : List (List UInt8)), iv = .int .i64 (i : Int) ∧ (gk + i ≤ n ∧ n ≤ gk + i) ∧ nm.length ≤ i ∧ Hid (NamesM bm nm wr) ∧ Hid (Below w.heap.size w wr) ∧ Hid (namedB nm (A.drop i) = Z))
  case atStart => exact ⟨0, [], by go_num, ⟨by omega, by omega⟩, Nat.le_refl _, HM1, HB1, HZ0⟩
  case round =>
    clear HM1 HB1 HZ0 HW1 hmm
    rename World => wr
    obtain ⟨i, nm, rfl, ⟨hj, hj'⟩, hnm, HM, HB, HQ⟩ := hrel
    by_cases hg0 : gk = 0
    · subst hg0
      have hlt : ¬ (i : Int) < (n : Int) := by omega
      have HF : Hid (true = Z) := Lib.hid (by have := HQ.out; rw [List.drop_of_length_le (by have := HN.out; omega)] at this; exact this)
      clear hj hj'
      go_wp2_with fail
      go_ret
      exact ⟨ret_b HF.out, HB.out⟩
    · obtain ⟨g1, rfl⟩ : ∃ g1, gk = g1 + 1 := ⟨gk - 1, by omega⟩
      have hil : i < A.length := by have := HN.out; omega
      clear hg0
      have hbw := HB.out
      obtain ⟨e0, a, vn, c, e1, hy⟩ := HA.out i hil
      obtain ⟨hx1, hx2⟩ := HS.out A[i] (List.getElem_mem hil)
      have r0 : wr.cell? ⟨b, off + i * 2, none⟩ = some (.string ⟨(A[i]'hil).1.toArray⟩) := (hbw.cell (p := ⟨b, _, none⟩) (lt_of_cell e0)).trans e0
      have r1 : wr.cell? ⟨b, off + i * 2 + 1, none⟩ = some (.slice a vn c) := (hbw.cell (p := ⟨b, _, none⟩) (lt_of_cell e0)).trans e1
      have hq := HQ.out
      rw [List.drop_eq_getElem_cons hil, namedB] at hq
      have HLT : Hid (∀ W, Below w.heap.size w W → Calls Tryz.prog 34 #[.slice a vn c] W fun e w' => e = .returned (.bool (litB (A[i]'hil).2)) ∧ Below W.heap.size W w') := Lib.hid fun W hW => lliteral_any _ _ W (hy.below hW) hx2 (HE.out.below hW)
      obtain ⟨nb, hnb⟩ : ∃ nb : ByteArray, (⟨(A[i]'hil).1.toArray⟩ : ByteArray) = nb := ⟨_, rfl⟩
      have hnd : (A[i]'hil).1 = nb.data.toList := by rw [← hnb]
      have hnz : nb.size ≤ 1000000 := by rw [← bsz, ← hnd]; exact hx1
      rw [hnb] at r0
      rw [hnd] at hq
      have HNM : Hid (∀ W, Calls Tryz.prog 38 #[.string nb] W fun e w' => e = .returned (.bool (nameB nb.data.toList)) ∧ W = w') := Lib.hid fun W => lname_any nb hnz W
      have HLK : Hid (∀ W, NamesM bm nm W → (Instr.lookup 136 (.map (some bm)) (.string nb) false).run Tryz.prog W = .ok (.int .i64 (if nm.contains nb.data.toList then 1 else 0)) W) := Lib.hid fun W hW => by
        have := hW.lookup nb (by unfold maxLen; omega)
        rw [among_contains] at this; exact this
      have HUP : Hid (∀ W, NamesM bm nm W → ∃ W', (Instr.mapUpdate 136 (.map (some bm)) (.string nb) (.int .i64 1)).run Tryz.prog W = .ok () W' ∧ NamesM bm (nb.data.toList :: nm) W' ∧ W.grownBy W' (some bm)) := Lib.hid fun W hW => hW.update nb (by unfold maxLen; omega) (by omega)
      have HQ2 := Lib.hid hq
      clear e0 e1 hy hx1 hx2 hnb hnd hq hbw
      generalize litB (A[i]'hil).2 = lb at *
      generalize nameB nb.data.toList = nbb at *
      have i1 : (i : Int).toNat = i := by omega
      have i2 : (0 : Int) ≤ (i : Int) := by omega
      have i3 : (i : Int) < (n : Int) := by omega
      have i4 : IntKind.i64.wrap ((i : Int) + 1) = ((i + 1 : Nat) : Int) := by rw [IntWalk.i64_in _ (by omega)]; omega
      have HZb := HB.out.size
      obtain ⟨w2, hw2⟩ : ∃ w2, wr.alloc (.cells #[.string nb, .slice a vn c] 65 (0, 0)) = w2 := ⟨_, rfl⟩
      have hb2 : Below wr.heap.size wr w2 := by rw [← hw2]; exact (Below.refl _ _).alloc (Nat.le_refl _) _
      have HB2 : Hid (Below w.heap.size w w2) := Lib.hid (HB.out.trans (hb2.mono HZb))
      have HM2 := Lib.hid (HM.out.below hb2)
      have HC2 : Hid (w2.heap[wr.heap.size]? = some (.cells #[.string nb, .slice a vn c] 65 (0, 0))) := Lib.hid (by rw [← hw2]; exact heap_new _ _ _ rfl)
      have d0 : w2.cell? ⟨wr.heap.size, 0, none⟩ = some (.string nb) := by rw [Lib.cell_of_heap HC2.out]; rfl
      have d1 : w2.cell? ⟨wr.heap.size, 1, none⟩ = some (.slice a vn c) := by rw [Lib.cell_of_heap HC2.out]; rfl
      have hlk := HLK.out w2 HM2.out
      have hbmne : wr.heap.size ≠ bm := by have := HM.out.lt; omega
      have HW2 := Lib.hid hw2
      have HJJ := Lib.hid (And.intro hj hj')
      clear hb2 hw2 hj hj' hil
      cases hc : nm.contains nb.data.toList with
      | true =>
        rw [hc] at hlk
        rw [if_pos rfl] at hlk
        have HF : Hid (false = Z) := Lib.hid (by have := HQ2.out; rw [hc] at this; simpa using this)
        clear hc
        go_upto_region 5 with fail
        rw [HW2.out]
        go_wp2_with fail
        go_ret
        exact ⟨ret_b HF.out, HB2.out⟩
      | false =>
        rw [hc] at hlk
        rw [if_neg (by simp)] at hlk
        cases nbb with
        | false =>
          have HF : Hid (false = Z) := Lib.hid (by have := HQ2.out; simpa using this)
          clear hc
          go_upto_region 5 with fail
          rw [HW2.out]
          go_wp2_with fail
          refine (HNM.out w2).mono ?_; rintro e w3 ⟨rfl, rfl⟩
          go_wp2_with fail
          go_ret
          exact ⟨ret_b HF.out, HB2.out⟩
        | true =>
          cases lb with
          | false =>
            have HF : Hid (false = Z) := Lib.hid (by have := HQ2.out; simpa using this)
            clear hc
            go_upto_region 5 with fail
            rw [HW2.out]
            go_wp2_with fail
            refine (HNM.out w2).mono ?_; rintro e w3 ⟨rfl, rfl⟩
            go_wp2_with fail
            refine (HLT.out w2 HB2.out).mono ?_; rintro e w3 ⟨rfl, hb⟩
            have HB3 := Lib.hid (HB2.out.trans (hb.mono HB2.out.size))
            clear hb
            go_wp2_with fail
            go_ret
            exact ⟨ret_b HF.out, HB3.out⟩
          | true =>
            have HF : Hid (namedB (nb.data.toList :: nm) (A.drop (i + 1)) = Z) := Lib.hid (by have := HQ2.out; rw [hc] at this; simpa using this)
            clear hc
            go_upto_region 5 with fail
            rw [HW2.out]
            go_wp2_with fail
            refine (HNM.out w2).mono ?_; rintro e w3 ⟨rfl, rfl⟩
            go_wp2_with fail
            refine (HLT.out w2 HB2.out).mono ?_; rintro e w3 ⟨rfl, hb⟩
            have HB3 := Lib.hid (HB2.out.trans (hb.mono HB2.out.size))
            have HM3 := Lib.hid (HM2.out.below hb)
            have HC3 := Lib.hid ((hb.block _ (heap_lt HC2.out)).trans HC2.out)
            have d3 : w3.cell? ⟨wr.heap.size, 0, none⟩ = some (.string nb) := by rw [Lib.cell_of_heap HC3.out]; rfl
            obtain ⟨W4, hu, hM4, hg4⟩ := HUP.out w3 HM3.out
            have HM4 := Lib.hid hM4
            have HB4 : Hid (Below w.heap.size w W4) := Lib.hid (HB3.out.grown hg4 HB3.out.size (fun k hk => by injection hk with hk; have := HBM.out; omega))
            clear hb hM4 hg4 d0 d1 hlk
            go_wp2_with fail
            obtain ⟨hj, hj'⟩ := HJJ.out
            go_roundg g1
            case measure => omega
            case rel => exact ⟨i + 1, _, by first | rfl | go_num, ⟨by omega, by omega⟩, by simp only [List.length_cons]; omega, HM4, HB4, HF⟩
theorem lnamed_any (A : List (List UInt8 × List Cel)) (u : Value) (w : World) (hA : ArgSl u A w) (hs : ArgsSm A) (hE : EnvU w) :
    Calls Tryz.prog 43 #[u] w fun e w' => e = .returned (.bool (namedB [] A)) ∧ Below w.heap.size w w' := by
  rcases hA with ⟨a, c, rfl, rfl⟩ | ⟨b, off, cap, rfl, hrow, hpos⟩
  · exact lnamed_none a c w
  · exact lnamed_go A b off cap w hrow hpos hs hE
end Go.Proofs.YtgaknbnhmoddcaaGreatDoor
namespace Go.Proofs.YtgaknbnhmoddcaaGreatDoor
open Go.RowKit
theorem namedB_ok : ∀ (nm : List (List UInt8)) (A : List (List UInt8 × List Cel)), namedB nm A = true → (∀ x ∈ A, SmallV x.2) → ArgsOk A
  | _, [], _, _ => fun x h => by cases h
  | nm, x :: r, h, hs => by
    rw [namedB] at h
    simp only [Bool.and_eq_true] at h
    have hm : mayB x.2 = true := by have := h.1.2; unfold litB at this; simp only [Bool.and_eq_true] at this; exact this.1
    obtain ⟨h1, h2, h3⟩ := mayB_parts hm
    have ih := namedB_ok _ r h.2 (fun y hy => hs y (by simp [hy]))
    intro y hy
    rcases List.mem_cons.1 hy with rfl | hy
    · exact ⟨h1, h2, fun c hc => ((hs y (by simp)).2 c hc).2.2, h3⟩
    · exact ih y hy
def atoksE (A : List (List UInt8 × List Cel)) : Int := if namedB [] A then 0 else 8
def atoksL (A : List (List UInt8 × List Cel)) : List Tok := if namedB [] A then argsK A else []
theorem OwnT.slf {B : Nat} {v : Value} {L : List Tok} {W : World} (h : OwnT B v L W) : ∃ a n c, v = .slice a n c := by
  rcases h.2 with ⟨e1, _⟩ | ⟨g, cap, cur, e1, _⟩
  · exact ⟨_, _, _, e1⟩
  · exact ⟨_, _, _, e1⟩
set_option maxRecDepth 100000 in
theorem argtoks_any (A : List (List UInt8 × List Cel)) (u : Value) (w : World) (hA : ArgSl u A w) (hu : ∃ a n c, u = .slice a n c) (hs : ArgsSm A) (hroom : roomA A ≤ 80000) (hE : EnvU w) (hT : EnvT w) :
    Calls Tryz.prog 15 #[u] w fun e w' => (∃ v, e = .returned (.tuple #[v, .int .i64 (atoksE A)]) ∧ OwnT w.heap.size v (atoksL A) w') ∧ Below w.heap.size w w' := by
  have HNM := Lib.hid (lnamed_any A u w hA hs hE)
  obtain ⟨a, n, c, rfl⟩ := hu
  unfold atoksE atoksL
  have HS := Lib.hid hs
  have HA := Lib.hid hA
  have HT := Lib.hid hT
  cases hb : namedB [] A with
  | false =>
    rw [hb] at HNM
    clear hA hs hE hT hb hroom
    go_enter Tryz.func15, Tryz.ntmps15
    go_wp2_with fail
    refine HNM.out.mono ?_; rintro e w1 ⟨rfl, hb⟩
    have HB := Lib.hid hb
    clear hb
    go_wp2_with fail
    go_ret2
    exact ⟨⟨_, rfl, OwnT.nil _ _⟩, HB.out⟩
  | true =>
    rw [hb] at HNM
    have HOK := Lib.hid (namedB_ok [] A hb fun x hx => (hs.2 x hx).2)
    have hal := hs.1
    clear hA hs hE hT hb
    go_enter Tryz.func15, Tryz.ntmps15
    go_wp2_with fail
    refine HNM.out.mono ?_; rintro e w1 ⟨rfl, hb⟩
    have hz := hb.size
    have hb2 : Below w.heap.size w (w1.alloc (.cells #[.slice none 0 0] 78 (0, 0))) := hb.alloc hz _
    have HB2 := Lib.hid hb2
    have HP : Hid (PutS w1.heap.size (.slice none 0 0) [] (w1.alloc (.cells #[.slice none 0 0] 78 (0, 0)))) := Lib.hid ⟨heap_new _ _ _ rfl, OwnT.nil _ _⟩
    have HUP := Lib.hid (up_args w1 A w1.heap.size _ (ArgSl.below HA.out hb) HOK.out hal (HT.out.stays hb) (Nat.le_refl _) _ _ [] HP.out ((Below.refl _ _).alloc (Nat.le_refl _) _) (by simp; omega))
    clear hb hb2
    go_wp2_with fail
    refine HUP.out.mono ?_; rintro e w3 ⟨rfl, ⟨v3, h3⟩, hk3⟩
    have h3c := h3.cell
    have HP3 := Lib.hid h3
    have HB3 : Hid (Below w.heap.size w w3) := Lib.hid (HB2.out.trans (hk3.1.mono hz))
    obtain ⟨a3, n3, c3, rfl⟩ := h3.2.slf
    clear h3 hk3
    go_wp2_with fail
    go_ret2
    refine ⟨⟨_, rfl, ?_⟩, HB3.out⟩
    have := HP3.out.2.lessU (B' := w.heap.size) (by omega)
    simpa using this
/-- A directive's tokens; directives'. -/
def dirK (x : List UInt8 × List (List UInt8 × List Cel)) : List Tok := mkT [64] :: nmT x.1 :: argsK x.2
def dirB (x : List UInt8 × List (List UInt8 × List Cel)) : Bool := nameB x.1 && namedB [] x.2
def dtoksE (D : List (List UInt8 × List (List UInt8 × List Cel))) : Int := if D.all dirB then 0 else 8
def dtoksL (D : List (List UInt8 × List (List UInt8 × List Cel))) : List Tok := if D.all dirB then D.flatMap dirK else []
def roomD : List (List UInt8 × List (List UInt8 × List Cel)) → Nat
  | [] => 0
  | x :: r => 4 + roomA x.2 + roomD r
theorem argsK_le (A : List (List UInt8 × List Cel)) (h : ArgsOk A) : (argsK A).length ≤ roomA A + 2 := by
  unfold argsK
  have := argsK_len A h
  split
  · simp
  · simp only [List.length_cons, List.length_append, List.length_nil]; omega
def DirsSm (D : List (List UInt8 × List (List UInt8 × List Cel))) : Prop := D.length ≤ 100000 ∧ ∀ x ∈ D, x.1.length ≤ 1000000 ∧ ArgsSm x.2
set_option maxRecDepth 100000 in
theorem dirtoks_none (a : Option Addr) (c : Nat) (w : World) :
    Calls Tryz.prog 17 #[.slice a 0 c] w fun e w' => e = .returned (.tuple #[.slice none 0 0, .int .i64 0]) ∧ Below w.heap.size w w' := by
  have HB : Hid (Below w.heap.size w (w.alloc (.cells #[.slice none 0 0] 78 (0, 0)))) := Lib.hid ((Below.refl _ _).alloc (Nat.le_refl _) _)
  go_enter Tryz.func17, Tryz.ntmps17
  go_wp2_with fail
  refine wp_loop_rounds 1 ?_; rw [rounds_succ]
  go_wp2_with fail
  go_ret2
  exact ⟨rfl, HB.out⟩
set_option maxRecDepth 100000 in
set_option maxHeartbeats 4000000 in
theorem dirtoks_go (D : List (List UInt8 × List (List UInt8 × List Cel))) (b off cap : Nat) (w : World) (hA : XRow ArgSl b off D w) (hpos : 0 < D.length) (hs : DirsSm D) (hroom : roomD D ≤ 80000) (hE : EnvU w) (hT : EnvT w) :
    Calls Tryz.prog 17 #[.slice (some ⟨b, off, none⟩) D.length cap] w fun e w' => (∃ v, e = .returned (.tuple #[v, .int .i64 (dtoksE D)]) ∧ OwnT w.heap.size v (dtoksL D) w') ∧ Below w.heap.size w w' := by
  have HA := Lib.hid hA
  have HS := Lib.hid hs.2
  have hl := hs.1
  have HE := Lib.hid hE
  have HT := Lib.hid hT
  obtain ⟨ZE, hZE⟩ : ∃ ZE, dtoksE D = ZE := ⟨_, rfl⟩
  obtain ⟨ZL, hZL⟩ : ∃ ZL, dtoksL D = ZL := ⟨_, rfl⟩
  rw [hZE, hZL]
  -- what is still to come, told from where it is
  have HQ0 : Hid ((D.drop 0).all dirB = true → ZE = 0 ∧ ([] : List Tok) ++ (D.drop 0).flatMap dirK = ZL) := Lib.hid fun h => by
    rw [List.drop_zero] at h ⊢
    unfold dtoksE at hZE
    unfold dtoksL at hZL
    rw [h] at hZE hZL
    exact ⟨hZE.symm, by rw [← hZL]; simp⟩
  have HN0 : Hid ((D.drop 0).all dirB = false → ZE = 8 ∧ ZL = []) := Lib.hid fun h => by
    rw [List.drop_zero] at h
    unfold dtoksE at hZE
    unfold dtoksL at hZL
    rw [h] at hZE hZL
    exact ⟨hZE.symm, hZL.symm⟩
  have HR0 : Hid (([] : List Tok).length + roomD (D.drop 0) ≤ 80000) := Lib.hid (by simpa using hroom)
  obtain ⟨n, hn⟩ : ∃ n, D.length = n := ⟨_, rfl⟩
  have HN := Lib.hid hn
  rw [hn]
  rw [hn] at hl hpos
  obtain ⟨q, hq⟩ : ∃ q, w.heap.size = q := ⟨_, rfl⟩
  obtain ⟨w1, hw1⟩ : ∃ w1, w.alloc (.cells #[.slice none 0 0] 78 (0, 0)) = w1 := ⟨_, rfl⟩
  have HB1 : Hid (Below w.heap.size w w1) := Lib.hid (by rw [← hw1]; exact (Below.refl _ _).alloc (Nat.le_refl _) _)
  have HP1 : Hid (PutS q (.slice none 0 0) [] w1) := Lib.hid ⟨by rw [← hw1, ← hq]; exact heap_new _ _ _ rfl, OwnT.nil _ _⟩
  have HW1 := Lib.hid hw1
  have HQQ := Lib.hid hq
  clear hA hs hE hT hZE hZL hn hq hw1 hroom
  go_enter Tryz.func17, Tryz.ntmps17
  go_wp2_with fail
  try rw [HW1.out]
  try simp only [HQQ.out]
  go_loopg [11] n (fun gk iv wr => ∃ (i : Nat) (L1 : List Tok) (pv : Value), iv = .int .i64 (i : Int) ∧ (gk + i ≤ n ∧ n ≤ gk + i) ∧ Hid (PutS q pv L1 wr) ∧ Hid (Below w.heap.size w wr) ∧ Hid (L1.length + roomD (D.drop i) ≤ 80000) ∧ Hid ((D.drop i).all dirB = true → ZE = 0 ∧ L1 ++ (D.drop i).flatMap dirK = ZL) ∧ Hid ((D.drop i).all dirB = false → ZE = 8 ∧ ZL = []))
  case atStart => exact ⟨0, [], _, by go_num, ⟨by omega, by omega⟩, HP1, HB1, HR0, HQ0, HN0⟩
  case round =>
    clear HP1 HB1 HR0 HQ0 HN0 HW1
    rename World => wr
    obtain ⟨i, L1, pv, rfl, ⟨hj, hj'⟩, HP, HB, HRM, HQ, HNO⟩ := hrel
    have hL1 : L1.length ≤ 80000 := by have := HRM.out; omega
    by_cases hg0 : gk = 0
    · subst hg0
      have hlt : ¬ (i : Int) < (n : Int) := by omega
      have hdn : D.drop i = [] := List.drop_of_length_le (by have := HN.out; omega)
      have HF : Hid (ZE = 0 ∧ L1 = ZL) := Lib.hid (by have := HQ.out (by rw [hdn]; rfl); rw [hdn] at this; simpa using this)
      have h3c := HP.out.cell
      obtain ⟨a3, n3, c3, rfl⟩ := HP.out.2.slf
      clear hj hj' hdn
      go_wp2_with fail
      go_ret2
      refine ⟨⟨.slice a3 n3 c3, by rw [HF.out.1]; rfl, ?_⟩, HB.out⟩
      rw [← HF.out.2]
      exact HP.out.2.lessU (by have := HQQ.out; omega)
    · obtain ⟨g1, rfl⟩ : ∃ g1, gk = g1 + 1 := ⟨gk - 1, by omega⟩
      have hil : i < D.length := by have := HN.out; omega
      clear hg0
      have hbw := HB.out
      obtain ⟨e0, a, vn, c, e1, hy⟩ := HA.out i hil
      obtain ⟨hx1, hx2⟩ := HS.out D[i] (List.getElem_mem hil)
      have r0 : wr.cell? ⟨b, off + i * 2, none⟩ = some (.string ⟨(D[i]'hil).1.toArray⟩) := (hbw.cell (p := ⟨b, _, none⟩) (lt_of_cell e0)).trans e0
      have r1 : wr.cell? ⟨b, off + i * 2 + 1, none⟩ = some (.slice a vn c) := (hbw.cell (p := ⟨b, _, none⟩) (lt_of_cell e0)).trans e1
      have hq1 := HQ.out
      have hq2 := HNO.out
      have hrm := HRM.out
      rw [List.drop_eq_getElem_cons hil] at hq1 hq2 hrm
      rw [roomD] at hrm
      simp only [List.all_cons, List.flatMap_cons] at hq1 hq2
      have HNA : Hid (∀ W, Below w.heap.size w W → Calls Tryz.prog 43 #[.slice a vn c] W fun e w' => e = .returned (.bool (namedB [] (D[i]'hil).2)) ∧ Below W.heap.size W w') := Lib.hid fun W hW => lnamed_any _ _ W (ArgSl.below hy hW) hx2 (HE.out.below hW)
      have HPA : Hid (namedB [] (D[i]'hil).2 = true → (argsK (D[i]'hil).2).length ≤ roomA (D[i]'hil).2 + 2 ∧ ∀ (W : World) (pv : Value) (L : List Tok), Below w.heap.size w W → PutS q pv L W → L.length + 2 + roomA (D[i]'hil).2 ≤ 90000 → Calls Tryz.prog 44 #[.pointer (some ⟨q, 0, none⟩), .slice a vn c] W fun e w' => e = .returned (.tuple #[]) ∧ (∃ v', PutS q v' (L ++ argsK (D[i]'hil).2) w') ∧ RK q W w') := Lib.hid fun hb => by
        have hok := namedB_ok [] _ hb fun x hx => (hx2.2 x hx).2
        exact ⟨argsK_le _ hok, fun W pv L hW hP hr => up_args w (D[i]'hil).2 q _ hy hok hx2.1 HT.out (by have := HQQ.out; omega) W pv L hP hW (by omega)⟩
      obtain ⟨nb, hnb⟩ : ∃ nb : ByteArray, (⟨(D[i]'hil).1.toArray⟩ : ByteArray) = nb := ⟨_, rfl⟩
      have hnd : (D[i]'hil).1 = nb.data.toList := by rw [← hnb]
      have hnz : nb.size ≤ 1000000 := by rw [← bsz, ← hnd]; exact hx1
      rw [hnb] at r0
      have HNM : Hid (∀ W, Calls Tryz.prog 38 #[.string nb] W fun e w' => e = .returned (.bool (nameB nb.data.toList)) ∧ W = w') := Lib.hid fun W => lname_any nb hnz W
      have hdb : dirB (D[i]'hil) = (nameB nb.data.toList && namedB [] (D[i]'hil).2) := by unfold dirB; rw [hnd]
      have hdk : dirK (D[i]'hil) = mkT [64] :: ⟨1, nb.data.toList, 0⟩ :: argsK (D[i]'hil).2 := by unfold dirK; rw [hnd]; rfl
      rw [hdb] at hq1 hq2
      rw [hdk] at hq1
      have HQ1 := Lib.hid hq1
      have HQ2 := Lib.hid hq2
      have HRM2 := Lib.hid hrm
      clear e0 e1 hy hx1 hx2 hnb hnd hq1 hq2 hbw hdb hdk hrm
      generalize argsK (D[i]'hil).2 = ak at *
      generalize roomA (D[i]'hil).2 = ra at *
      generalize namedB [] (D[i]'hil).2 = lb at *
      generalize nameB nb.data.toList = nbb at *
      have i1 : (i : Int).toNat = i := by omega
      have i2 : (0 : Int) ≤ (i : Int) := by omega
      have i3 : (i : Int) < (n : Int) := by omega
      have i4 : IntKind.i64.wrap ((i : Int) + 1) = ((i + 1 : Nat) : Int) := by rw [IntWalk.i64_in _ (by omega)]; omega
      have HZb := HB.out.size
      have hqr := HP.out.lt
      obtain ⟨w2, hw2⟩ : ∃ w2, wr.alloc (.cells #[.string nb, .slice a vn c] 61 (0, 0)) = w2 := ⟨_, rfl⟩
      have hb2 : Below wr.heap.size wr w2 := by rw [← hw2]; exact (Below.refl _ _).alloc (Nat.le_refl _) _
      have HB2 : Hid (Below w.heap.size w w2) := Lib.hid (HB.out.trans (hb2.mono HZb))
      have HP2 := Lib.hid (HP.out.below hb2)
      have HC2 : Hid (w2.heap[wr.heap.size]? = some (.cells #[.string nb, .slice a vn c] 61 (0, 0))) := Lib.hid (by rw [← hw2]; exact heap_new _ _ _ rfl)
      have d0 : w2.cell? ⟨wr.heap.size, 0, none⟩ = some (.string nb) := by rw [Lib.cell_of_heap HC2.out]; rfl
      have d1 : w2.cell? ⟨wr.heap.size, 1, none⟩ = some (.slice a vn c) := by rw [Lib.cell_of_heap HC2.out]; rfl
      have hcq : wr.heap.size ≠ q := by omega
      have HW2 := Lib.hid hw2
      have HJJ := Lib.hid (And.intro hj hj')
      clear hb2 hw2 hj hj' hil
      cases nbb with
      | false =>
        have HF : Hid (ZE = 8 ∧ ZL = []) := Lib.hid (HQ2.out (by simp))
        go_upto_region 5 with fail
        rw [HW2.out]
        go_wp2_with fail
        refine (HNM.out w2).mono ?_; rintro e w3 ⟨rfl, rfl⟩
        go_wp2_with fail
        go_ret2
        exact ⟨⟨.slice none 0 0, by rw [HF.out.1]; rfl, by rw [HF.out.2]; exact OwnT.nil _ _⟩, HB2.out⟩
      | true =>
        cases lb with
        | false =>
          have HF : Hid (ZE = 8 ∧ ZL = []) := Lib.hid (HQ2.out (by simp))
          go_upto_region 5 with fail
          rw [HW2.out]
          go_wp2_with fail
          refine (HNM.out w2).mono ?_; rintro e w3 ⟨rfl, rfl⟩
          go_wp2_with fail
          refine (HNA.out w2 HB2.out).mono ?_; rintro e w3 ⟨rfl, hb⟩
          have HB3 := Lib.hid (HB2.out.trans (hb.mono HB2.out.size))
          clear hb
          go_wp2_with fail
          go_ret2
          exact ⟨⟨.slice none 0 0, by rw [HF.out.1]; rfl, by rw [HF.out.2]; exact OwnT.nil _ _⟩, HB3.out⟩
        | true =>
          obtain ⟨hak, hpa⟩ := HPA.out rfl
          have HPX := Lib.hid hpa
          have HRN : Hid (L1.length + 2 + ak.length + roomD (D.drop (i + 1)) ≤ 80000 ∧ L1.length + 4 + ra ≤ 80000) := Lib.hid ⟨by have := HRM2.out; omega, by have := HRM2.out; omega⟩
          have HFY : Hid ((D.drop (i + 1)).all dirB = true → ZE = 0 ∧ (((L1 ++ [mkT [64]]) ++ [⟨1, nb.data.toList, 0⟩]) ++ ak) ++ (D.drop (i + 1)).flatMap dirK = ZL) := Lib.hid fun h => by
            have := HQ1.out (by simp [h])
            exact ⟨this.1, by rw [← this.2]; simp⟩
          have HFN : Hid ((D.drop (i + 1)).all dirB = false → ZE = 8 ∧ ZL = []) := Lib.hid fun h => HQ2.out (by simp [h])
          clear hpa
          go_upto_region 5 with fail
          rw [HW2.out]
          go_wp2_with fail
          refine (HNM.out w2).mono ?_; rintro e w3 ⟨rfl, rfl⟩
          go_wp2_with fail
          refine (HNA.out w2 HB2.out).mono ?_; rintro e w3 ⟨rfl, hb⟩
          have HB3 := Lib.hid (HB2.out.trans (hb.mono HB2.out.size))
          have HP3 := Lib.hid (HP2.out.below hb)
          have HC3 := Lib.hid ((hb.block _ (heap_lt HC2.out)).trans HC2.out)
          clear hb d0 d1
          generalize wr.heap.size = cb at *
          have hq3 := HP3.out.lt
          have hz3 := HB3.out.size
          have hb4 : Below w3.heap.size w3 (w3.alloc (.cells #[.string ⟨#[64]⟩] 9 (0, 0))) := (Below.refl _ _).alloc (Nat.le_refl _) _
          have HP4 := Lib.hid (HP3.out.below hb4)
          have HB4 := Lib.hid (HB3.out.trans (hb4.mono hz3))
          have HC4 := Lib.hid ((hb4.block cb (heap_lt HC3.out)).trans HC3.out)
          have hne4 : w3.heap.size ≠ q := by omega
          clear hb4
          go_wp2_with fail
          refine (put_add q pv L1 4 4 rfl ⟨#[64]⟩ _ 1 _ HP4.out (new_cell0 _ _ _) hne4 (by omega)).mono ?_; rintro e w5 ⟨rfl, ⟨pv5, hx1⟩, hx2⟩
          have HP5 : Hid (PutS q pv5 (L1 ++ [mkT [64]]) w5) := Lib.hid hx1
          have HB5 : Hid (Below w.heap.size w w5) := Lib.hid (HB4.out.trans (hx2.1.mono (by have := HQQ.out; omega)))
          have HC5 := Lib.hid (hx2.2 _ _ HC4.out hcq)
          have d0 : w5.cell? ⟨cb, 0, none⟩ = some (.string nb) := by rw [Lib.cell_of_heap HC5.out]; rfl
          have hz5 := HB5.out.size
          have hq5 := HP5.out.lt
          clear hx1 hx2 HP4 HB4 HC4 hne4 hz3 hq3
          have hb6 : Below w5.heap.size w5 (w5.alloc (.cells #[.string nb] 9 (0, 0))) := (Below.refl _ _).alloc (Nat.le_refl _) _
          have HP6 := Lib.hid (HP5.out.below hb6)
          have HB6 := Lib.hid (HB5.out.trans (hb6.mono hz5))
          have HC6 := Lib.hid ((hb6.block cb (heap_lt HC5.out)).trans HC5.out)
          have hne6 : w5.heap.size ≠ q := by omega
          clear hb6
          go_wp2_with fail
          refine (put_add q pv5 _ 1 1 rfl nb _ 1 _ HP6.out (new_cell0 _ _ _) hne6 (by simp only [List.length_append, List.length_cons, List.length_nil]; omega)).mono ?_; rintro e w7 ⟨rfl, ⟨pv7, hx1⟩, hx2⟩
          have HP7 : Hid (PutS q pv7 ((L1 ++ [mkT [64]]) ++ [⟨1, nb.data.toList, 0⟩]) w7) := Lib.hid hx1
          have HB7 : Hid (Below w.heap.size w w7) := Lib.hid (HB6.out.trans (hx2.1.mono (by have := HQQ.out; omega)))
          have HC7 := Lib.hid (hx2.2 _ _ HC6.out hcq)
          have d1 : w7.cell? ⟨cb, 1, none⟩ = some (.slice a vn c) := by rw [Lib.cell_of_heap HC7.out]; rfl
          clear hx1 hx2 HP6 HB6 HC6 hne6 d0
          go_wp2_with fail
          refine (HPX.out w7 pv7 _ HB7.out HP7.out (by have := HRN.out; simp only [List.length_append, List.length_cons, List.length_nil]; omega)).mono ?_; rintro e w8 ⟨rfl, ⟨pv8, hx1⟩, hx2⟩
          have HP8 := Lib.hid hx1
          have HB8 : Hid (Below w.heap.size w w8) := Lib.hid (HB7.out.trans (hx2.1.mono (by have := HQQ.out; omega)))
          clear hx1 hx2
          go_wp2_with fail
          obtain ⟨hj, hj'⟩ := HJJ.out
          go_roundg g1
          case measure => omega
          case rel => exact ⟨i + 1, _, pv8, by first | rfl | go_num, ⟨by omega, by omega⟩, HP8, HB8, Lib.hid (by have := HRN.out; simp only [List.length_append, List.length_cons, List.length_nil]; omega), HFY, HFN⟩
theorem dirtoks_any (D : List (List UInt8 × List (List UInt8 × List Cel))) (u : Value) (w : World) (hA : DirSl u D w) (hs : DirsSm D) (hroom : roomD D ≤ 80000) (hE : EnvU w) (hT : EnvT w) :
    Calls Tryz.prog 17 #[u] w fun e w' => (∃ v, e = .returned (.tuple #[v, .int .i64 (dtoksE D)]) ∧ OwnT w.heap.size v (dtoksL D) w') ∧ Below w.heap.size w w' := by
  rcases hA with ⟨a, c, rfl, rfl⟩ | ⟨b, off, cap, rfl, hrow, hpos⟩
  · refine (dirtoks_none a c w).mono ?_
    rintro e w' ⟨rfl, hb⟩
    exact ⟨⟨_, rfl, OwnT.nil _ _⟩, hb⟩
  · exact dirtoks_go D b off cap w hrow hpos hs hroom hE hT
end Go.Proofs.YtgaknbnhmoddcaaGreatDoor
namespace Go.Proofs.YtgaknbnhmoddcaaGreatDoor
open Go.RowKit
def gaG : Nat → Nat → List (List UInt8 × List Cel) → Option Nat
  | 0, n, _ => some n
  | _ + 1, n, [] => some n
  | f + 1, n, x :: r => if greatV x.2 60 || decide (300 < x.1.length) then none else gaG f (n + x.2.length) r
def greatAB (A : List (List UInt8 × List Cel)) : Bool := match gaG 30 0 A with
  | none => true
  | some n => decide (20 < A.length) || decide (100 < n)
theorem great_len {V : List Cel} {m : Nat} (h : greatV V m = false) : V.length ≤ m := by
  unfold greatV at h
  rw [Bool.or_eq_false_iff] at h
  have := h.2
  simp at this
  exact this
set_option maxRecDepth 100000 in
set_option maxHeartbeats 4000000 in
theorem greatargs_row (A : List (List UInt8 × List Cel)) (b off cap : Nat) (hl : A.length ≤ 9223372036854775807) (w : World) (hr : XRow CelSl b off A w) (hsz : ∀ x ∈ A, x.1.length ≤ 9223372036854775807 ∧ x.2.length ≤ 9223372036854775807 ∧ ∀ c ∈ x.2, c.name.length ≤ 9223372036854775807 ∧ c.text.length ≤ 9223372036854775807) :
    Calls Tryz.prog 8 #[.slice (some ⟨b, off, none⟩) A.length cap] w fun e w' => e = .returned (.bool (greatAB A)) ∧ w = w' := by
  have HA := Lib.hid hr
  have HS := Lib.hid hsz
  obtain ⟨Z, hZ⟩ : ∃ Z, gaG 30 0 A = Z := ⟨_, rfl⟩
  have HZ0 : Hid (gaG (30 - 0) 0 (A.drop 0) = Z) := Lib.hid hZ
  have HG : Hid ((Z = none → greatAB A = true) ∧ ∀ n, Z = some n → greatAB A = (decide (20 < A.length) || decide (100 < n))) := Lib.hid (by
    unfold greatAB
    rw [hZ]
    exact ⟨fun h => by rw [h], fun n h => by rw [h]⟩)
  generalize greatAB A = G at HG ⊢
  obtain ⟨n, hn⟩ : ∃ n, A.length = n := ⟨_, rfl⟩
  have HN := Lib.hid hn
  rw [hn] at HG ⊢
  rw [hn] at hl
  clear hr hsz hZ hn
  go_enter Tryz.func8, Tryz.ntmps8
  go_wp2_with fail
  go_loopg [3, 4] 31 (fun gk nv iv wr => ∃ (i s : Nat), iv = .int .i64 (i : Int) ∧ nv = .int .i64 (s : Int) ∧ (gk + i ≤ 31 ∧ 31 ≤ gk + i) ∧ i ≤ 30 ∧ s ≤ 60 * i ∧ Hid (gaG (30 - i) s (A.drop i) = Z) ∧ w = wr)
  case atStart => exact ⟨0, 0, by go_num, by go_num, ⟨by omega, by omega⟩, by omega, by omega, HZ0, rfl⟩
  case round =>
    clear HZ0
    rename World => wr
    obtain ⟨i, s, rfl, rfl, ⟨hj, hj'⟩, hi, hs, HQ, rfl⟩ := hrel
    obtain ⟨g, rfl⟩ : ∃ g, gk = g + 1 := ⟨gk - 1, by omega⟩
    have HJJ := Lib.hid (And.intro hj hj')
    clear hj hj'
    by_cases hin : (i : Int) < (n : Int)
    · by_cases h30 : (i : Int) < 30
      · have hil : i < A.length := by have := HN.out; omega
        obtain ⟨e0, a, vn, c, e1, hy⟩ := HA.out i hil
        obtain ⟨z1, z2, z3⟩ := HS.out A[i] (List.getElem_mem hil)
        have hq := HQ.out
        obtain ⟨f, hf⟩ : ∃ f, 30 - i = f + 1 := ⟨30 - i - 1, by omega⟩
        rw [hf, List.drop_eq_getElem_cons hil, gaG] at hq
        have hf2 : 30 - (i + 1) = f := by omega
        have hvn : vn = (A[i]'hil).2.length := by
          rcases hy with ⟨a2, c2, e2, e3, _⟩ | ⟨b2, o2, c2, e2, e3, e4⟩
          · injection e2 with _ e2 _; rw [e2, e3]; rfl
          · injection e2
        have HC := Lib.hid (rgreat03_any _ _ 60 (by exact z2) (by decide) w hy z3)
        obtain ⟨nb, hnb⟩ : ∃ nb : ByteArray, (⟨(A[i]'hil).1.toArray⟩ : ByteArray) = nb := ⟨_, rfl⟩
        have hnl : (A[i]'hil).1.length = nb.size := by rw [← hnb]; simp [ByteArray.size]
        rw [hnb] at e0
        rw [hnl] at hq z1
        have hgl := fun h => great_len (V := (A[i]'hil).2) (m := 60) h
        rw [← hvn] at hq hgl z2
        have HQ2 := Lib.hid hq
        clear hq hy hnb hnl hvn z3
        generalize greatV (A[i]'hil).2 60 = gv at *
        have i1 : (i : Int).toNat = i := by omega
        have i2 : (0 : Int) ≤ (i : Int) := by omega
        have i4 : IntKind.i64.wrap ((i : Int) + 1) = ((i + 1 : Nat) : Int) := by rw [IntWalk.i64_in _ (by omega)]; omega
        cases gv with
        | true =>
          have HF : Hid (true = G) := Lib.hid (HG.out.1 (by rw [← HQ2.out]; rfl)).symm
          go_wp2_with fail
          refine HC.out.mono ?_; rintro e w2 ⟨rfl, rfl⟩
          go_wp2_with fail
          go_ret
          exact ⟨ret_b HF.out, rfl⟩
        | false =>
          have hv60 := hgl rfl
          by_cases h3 : (300 : Int) < (nb.size : Int)
          · have HF : Hid (true = G) := Lib.hid (HG.out.1 (by rw [← HQ2.out, decide_eq_true (by omega : 300 < nb.size)]; rfl)).symm
            clear hgl
            go_wp2_with fail
            refine HC.out.mono ?_; rintro e w2 ⟨rfl, rfl⟩
            go_wp2_with fail
            go_ret
            exact ⟨ret_b HF.out, rfl⟩
          · have HF : Hid (gaG (30 - (i + 1)) (s + vn) (A.drop (i + 1)) = Z) := Lib.hid (by rw [hf2, ← HQ2.out, decide_eq_false (by omega : ¬ 300 < nb.size)]; rfl)
            have i5 : IntKind.i64.wrap ((s : Int) + (vn : Int)) = ((s + vn : Nat) : Int) := by rw [IntWalk.i64_in _ (by omega)]; omega
            clear hgl
            go_wp2_with fail
            refine HC.out.mono ?_; rintro e w2 ⟨rfl, rfl⟩
            go_wp2_with fail
            obtain ⟨hj, hj'⟩ := HJJ.out
            go_roundg g
            case measure => omega
            case rel => exact ⟨i + 1, s + vn, rfl, rfl, ⟨by omega, by omega⟩, by omega, by omega, HF, rfl⟩
      · have HF : Hid (Z = some s) := Lib.hid (by rw [← HQ.out, show 30 - i = 0 by omega, gaG])
        have HF2 := Lib.hid (HG.out.2 s HF.out)
        go_wp2_with fail
        go_ret
        refine ⟨ret_b ?_, rfl⟩
        rw [HF2.out]
        by_cases c1 : 20 < n <;> by_cases c2 : 100 < s <;> simp [c1, c2] <;> omega
    · have HF : Hid (Z = some s) := Lib.hid (by
        rw [← HQ.out, List.drop_of_length_le (by have := HN.out; omega)]
        cases 30 - i <;> rfl)
      have HF2 := Lib.hid (HG.out.2 s HF.out)
      by_cases c1 : (20 : Int) < (n : Int)
      · go_wp2_with fail
        go_ret
        refine ⟨ret_b ?_, rfl⟩
        rw [HF2.out]
        have : 20 < n := by omega
        simp [this]
      · by_cases c2 : (100 : Int) < (s : Int)
        · go_wp2_with fail
          go_ret
          refine ⟨ret_b ?_, rfl⟩
          rw [HF2.out]
          have : 100 < s := by omega
          simp [this]
        · go_wp2_with fail
          go_ret
          refine ⟨ret_b ?_, rfl⟩
          rw [HF2.out]
          have h1 : ¬ 20 < n := by omega
          have h2 : ¬ 100 < s := by omega
          simp [h1, h2]
end Go.Proofs.YtgaknbnhmoddcaaGreatDoor
namespace Go.Proofs.YtgaknbnhmoddcaaGreatDoor
open Go.RowKit
set_option maxRecDepth 100000 in
theorem greatargs_none (a : Option Addr) (c : Nat) (w : World) :
    Calls Tryz.prog 8 #[.slice a 0 c] w fun e w' => e = .returned (.bool false) ∧ w = w' := by
  go_enter Tryz.func8, Tryz.ntmps8
  go_wp2_with fail
  refine wp_loop_rounds 1 ?_; rw [rounds_succ]
  go_wp2_with fail
  go_ret
  exact ⟨rfl, rfl⟩
theorem greatargs_any (A : List (List UInt8 × List Cel)) (u : Value) (hl : A.length ≤ 9223372036854775807) (w : World) (hr : ArgSl u A w) (hsz : ∀ x ∈ A, x.1.length ≤ 9223372036854775807 ∧ x.2.length ≤ 9223372036854775807 ∧ ∀ c ∈ x.2, c.name.length ≤ 9223372036854775807 ∧ c.text.length ≤ 9223372036854775807) :
    Calls Tryz.prog 8 #[u] w fun e w' => e = .returned (.bool (greatAB A)) ∧ w = w' := by
  rcases hr with ⟨a, c, rfl, rfl⟩ | ⟨b, off, cap, rfl, hrow, hpos⟩
  · exact greatargs_none a c w
  · exact greatargs_row A b off cap hl w hrow hsz
end Go.Proofs.YtgaknbnhmoddcaaGreatDoor
namespace Go.Proofs.YtgaknbnhmoddcaaGreatDoor
open Go.RowKit
def gdG : Nat → List (List UInt8 × List (List UInt8 × List Cel)) → Bool
  | 0, _ => false
  | _ + 1, [] => false
  | f + 1, x :: r => greatAB x.2 || decide (300 < x.1.length) || gdG f r
def greatDB (D : List (List UInt8 × List (List UInt8 × List Cel))) : Bool := gdG 30 D || decide (10 < D.length)
def ArgsZ (A : List (List UInt8 × List Cel)) : Prop := A.length ≤ 9223372036854775807 ∧ ∀ x ∈ A, x.1.length ≤ 9223372036854775807 ∧ x.2.length ≤ 9223372036854775807 ∧ ∀ c ∈ x.2, c.name.length ≤ 9223372036854775807 ∧ c.text.length ≤ 9223372036854775807
set_option maxRecDepth 100000 in
set_option maxHeartbeats 4000000 in
theorem greatdirs_row (A : List (List UInt8 × List (List UInt8 × List Cel))) (b off cap : Nat) (hl : A.length ≤ 9223372036854775807) (w : World) (hr : XRow ArgSl b off A w) (hsz : ∀ x ∈ A, x.1.length ≤ 9223372036854775807 ∧ ArgsZ x.2) :
    Calls Tryz.prog 9 #[.slice (some ⟨b, off, none⟩) A.length cap] w fun e w' => e = .returned (.bool (greatDB A)) ∧ w = w' := by
  have HA := Lib.hid hr
  have HS := Lib.hid hsz
  obtain ⟨Z, hZ⟩ : ∃ Z, gdG 30 A = Z := ⟨_, rfl⟩
  have HZ0 : Hid (gdG (30 - 0) (A.drop 0) = Z) := Lib.hid hZ
  have HG : Hid (greatDB A = (Z || decide (10 < A.length))) := Lib.hid (by unfold greatDB; rw [hZ])
  generalize greatDB A = G at HG ⊢
  obtain ⟨n, hn⟩ : ∃ n, A.length = n := ⟨_, rfl⟩
  have HN := Lib.hid hn
  rw [hn] at HG ⊢
  rw [hn] at hl
  clear hr hsz hZ hn
  go_enter Tryz.func9, Tryz.ntmps9
  go_wp2_with fail
  go_loopg [3] 31 (fun gk iv wr => ∃ i : Nat, iv = .int .i64 (i : Int) ∧ (gk + i ≤ 31 ∧ 31 ≤ gk + i) ∧ i ≤ 30 ∧ Hid (gdG (30 - i) (A.drop i) = Z) ∧ w = wr)
  case atStart => exact ⟨0, by go_num, ⟨by omega, by omega⟩, by omega, HZ0, rfl⟩
  case round =>
    clear HZ0
    rename World => wr
    obtain ⟨i, rfl, ⟨hj, hj'⟩, hi, HQ, rfl⟩ := hrel
    obtain ⟨g, rfl⟩ : ∃ g, gk = g + 1 := ⟨gk - 1, by omega⟩
    have HJJ := Lib.hid (And.intro hj hj')
    clear hj hj'
    by_cases hin : (i : Int) < (n : Int)
    · by_cases h30 : (i : Int) < 30
      · have hil : i < A.length := by have := HN.out; omega
        obtain ⟨e0, a, vn, c, e1, hy⟩ := HA.out i hil
        obtain ⟨z1, z2⟩ := HS.out A[i] (List.getElem_mem hil)
        have hq := HQ.out
        obtain ⟨f, hf⟩ : ∃ f, 30 - i = f + 1 := ⟨30 - i - 1, by omega⟩
        rw [hf, List.drop_eq_getElem_cons hil, gdG] at hq
        have hf2 : 30 - (i + 1) = f := by omega
        have HC := Lib.hid (greatargs_any _ _ z2.1 w hy z2.2)
        obtain ⟨nb, hnb⟩ : ∃ nb : ByteArray, (⟨(A[i]'hil).1.toArray⟩ : ByteArray) = nb := ⟨_, rfl⟩
        have hnl : (A[i]'hil).1.length = nb.size := by rw [← hnb]; simp [ByteArray.size]
        rw [hnb] at e0
        rw [hnl] at hq z1
        have HQ2 := Lib.hid hq
        clear hq hy hnb hnl z2
        generalize greatAB (A[i]'hil).2 = gv at *
        have i1 : (i : Int).toNat = i := by omega
        have i2 : (0 : Int) ≤ (i : Int) := by omega
        have i4 : IntKind.i64.wrap ((i : Int) + 1) = ((i + 1 : Nat) : Int) := by rw [IntWalk.i64_in _ (by omega)]; omega
        cases gv with
        | true =>
          have HF : Hid (true = G) := Lib.hid (by rw [HG.out, ← HQ2.out]; simp)
          go_wp2_with fail
          refine HC.out.mono ?_; rintro e w2 ⟨rfl, rfl⟩
          go_wp2_with fail
          go_ret
          exact ⟨ret_b HF.out, rfl⟩
        | false =>
          by_cases h3 : (300 : Int) < (nb.size : Int)
          · have HF : Hid (true = G) := Lib.hid (by rw [HG.out, ← HQ2.out, decide_eq_true (by omega : 300 < nb.size)]; simp)
            go_wp2_with fail
            refine HC.out.mono ?_; rintro e w2 ⟨rfl, rfl⟩
            go_wp2_with fail
            go_ret
            exact ⟨ret_b HF.out, rfl⟩
          · have HF : Hid (gdG (30 - (i + 1)) (A.drop (i + 1)) = Z) := Lib.hid (by rw [hf2, ← HQ2.out, decide_eq_false (by omega : ¬ 300 < nb.size)]; rfl)
            go_wp2_with fail
            refine HC.out.mono ?_; rintro e w2 ⟨rfl, rfl⟩
            go_wp2_with fail
            obtain ⟨hj, hj'⟩ := HJJ.out
            go_roundg g
            case measure => omega
            case rel => exact ⟨i + 1, rfl, ⟨by omega, by omega⟩, by omega, HF, rfl⟩
      · have HF : Hid (Z = false) := Lib.hid (by rw [← HQ.out, show 30 - i = 0 by omega, gdG])
        go_wp2_with fail
        go_ret
        refine ⟨ret_b ?_, rfl⟩
        rw [HG.out, HF.out]
        by_cases c1 : 10 < n <;> simp [c1] <;> omega
    · have HF : Hid (Z = false) := Lib.hid (by
        rw [← HQ.out, List.drop_of_length_le (by have := HN.out; omega)]
        cases 30 - i <;> rfl)
      go_wp2_with fail
      go_ret
      refine ⟨ret_b ?_, rfl⟩
      rw [HG.out, HF.out]
      by_cases c1 : 10 < n <;> simp [c1] <;> omega
set_option maxRecDepth 100000 in
theorem greatdirs_none (a : Option Addr) (c : Nat) (w : World) :
    Calls Tryz.prog 9 #[.slice a 0 c] w fun e w' => e = .returned (.bool false) ∧ w = w' := by
  go_enter Tryz.func9, Tryz.ntmps9
  go_wp2_with fail
  refine wp_loop_rounds 1 ?_; rw [rounds_succ]
  go_wp2_with fail
  go_ret
  exact ⟨rfl, rfl⟩
theorem greatdirs_any (A : List (List UInt8 × List (List UInt8 × List Cel))) (u : Value) (hl : A.length ≤ 9223372036854775807) (w : World) (hr : DirSl u A w) (hsz : ∀ x ∈ A, x.1.length ≤ 9223372036854775807 ∧ ArgsZ x.2) :
    Calls Tryz.prog 9 #[u] w fun e w' => e = .returned (.bool (greatDB A)) ∧ w = w' := by
  rcases hr with ⟨a, c, rfl, rfl⟩ | ⟨b, off, cap, rfl, hrow, hpos⟩
  · exact greatdirs_none a c w
  · exact greatdirs_row A b off cap hl w hrow hsz
end Go.Proofs.YtgaknbnhmoddcaaGreatDoor
namespace Go.Proofs.YtgaknbnhmoddcaaGreatDoor
open Go.Lib
theorem drop_look {T : List Tok} {a : Nat} {t : Tok} {r : List Tok} (h : T.drop a = t :: r) : lookP T a = t := by
  have h2 : (T.drop a)[0]? = some t := by rw [h]; rfl
  rw [List.getElem?_drop, Nat.add_zero] at h2
  unfold lookP
  rw [List.getD_eq_getElem?_getD, h2]; rfl
theorem drop_next {T : List Tok} {a : Nat} {t : Tok} {r : List Tok} (h : T.drop a = t :: r) : T.drop (a + 1) = r := by
  have h2 := congrArg (List.drop 1) h
  rw [List.drop_drop] at h2
  exact h2
theorem drop_more {T L : List Tok} : ∀ {a : Nat} {r : List Tok}, T.drop a = L ++ r → T.drop (a + L.length) = r := by
  intro a r h
  have h2 := congrArg (List.drop L.length) h
  rw [List.drop_drop, List.drop_left] at h2
  exact h2
theorem drop_mark {T : List Tok} {a : Nat} {s : List UInt8} {r : List Tok} (h : T.drop a = mkT s :: r) : mrkP T a s = true := by
  unfold mrkP
  rw [drop_look h]
  simp [mkT]
theorem drop_mark_ne {T : List Tok} {a : Nat} {t : Tok} {s : List UInt8} {r : List Tok} (h : T.drop a = t :: r) (ht : t.kind ≠ 4 ∨ t.text ≠ s) : mrkP T a s = false := by
  unfold mrkP
  rw [drop_look h, Bool.and_eq_false_iff]
  rcases ht with ht | ht
  · left; simpa using ht
  · right; simpa using ht
/-- A cell that stands for itself: it may be, as a literal's. -/
def SelfC (c : Cel) : Prop := oneC c = true ∧ (c.kind = 4 → wordsK.contains c.text = false) ∧ -9223372036854775808 ≤ c.num ∧ c.num ≤ 9223372036854775807
theorem leaf_back (T : List Tok) (c : Cel) (hc : SelfC c) (hn : nestC c = false) (a : Nat) (out : List Cel) (rest : List Tok) (h : T.drop a = litK c ++ rest) :
    begP false T a = true ∧ opnP T a = false ∧ leafP false T c.name a out = .ok (a + (litK c).length, out ++ [c]) := by
  obtain ⟨kd, name, text, num, many⟩ := c
  obtain ⟨h1, h2, h3, h4⟩ := hc
  unfold oneC at h1
  unfold litK at h ⊢
  simp only at h1 h2 h3 h4 h ⊢
  by_cases k0 : kd = 0
  · subst k0
    simp only [if_true, Bool.and_eq_true, List.isEmpty_iff, beq_iff_eq] at h1
    obtain ⟨⟨rfl, rfl⟩, rfl⟩ := h1
    simp only [if_true, List.cons_append, List.nil_append] at h ⊢
    have hl := drop_look h
    have m1 : mrkP T a [91] = false := drop_mark_ne h (Or.inl (by simp [nmT]))
    have m2 : mrkP T a [123] = false := drop_mark_ne h (Or.inl (by simp [nmT]))
    have m3 : mrkP T a [36] = false := drop_mark_ne h (Or.inl (by simp [nmT]))
    refine ⟨by unfold begP; rw [hl]; rfl, by unfold opnP; rw [m1, m2]; rfl, ?_⟩
    unfold leafP varP
    rw [m3, hl]
    rfl
  by_cases k1 : kd = 1
  · subst k1
    simp only [if_neg (show ¬ (1 : UInt8) = 0 by decide), if_true, Bool.and_eq_true, Bool.or_eq_true, List.isEmpty_iff, beq_iff_eq] at h1
    obtain ⟨⟨rfl, hnum⟩, rfl⟩ := h1
    simp only [if_neg (show ¬ (1 : UInt8) = 0 by decide), if_true, List.cons_append, List.nil_append] at h ⊢
    have hl := drop_look h
    have m1 : mrkP T a [91] = false := drop_mark_ne h (Or.inl (by simp [nmT]))
    have m2 : mrkP T a [123] = false := drop_mark_ne h (Or.inl (by simp [nmT]))
    have m3 : mrkP T a [36] = false := drop_mark_ne h (Or.inl (by simp [nmT]))
    refine ⟨by unfold begP; rw [hl]; rfl, by unfold opnP; rw [m1, m2]; rfl, ?_⟩
    unfold leafP varP
    rw [m3, hl]
    rcases hnum with rfl | rfl
    · rfl
    · rfl
  by_cases k2 : kd = 2
  · subst k2
    simp only [if_neg (show ¬ (2 : UInt8) = 0 by decide), if_neg (show ¬ (2 : UInt8) = 1 by decide), if_true, Bool.and_eq_true, List.isEmpty_iff, beq_iff_eq] at h1
    obtain ⟨rfl, rfl⟩ := h1
    simp only [if_neg (show ¬ (2 : UInt8) = 0 by decide), if_neg (show ¬ (2 : UInt8) = 1 by decide), if_true, List.cons_append, List.nil_append] at h ⊢
    have hl := drop_look h
    have m1 : mrkP T a [91] = false := drop_mark_ne h (Or.inl (by simp [nmT]))
    have m2 : mrkP T a [123] = false := drop_mark_ne h (Or.inl (by simp [nmT]))
    have m3 : mrkP T a [36] = false := drop_mark_ne h (Or.inl (by simp [nmT]))
    refine ⟨by unfold begP; rw [hl]; rfl, by unfold opnP; rw [m1, m2]; rfl, ?_⟩
    unfold leafP varP
    rw [m3, hl]
    have e1 := rdE_itoa num ⟨h3, h4⟩
    have e2 := rdV_itoa num ⟨h3, h4⟩
    simp [e1, e2]
  by_cases k3 : kd = 3
  · subst k3
    simp only [if_neg (show ¬ (3 : UInt8) = 0 by decide), if_neg (show ¬ (3 : UInt8) = 1 by decide), if_neg (show ¬ (3 : UInt8) = 2 by decide), if_true, Bool.and_eq_true, beq_iff_eq] at h1
    obtain ⟨⟨_, rfl⟩, rfl⟩ := h1
    simp only [if_neg (show ¬ (3 : UInt8) = 0 by decide), if_neg (show ¬ (3 : UInt8) = 1 by decide), if_neg (show ¬ (3 : UInt8) = 2 by decide), if_true, List.cons_append, List.nil_append] at h ⊢
    have hl := drop_look h
    have m1 : mrkP T a [91] = false := drop_mark_ne h (Or.inl (by simp [nmT]))
    have m2 : mrkP T a [123] = false := drop_mark_ne h (Or.inl (by simp [nmT]))
    have m3 : mrkP T a [36] = false := drop_mark_ne h (Or.inl (by simp [nmT]))
    refine ⟨by unfold begP; rw [hl]; rfl, by unfold opnP; rw [m1, m2]; rfl, ?_⟩
    unfold leafP varP
    rw [m3, hl]
    rfl
  by_cases k4 : kd = 4
  · subst k4
    simp only [if_neg (show ¬ (4 : UInt8) = 0 by decide), if_neg (show ¬ (4 : UInt8) = 1 by decide), if_neg (show ¬ (4 : UInt8) = 2 by decide), if_neg (show ¬ (4 : UInt8) = 3 by decide), true_or, if_true, Bool.and_eq_true, beq_iff_eq] at h1
    obtain ⟨⟨_, rfl⟩, rfl⟩ := h1
    have hw := h2 rfl
    simp only [if_neg (show ¬ (4 : UInt8) = 0 by decide), if_neg (show ¬ (4 : UInt8) = 1 by decide), if_neg (show ¬ (4 : UInt8) = 2 by decide), if_neg (show ¬ (4 : UInt8) = 3 by decide), if_true, List.cons_append, List.nil_append] at h ⊢
    have hl := drop_look h
    have m1 : mrkP T a [91] = false := drop_mark_ne h (Or.inl (by simp [nmT]))
    have m2 : mrkP T a [123] = false := drop_mark_ne h (Or.inl (by simp [nmT]))
    have m3 : mrkP T a [36] = false := drop_mark_ne h (Or.inl (by simp [nmT]))
    refine ⟨by unfold begP; rw [hl]; rfl, by unfold opnP; rw [m1, m2]; rfl, ?_⟩
    unfold leafP varP
    rw [m3, hl]
    unfold wordsK at hw
    simp only [List.contains_cons, List.contains_nil, Bool.or_false, Bool.or_eq_false_iff, beq_eq_false_iff_ne] at hw
    obtain ⟨w1, w2, w3⟩ := hw
    simp [nmT, wordP, w1, w2, w3]
  by_cases k5 : kd = 5
  · subst k5
    simp only [if_neg (show ¬ (5 : UInt8) = 0 by decide), if_neg (show ¬ (5 : UInt8) = 1 by decide), if_neg (show ¬ (5 : UInt8) = 2 by decide), if_neg (show ¬ (5 : UInt8) = 3 by decide), or_true, if_true, Bool.and_eq_true, beq_iff_eq] at h1
    obtain ⟨⟨_, rfl⟩, rfl⟩ := h1
    simp only [if_neg (show ¬ (5 : UInt8) = 0 by decide), if_neg (show ¬ (5 : UInt8) = 1 by decide), if_neg (show ¬ (5 : UInt8) = 2 by decide), if_neg (show ¬ (5 : UInt8) = 3 by decide), if_neg (show ¬ (5 : UInt8) = 4 by decide), List.cons_append, List.nil_append] at h ⊢
    have hl2 := drop_look (drop_next h)
    have m1 : mrkP T a [91] = false := drop_mark_ne h (Or.inr (by decide))
    have m2 : mrkP T a [123] = false := drop_mark_ne h (Or.inr (by decide))
    have m3 : mrkP T a [36] = true := drop_mark h
    refine ⟨by unfold begP varP; rw [m3]; simp, by unfold opnP; rw [m1, m2]; rfl, ?_⟩
    unfold leafP varP namP
    rw [m3, hl2]
    simp [nmT]
  · exfalso
    rw [if_neg k0, if_neg k1, if_neg k2, if_neg k3, if_neg (by rintro (h | h) <;> contradiction)] at h1
    unfold nestC at hn
    simp only [Bool.or_eq_false_iff, beq_eq_false_iff_ne] at hn
    rw [if_neg (by rintro (h | h); exact hn.1 h; exact hn.2 h)] at h1
    cases h1
end Go.Proofs.YtgaknbnhmoddcaaGreatDoor
namespace Go.Proofs.YtgaknbnhmoddcaaGreatDoor
open Go.Lib
theorem beg_noclose {fixed : Bool} {T : List Tok} {a : Nat} (h : begP fixed T a = true) : mrkP T a [93] = false ∧ mrkP T a [125] = false := by
  unfold begP at h
  simp only [Bool.or_eq_true, beq_iff_eq] at h
  have key : ∀ k : UInt8, k ≠ 4 → (lookP T a).kind = k → mrkP T a [93] = false ∧ mrkP T a [125] = false := by
    intro k hk he
    exact ⟨mrk_kind (by rw [he]; exact hk), mrk_kind (by rw [he]; exact hk)⟩
  have key2 : ∀ s : List UInt8, s ≠ [93] → s ≠ [125] → mrkP T a s = true → mrkP T a [93] = false ∧ mrkP T a [125] = false := by
    intro s h1 h2 he
    obtain ⟨e1, e2⟩ := mrk_look he
    unfold mrkP
    rw [e1, e2]
    exact ⟨by simpa using h1, by simpa using h2⟩
  rcases h with (((h | h) | h) | h) | h
  · exact key 1 (by decide) h
  · exact key 2 (by decide) h
  · exact key 3 (by decide) h
  · unfold opnP at h
    rw [Bool.or_eq_true] at h
    rcases h with h | h
    · exact key2 _ (by decide) (by decide) h
    · exact key2 _ (by decide) (by decide) h
  · unfold varP at h
    rw [Bool.and_eq_true] at h
    exact key2 _ (by decide) (by decide) h.2
/-- What a literal asks beside. -/
def ExtC (c : Cel) : Prop := (c.kind = 4 → wordsK.contains c.text = false) ∧ -9223372036854775808 ≤ c.num ∧ c.num ≤ 9223372036854775807
def headNm (V : List Cel) : List UInt8 := (V.headD ⟨0, [], [], 0, 0⟩).name
def BackS (d : Nat) : Prop := ∀ (V : List Cel) (n : Nat) (T : List Tok) (a : Nat) (out : List Cel) (rest : List Tok), valN d V = some n → (∀ c ∈ V, ExtC c) → T.drop a = tokK d V ++ rest → out.length + n ≤ 2048 →
  begP false T a = true ∧ valP false T d (headNm V) a out = .ok (a + (tokK d V).length, out ++ V.take n)
theorem take_split (V : List Cel) (k1 k2 : Nat) : V.take k1 ++ (V.drop k1).take k2 = V.take (k1 + k2) := by
  rw [List.take_add]
theorem itm_back (d : Nat) (ih : BackS d) (isO : Bool) : ∀ (m : Nat) (nm nmP : List (List UInt8)) (V : List Cel) (k : Nat) (T : List Tok) (a : Nat) (out : List Cel) (rest : List Tok) (f n0 : Nat), (isO = true → nmP = nm) → kidsN (valN d) (!isO) m nm V = some k → (∀ c ∈ V, ExtC c) →
    T.drop a = kidsK (valN d) (tokK d) isO m V ++ (mkT (if isO then [125] else [93]) :: rest) → out.length + k ≤ 2048 → m + 1 ≤ f →
    itmP (valP false T d) isO T f n0 nmP a out = .ok (n0 + m, a + (kidsK (valN d) (tokK d) isO m V).length + 1, out ++ V.take k)
  | 0, nm, nmP, V, k, T, a, out, rest, f, n0, hnm, hk, hx, hT, hr, hf => by
    obtain ⟨f, rfl⟩ : ∃ g, f = g + 1 := ⟨f - 1, by omega⟩
    have hk0 : k = 0 := (Option.some.inj hk).symm
    subst hk0
    have hm : mrkP T a (if isO then [125] else [93]) = true := drop_mark (r := rest) (by rw [hT]; rfl)
    rw [itmP_end hm]
    simp [kidsK]
  | m + 1, nm, nmP, [], k, T, a, out, rest, f, n0, hnm, hk, hx, hT, hr, hf => by cases hk
  | m + 1, nm, nmP, c :: r, k, T, a, out, rest, f, n0, hnm, hk, hx, hT, hr, hf => by
    obtain ⟨f, rfl⟩ : ∃ g, f = g + 1 := ⟨f - 1, by omega⟩
    rw [kidsN] at hk
    split at hk
    · rename_i hok
      split at hk
      · cases hk
      · rename_i k1 hk1
        rw [Option.map_eq_some_iff] at hk
        obtain ⟨k2, hk2, rfl⟩ := hk
        have hle := (valN_le d _ _ hk1)
        rw [kidsK, hk1, Option.getD_some] at hT ⊢
        have hx2 : ∀ y ∈ (c :: r).drop k1, ExtC y := fun y hy => hx y (List.mem_of_mem_drop hy)
        cases isO with
        | false =>
          have hnm0 : c.name = [] := by unfold okN at hok; simpa using hok
          simp only [preK, if_neg (show ¬ (false = true) by decide), List.nil_append, Bool.false_eq_true, if_false] at hT ⊢
          rw [List.append_assoc] at hT
          obtain ⟨hb, hv⟩ := ih (c :: r) k1 T a out _ hk1 hx hT (by omega)
          have hh : headNm (c :: r) = [] := hnm0
          rw [hh] at hv
          rw [itmP_go (by simpa using (beg_noclose hb).1)]
          simp only [Bool.false_eq_true, if_false]
          rw [hv]
          simp only []
          have hlen : ((c :: r).take k1).length = k1 := by rw [List.length_take]; omega
          rw [itm_back d ih false m (c.name :: nm) nmP ((c :: r).drop k1) k2 T (a + (tokK d (c :: r)).length) (out ++ (c :: r).take k1) rest f (n0 + 1) (fun h => by cases h) hk2 hx2 (by
            rw [drop_more hT]; simp) (by rw [List.length_append, hlen]; omega) (by omega)]
          rw [List.append_assoc, take_split, List.length_append]
          congr 1
          simp only [Prod.mk.injEq, and_true]
          omega
        | true =>
          have hno : nmP = nm := hnm rfl
          subst hno
          have hok2 : amongB nmP c.name = false := by unfold okN at hok; simp at hok; simpa using hok.2
          simp only [preK, if_true, List.headD_cons, List.cons_append, List.nil_append] at hT ⊢
          have hT1 := drop_next hT
          have hT2 := drop_next hT1
          rw [List.append_assoc] at hT2
          obtain ⟨hb, hv⟩ := ih (c :: r) k1 T (a + 1 + 1) out _ hk1 hx hT2 (by omega)
          have hh : headNm (c :: r) = c.name := rfl
          rw [hh] at hv
          have hmn : memP nmP T a = .ok (c.name, a + 2) := by
            unfold memP namP
            rw [drop_look hT]
            rw [among_contains] at hok2
            have hm1 : mrkP T (a + 1) [58] = true := drop_mark hT1
            have hok3 : ¬ c.name ∈ nmP := by simpa using hok2
            simp [nmT, hok3, hm1]
          rw [itmP_go (by simpa using (drop_mark_ne (s := [125]) hT (Or.inl (by simp [nmT]))))]
          simp only [if_true]
          rw [hmn]
          simp only []
          rw [hv]
          simp only []
          have hlen : ((c :: r).take k1).length = k1 := by rw [List.length_take]; omega
          rw [itm_back d ih true m (c.name :: nmP) (c.name :: nmP) ((c :: r).drop k1) k2 T (a + 1 + 1 + (tokK d (c :: r)).length) (out ++ (c :: r).take k1) rest f (n0 + 1) (fun _ => rfl) hk2 hx2 (by
            rw [drop_more hT2]; simp) (by rw [List.length_append, hlen]; omega) (by omega)]
          rw [List.append_assoc, take_split]
          simp only [List.length_cons, List.length_append]
          congr 1
          simp only [Prod.mk.injEq, and_true]
          omega
    · cases hk
theorem leaf_val (d : Nat) (c : Cel) (r : List Cel) (n : Nat) (h : valN d (c :: r) = some n) (hn : nestC c = false) : oneC c = true ∧ n = 1 ∧ tokK d (c :: r) = litK c := by
  cases d with
  | zero =>
    rw [valN_zero, headN_cons] at h
    rw [tokK_zero, headK_cons, hn]
    cases h1 : oneC c with
    | false => rw [h1] at h; cases h
    | true =>
      rw [h1, hn] at h
      exact ⟨rfl, (Option.some.inj h).symm, rfl⟩
  | succ d =>
    rw [valN_more, headN_cons] at h
    rw [tokK_more, headK_cons, hn]
    cases h1 : oneC c with
    | false => rw [h1] at h; cases h
    | true =>
      rw [h1, hn] at h
      exact ⟨rfl, (Option.some.inj h).symm, rfl⟩
theorem nest_val (d : Nat) (c : Cel) (r : List Cel) (n : Nat) (h : valN d (c :: r) = some n) (hn : nestC c = true) : ∃ e k, d = e + 1 ∧ oneC c = true ∧ n = 1 + k ∧ kidsN (valN e) (c.kind == 6) c.many.toNat [] r = some k ∧
    tokK d (c :: r) = opnK c :: (kidsK (valN e) (tokK e) (!(c.kind == 6)) c.many.toNat r ++ [shtK c]) := by
  cases d with
  | zero =>
    rw [valN_zero, headN_cons, hn] at h
    split at h <;> cases h
  | succ d =>
    rw [valN_more, headN_cons, hn] at h
    rw [tokK_more, headK_cons, hn]
    cases h1 : oneC c with
    | false => rw [h1] at h; cases h
    | true =>
      rw [h1, if_pos rfl, if_pos rfl, Option.map_eq_some_iff] at h
      obtain ⟨k, hk, rfl⟩ := h
      exact ⟨d, k, rfl, rfl, rfl, hk, rfl⟩
theorem kidsK_ge (f : List Cel → Option Nat) (tk : List Cel → List Tok) (isL isO : Bool) (hp : ∀ l k, f l = some k → 0 < (tk l).length) : ∀ (m : Nat) (nm : List (List UInt8)) (V : List Cel) (k : Nat), kidsN f isL m nm V = some k → m ≤ (kidsK f tk isO m V).length
  | 0, _, _, _, _ => Nat.zero_le _
  | m + 1, nm, [], k, h => by cases h
  | m + 1, nm, c :: r, k, h => by
    rw [kidsN] at h
    split at h
    · split at h
      · cases h
      · rename_i k1 hk1
        rw [Option.map_eq_some_iff] at h
        obtain ⟨k2, hk2, _⟩ := h
        have h1 := hp _ _ hk1
        have h2 := kidsK_ge f tk isL isO hp m _ _ k2 hk2
        rw [kidsK, hk1, Option.getD_some, List.length_append, List.length_append]
        omega
    · cases h
theorem litK_pos (c : Cel) : 0 < (litK c).length := by
  unfold litK
  repeat' split
  all_goals simp
theorem tokK_pos (d : Nat) (l : List Cel) (k : Nat) (h : valN d l = some k) : 0 < (tokK d l).length := by
  cases l with
  | nil => cases d <;> cases h
  | cons c r =>
    cases hn : nestC c with
    | false =>
      rw [(leaf_val d c r k h hn).2.2]
      exact litK_pos c
    | true =>
      obtain ⟨e, k2, _, _, _, _, e2⟩ := nest_val d c r k h hn
      rw [e2]
      simp
theorem val_back_step (d : Nat) (ih : ∀ e, d = e + 1 → BackS e) : BackS d := by
  intro V n T a out rest hv hx hT hr
  cases V with
  | nil => cases d <;> cases hv
  | cons c r =>
    have hxc := hx c (by simp)
    have hh : headNm (c :: r) = c.name := rfl
    rw [hh]
    cases hn : nestC c with
    | false =>
      obtain ⟨h1, rfl, h3⟩ := leaf_val d c r n hv hn
      rw [h3] at hT ⊢
      obtain ⟨b1, b2, b3⟩ := leaf_back T c ⟨h1, hxc⟩ hn a out rest hT
      refine ⟨b1, ?_⟩
      have hl : ¬ out.length = 2048 := by omega
      unfold valP
      rw [b1, b2, if_neg (by decide), if_neg hl, if_neg (by decide), b3]
      simp
    | true =>
      obtain ⟨e, k, rfl, h1, rfl, hk, h3⟩ := nest_val d c r n hv hn
      have hl : ¬ out.length = 2048 := by omega
      rw [h3] at hT ⊢
      rw [List.cons_append, List.append_assoc] at hT
      have hT1 := drop_next hT
      have hTl : (T.drop (a + 1)).length ≤ T.length := by rw [List.length_drop]; omega
      have hmm := kidsK_ge (valN e) (tokK e) (c.kind == 6) (!(c.kind == 6)) (fun l k h => tokK_pos e l k h) _ _ _ _ hk
      have hml : c.many.toNat ≤ T.length := by
        rw [hT1, List.length_append] at hTl
        omega
      have hcc : c = { kind := if !(c.kind == 6) then 7 else 6, name := c.name, text := [], num := 0, many := (c.many.toNat : Int) } ∧ c.kind = (if !(c.kind == 6) then 7 else 6) := by
        obtain ⟨kd, name, text, num, many⟩ := c
        unfold nestC at hn
        simp only [Bool.or_eq_true, beq_iff_eq] at hn
        unfold oneC at h1
        simp only at hn h1 ⊢
        rcases hn with rfl | rfl
        · simp at h1
          obtain ⟨⟨rfl, rfl⟩, h2⟩ := h1
          simp; omega
        · simp at h1
          obtain ⟨⟨rfl, rfl⟩, h2⟩ := h1
          simp; omega
      have hitm := fun iso (hiso : iso = !(c.kind == 6)) => itm_back e (ih e rfl) iso c.many.toNat [] [] r k T (a + 1) (out ++ [⟨if iso then 7 else 6, c.name, [], 0, 0⟩]) rest (T.length + 1) 0 (fun _ => rfl) (by rw [hiso, Bool.not_not]; exact hk) (fun y hy => hx y (by simp [hy]))
      cases h6 : (c.kind == 6) with
      | true =>
        rw [h6] at hT hT1 hcc hitm
        have hop : opnK c = mkT [91] := by unfold opnK; rw [h6]; rfl
        have hsh : shtK c = mkT [93] := by unfold shtK; rw [h6]; rfl
        rw [hop] at hT
        rw [hsh] at hT1
        have m1 : mrkP T a [91] = true := drop_mark hT
        have m2 : mrkP T a [123] = false := drop_mark_ne hT (Or.inr (by decide))
        have ho : opnP T a = true := by unfold opnP; rw [m1]; rfl
        have hb : begP false T a = true := by unfold begP; rw [ho]; simp
        refine ⟨hb, ?_⟩
        have hi := hitm false rfl (by simpa using hT1) (by simp; omega) (by omega)
        unfold valP
        rw [hb, if_neg (by decide), if_neg hl, ho, if_pos rfl, m2]
        simp only [Bool.false_eq_true, if_false] at hi ⊢
        rw [hi]
        simp only [Nat.zero_add, List.append_assoc, List.cons_append, List.nil_append]
        rw [many_app _ _ _ _ _ rfl, Nat.add_comm 1 k, List.take_succ_cons]
        have h4 := hcc.1
        simp only [Bool.not_true, Bool.false_eq_true, if_false] at h4
        rw [← h4]
        simp only [List.length_cons, List.length_append, List.length_nil, h6, Bool.not_true]
        congr 1
        simp only [Prod.mk.injEq, and_true]
        omega
      | false =>
        rw [h6] at hT hT1 hcc hitm
        have hop : opnK c = mkT [123] := by unfold opnK; rw [h6]; rfl
        have hsh : shtK c = mkT [125] := by unfold shtK; rw [h6]; rfl
        rw [hop] at hT
        rw [hsh] at hT1
        have m2 : mrkP T a [123] = true := drop_mark hT
        have ho : opnP T a = true := by unfold opnP; rw [m2]; simp
        have hb : begP false T a = true := by unfold begP; rw [ho]; simp
        refine ⟨hb, ?_⟩
        have hi := hitm true rfl (by simpa using hT1) (by simp; omega) (by omega)
        unfold valP
        rw [hb, if_neg (by decide), if_neg hl, ho, if_pos rfl, m2]
        simp only [if_true] at hi ⊢
        rw [hi]
        simp only [Nat.zero_add, List.append_assoc, List.cons_append, List.nil_append]
        rw [many_app _ _ _ _ _ rfl, Nat.add_comm 1 k, List.take_succ_cons]
        have h4 := hcc.1
        simp only [Bool.not_false, if_true] at h4
        rw [← h4]
        simp only [List.length_cons, List.length_append, List.length_nil, h6, Bool.not_false]
        congr 1
        simp only [Prod.mk.injEq, and_true]
        omega
theorem val_back : ∀ d : Nat, BackS d
  | 0 => val_back_step 0 (fun e h => by cases h)
  | d + 1 => val_back_step (d + 1) (fun e h => by cases h; exact val_back d)
/-- A literal's tokens tell it. -/
theorem lit_back (V : List Cel) (hV : litB V = true) (hx : ∀ c ∈ V, -9223372036854775808 ≤ c.num ∧ c.num ≤ 9223372036854775807) (T : List Tok) (a : Nat) (rest : List Tok) (hT : T.drop a = tokK 16 V ++ rest) :
    litP false T a = .ok (a + (tokK 16 V).length, V) := by
  unfold litB at hV
  rw [Bool.and_eq_true] at hV
  have hm := hV.1
  unfold mayB at hm
  simp only [Bool.and_eq_true, decide_eq_true_eq, beq_iff_eq] at hm
  have he : ∀ c ∈ V, ExtC c := fun c hc => by
    have := List.all_eq_true.1 hV.2 c hc
    simp only [Bool.and_eq_true, Bool.not_eq_true'] at this
    refine ⟨fun h4 => ?_, hx c hc⟩
    have h5 := this.2
    rw [h4] at h5
    simpa using h5
  have := (val_back 16 V V.length T a [] rest hm.2 he hT (by simp; exact hm.1.1.2)).2
  rw [List.nil_append, List.take_length] at this
  unfold litP
  have hh : headNm V = [] := by
    have := hm.1.2
    cases V with
    | nil => rfl
    | cons c r => simpa [headNm] using this
  rw [hh] at this
  exact this
end Go.Proofs.YtgaknbnhmoddcaaGreatDoor
namespace Go.Proofs.YtgaknbnhmoddcaaGreatDoor
open Go.Lib
/-- What stands behind does not begin with a mark. -/
def NoGo (s : List UInt8) (rest : List Tok) : Prop := ∀ t r, rest = t :: r → t.kind ≠ 4 ∨ t.text ≠ s
theorem nogo_mrk {T : List Tok} {a : Nat} {s : List UInt8} {rest : List Tok} (h : T.drop a = rest) (hg : NoGo s rest) : mrkP T a s = false := by
  cases rest with
  | nil =>
    refine mrk_kind ?_
    unfold lookP
    have : T.length ≤ a := by
      have := congrArg List.length h
      rw [List.length_drop] at this
      simp at this
      omega
    rw [List.getD_eq_getElem?_getD, List.getElem?_eq_none this]
    decide
  | cons t r => exact drop_mark_ne h (hg t r rfl)
def NumB (V : List Cel) : Prop := ∀ c ∈ V, -9223372036854775808 ≤ c.num ∧ c.num ≤ 9223372036854775807
theorem nam_back {T : List Tok} {a : Nat} {nm : List (List UInt8)} {s : List UInt8} {r : List Tok} (h : T.drop a = nmT s :: r) (hn : nm.contains s = false) : namP nm T a = .ok s := by
  unfold namP
  rw [drop_look h]
  simp only [nmT, hn]
  simp
theorem flat_ge (A : List (List UInt8 × List Cel)) : A.length ≤ (A.flatMap argK).length := by
  induction A with
  | nil => simp
  | cons x r ih =>
    simp only [List.length_cons, List.flatMap_cons, List.length_append, argK]
    omega
theorem argG_back (T : List Tok) : ∀ (A : List (List UInt8 × List Cel)) (nm : List (List UInt8)) (f a : Nat) (acc : List (List UInt8 × List Cel)) (rest : List Tok), namedB nm A = true → (∀ x ∈ A, NumB x.2) → T.drop a = A.flatMap argK ++ (mkT [41] :: rest) → (A = [] → acc ≠ []) → A.length + 1 ≤ f →
    argG false T f nm a acc = .ok (a + (A.flatMap argK).length + 1, acc ++ A)
  | [], nm, f, a, acc, rest, hn, hx, hT, hacc, hf => by
    obtain ⟨f, rfl⟩ : ∃ g, f = g + 1 := ⟨f - 1, by omega⟩
    have hm : mrkP T a [41] = true := drop_mark (r := rest) (by rw [hT]; rfl)
    have he : acc.isEmpty = false := by
      cases acc with
      | nil => exact absurd rfl (hacc rfl)
      | cons y s => rfl
    unfold argG
    rw [hm, he]
    simp
  | x :: r, nm, f, a, acc, rest, hn, hx, hT, hacc, hf => by
    obtain ⟨f, rfl⟩ : ∃ g, f = g + 1 := ⟨f - 1, by omega⟩
    rw [namedB] at hn
    simp only [Bool.and_eq_true, Bool.not_eq_true'] at hn
    obtain ⟨⟨⟨n1, n2⟩, n3⟩, n4⟩ := hn
    rw [List.flatMap_cons] at hT ⊢
    simp only [argK, List.cons_append, List.append_assoc] at hT
    have hT1 := drop_next hT
    have hT2 := drop_next hT1
    have hm : mrkP T a [41] = false := drop_mark_ne hT (Or.inl (by simp [nmT]))
    have hmem : memP nm T a = .ok (x.1, a + 2) := by
      unfold memP
      rw [nam_back hT n1]
      have : mrkP T (a + 1) [58] = true := drop_mark hT1
      simp [this]
    have hl := lit_back x.2 n3 (hx x (by simp)) T (a + 2) _ hT2
    have ih := argG_back T r (x.1 :: nm) f (a + 2 + (tokK 16 x.2).length) (acc ++ [x]) rest n4 (fun y hy => hx y (by simp [hy])) (drop_more hT2) (fun _ => by simp) (by simp at hf; omega)
    unfold argG
    rw [hm, Bool.and_false, if_neg (by decide), hmem]
    simp only []
    rw [hl]
    simp only []
    rw [ih]
    simp only [argK, List.append_assoc, List.cons_append, List.nil_append, List.length_cons, List.length_append]
    congr 1
    simp only [Prod.mk.injEq, and_true]
    omega
theorem args_back (A : List (List UInt8 × List Cel)) (hA : namedB [] A = true) (hx : ∀ x ∈ A, NumB x.2) (T : List Tok) (a : Nat) (rest : List Tok) (hT : T.drop a = argsK A ++ rest) (hg : A = [] → NoGo [40] rest) :
    argsP false T a = .ok (a + (argsK A).length, A) := by
  cases A with
  | nil =>
    have hm : mrkP T a [40] = false := nogo_mrk (rest := rest) hT (hg rfl)
    unfold argsP
    rw [hm]
    rfl
  | cons x r =>
    have e : argsK (x :: r) = mkT [40] :: ((x :: r).flatMap argK ++ [mkT [41]]) := rfl
    rw [e] at hT ⊢
    rw [List.cons_append, List.append_assoc] at hT
    have hT1 := drop_next hT
    have hm : mrkP T a [40] = true := drop_mark hT
    have hle : (x :: r).length ≤ T.length := by
      have h1 := flat_ge (x :: r)
      have h2 := congrArg List.length hT1
      rw [List.length_drop, List.length_append] at h2
      omega
    unfold argsP
    rw [hm, if_pos rfl, argG_back T (x :: r) [] (T.length + 1) (a + 1) [] rest hA hx hT1 (fun h => by cases h) (by omega)]
    rw [List.nil_append, List.length_cons, List.length_append]
    congr 1
    simp only [Prod.mk.injEq, and_true, List.length_cons, List.length_nil]
    omega
theorem flatD_ge (D : List (List UInt8 × List (List UInt8 × List Cel))) : D.length ≤ (D.flatMap dirK).length := by
  induction D with
  | nil => simp
  | cons x r ih =>
    simp only [List.length_cons, List.flatMap_cons, List.length_append, dirK]
    omega
theorem dirG_back (T : List Tok) : ∀ (D : List (List UInt8 × List (List UInt8 × List Cel))) (f a : Nat) (acc : List DirP) (rest : List Tok), D.all dirB = true → (∀ x ∈ D, ∀ y ∈ x.2, NumB y.2) → T.drop a = D.flatMap dirK ++ rest → NoGo [40] rest → NoGo [64] rest → D.length + 1 ≤ f →
    dirG false T f a acc = .ok (a + (D.flatMap dirK).length, acc ++ D)
  | [], f, a, acc, rest, hn, hx, hT, g1, g2, hf => by
    obtain ⟨f, rfl⟩ : ∃ g, f = g + 1 := ⟨f - 1, by omega⟩
    rw [dirG_end (nogo_mrk (rest := rest) hT g2)]
    simp
  | x :: r, f, a, acc, rest, hn, hx, hT, g1, g2, hf => by
    obtain ⟨f, rfl⟩ : ∃ g, f = g + 1 := ⟨f - 1, by omega⟩
    rw [List.all_cons, Bool.and_eq_true] at hn
    obtain ⟨n1, n2⟩ := hn
    unfold dirB at n1
    rw [Bool.and_eq_true] at n1
    rw [List.flatMap_cons] at hT ⊢
    simp only [dirK, List.cons_append, List.append_assoc] at hT
    have hT1 := drop_next hT
    have hT2 := drop_next hT1
    have hm : mrkP T a [64] = true := drop_mark hT
    have hng : NoGo [40] (r.flatMap dirK ++ rest) := by
      cases r with
      | nil => exact g1
      | cons y s =>
        intro t u e
        rw [List.flatMap_cons] at e
        simp only [dirK, List.cons_append] at e
        injection e with e _
        subst e
        exact Or.inr (by simp [mkT])
    have ha := args_back x.2 n1.2 (hx x (by simp)) T (a + 2) _ hT2 (fun _ => hng)
    have ih := dirG_back T r f (a + 2 + (argsK x.2).length) (acc ++ [x]) rest n2 (fun y hy => hx y (by simp [hy])) (drop_more hT2) g1 g2 (by simp at hf; omega)
    rw [dirG_go hm, nam_back hT1 (by simp)]
    simp only []
    rw [ha]
    simp only []
    rw [ih]
    simp only [dirK, List.append_assoc, List.cons_append, List.nil_append, List.length_cons, List.length_append]
    congr 1
    simp only [Prod.mk.injEq, and_true]
    omega
theorem dirs_back (D : List (List UInt8 × List (List UInt8 × List Cel))) (hD : D.all dirB = true) (hx : ∀ x ∈ D, ∀ y ∈ x.2, NumB y.2) (T : List Tok) (a : Nat) (rest : List Tok) (hT : T.drop a = D.flatMap dirK ++ rest) (g1 : NoGo [40] rest) (g2 : NoGo [64] rest) :
    dirsP false T a = .ok (a + (D.flatMap dirK).length, D) := by
  have hle : D.length ≤ T.length := by
    have h1 := flatD_ge D
    have h2 := congrArg List.length hT
    rw [List.length_drop, List.length_append] at h2
    omega
  unfold dirsP
  rw [dirG_back T D (T.length + 1) a [] rest hD hx hT g1 g2 (by omega)]
  rfl
end Go.Proofs.YtgaknbnhmoddcaaGreatDoor
namespace Go.Proofs.YtgaknbnhmoddcaaGreatDoor
open Go.Lib
/-- May wrappers be, behind one? -/
def typB : UInt8 → List UInt8 → Bool
  | _, [] => true
  | last, w :: r => (w == 1 || w == 2) && !(w == 1 && last == 1) && typB w r
/-- A type's tokens. -/
def typK (nm : List UInt8) : List UInt8 → List Tok
  | [] => [nmT nm]
  | w :: r => if w = 2 then mkT [91] :: (typK nm r ++ [mkT [93]]) else typK nm r ++ [mkT [33]]
theorem typH_name {T : List Tok} {k a : Nat} {nm : List UInt8} {rest : List Tok} {inner : Nat → Except ErrP TypP} (h : T.drop a = nmT nm :: rest) : typH T k a inner = .ok (k, a + 1, nm, []) := by
  have hm : mrkP T a [91] = false := drop_mark_ne h (Or.inl (by simp [nmT]))
  unfold typH wrapP
  rw [hm, if_neg (by decide)]
  simp only []
  rw [nam_back h (by simp)]
theorem typH_list {T : List Tok} {k a : Nat} {rest : List Tok} {inner : Nat → Except ErrP TypP} {k2 a2 : Nat} {nm ws : List UInt8} (h : T.drop a = mkT [91] :: rest) (hk : k < 8) (hi : inner (k + 1) = .ok (k2, a2, nm, ws)) (hm2 : mrkP T a2 [93] = true) : typH T k a inner = .ok (k2, a2 + 1, nm, 2 :: ws) := by
  have hm : mrkP T a [91] = true := drop_mark h
  unfold typH wrapP
  rw [hm, if_pos rfl, if_neg (by omega)]
  simp only []
  rw [hi]
  simp only []
  rw [hm2, if_pos rfl]
theorem typE_no {T : List Tok} {x : TypP} (hm : mrkP T x.2.1 [33] = false) : typE T x = .ok x := by
  unfold typE wrapP
  rw [hm, if_neg (by decide)]
theorem typE_yes {T : List Tok} {x : TypP} (hm : mrkP T x.2.1 [33] = true) (hk : x.1 < 8) : typE T x = .ok (x.1 + 1, x.2.1 + 1, x.2.2.1, 1 :: x.2.2.2) := by
  unfold typE wrapP
  rw [hm, if_pos rfl, if_neg (by omega)]
theorem nogo_cons {s t : List UInt8} {rest : List Tok} (h : t ≠ s) : NoGo s (mkT t :: rest) := by
  intro x r e
  injection e with e _
  subst e
  exact Or.inr h
theorem typ_back (T : List Tok) (nm : List UInt8) : ∀ (n : Nat) (ws : List UInt8) (last : UInt8) (f k a : Nat) (rest : List Tok), ws.length ≤ n → typB last ws = true → ws.length + 1 ≤ f → k + ws.length ≤ 8 → T.drop a = typK nm ws ++ rest → NoGo [33] rest →
    typG T f k a = .ok (k + ws.length, a + (typK nm ws).length, nm, ws) := by
  intro n
  induction n with
  | zero =>
    intro ws last f k a rest hn hb hf hk hT hg
    have : ws = [] := List.eq_nil_of_length_eq_zero (by omega)
    subst this
    obtain ⟨f, rfl⟩ : ∃ g, f = g + 1 := ⟨f - 1, by omega⟩
    unfold typG
    rw [typH_name (rest := rest) hT]
    simp only []
    rw [typE_no (nogo_mrk (rest := rest) (drop_next (t := nmT nm) hT) hg)]
    rfl
  | succ n ih =>
    intro ws last f k a rest hn hb hf hk hT hg
    obtain ⟨f, rfl⟩ : ∃ g, f = g + 1 := ⟨f - 1, by omega⟩
    -- a core: no mark of its own behind
    have core : ∀ (vs : List UInt8) (l2 : UInt8) (r2 : List Tok), vs.length ≤ n + 1 → vs.length ≤ f → k + vs.length ≤ 8 → typB l2 vs = true → (∀ w r, vs = w :: r → w = 2) → T.drop a = typK nm vs ++ r2 → typH T k a (fun k1 => typG T f k1 (a + 1)) = .ok (k + vs.length, a + (typK nm vs).length, nm, vs) := by
      intro vs l2 r2 h1 h2 h3 h4 h5 h6
      cases vs with
      | nil =>
        rw [typH_name (rest := r2) h6]
        rfl
      | cons w r =>
        have hw := h5 w r rfl
        subst hw
        simp only [typK, if_true, List.cons_append, List.append_assoc] at h6 ⊢
        unfold typB at h4
        simp only [Bool.and_eq_true] at h4
        have hT1 := drop_next h6
        simp only [List.length_cons] at h1 h2 h3
        have hi := ih r 2 f (k + 1) (a + 1) (mkT [93] :: r2) (by omega) h4.2 (by omega) (by omega) hT1 (nogo_cons (by decide))
        have hm : mrkP T (a + 1 + (typK nm r).length) [93] = true := drop_mark (r := r2) (drop_more hT1)
        rw [typH_list (inner := fun k1 => typG T f k1 (a + 1)) (k := k) h6 (by omega) hi hm]
        simp only [List.length_cons, List.length_append, List.length_nil]
        congr 1
        simp only [Prod.mk.injEq, and_true]
        omega
    cases ws with
    | nil =>
      unfold typG
      rw [core [] 2 rest (by simp) (by simp) (by simpa using hk) rfl (fun w r h => by cases h) hT]
      simp only []
      rw [typE_no (nogo_mrk (rest := rest) (drop_more hT) hg)]
    | cons w r =>
      have hb0 := hb
      unfold typB at hb
      simp only [Bool.and_eq_true, Bool.or_eq_true, beq_iff_eq] at hb
      obtain ⟨⟨hw, _⟩, hr⟩ := hb
      simp only [List.length_cons] at hn hf hk ⊢
      rcases hw with rfl | rfl
      · -- a mark behind
        have e : typK nm (1 :: r) = typK nm r ++ [mkT [33]] := rfl
        rw [e] at hT ⊢
        rw [List.append_assoc] at hT
        have h5 : ∀ w r', r = w :: r' → w = 2 := by
          intro w r' e
          subst e
          unfold typB at hr
          simp only [Bool.and_eq_true, Bool.or_eq_true, beq_iff_eq, Bool.not_eq_true', Bool.and_eq_false_iff, beq_eq_false_iff_ne] at hr
          rcases hr.1.1 with h | h
          · exfalso
            rcases hr.1.2 with h2 | h2
            · exact h2 h
            · exact h2 rfl
          · exact h
        have hm : mrkP T (a + (typK nm r).length) [33] = true := drop_mark (r := rest) (drop_more hT)
        unfold typG
        rw [core r 1 _ (by omega) (by omega) (by omega) hr h5 hT]
        simp only []
        rw [typE_yes hm (by show k + r.length < 8; omega)]
        simp only [List.length_append, List.length_cons, List.length_nil]
        congr 1
      · unfold typG
        rw [core (2 :: r) last rest (by simpa using hn) (by simp; omega) (by simpa using hk) hb0 (fun w r' e => by injection e with e _; exact e.symm) hT]
        simp only []
        rw [typE_no (nogo_mrk (rest := rest) (drop_more hT) hg)]
        rfl
end Go.Proofs.YtgaknbnhmoddcaaGreatDoor
namespace Go.Proofs.YtgaknbnhmoddcaaGreatDoor
open Go.RowKit Go.Shelf
attribute [local go_sem] Oper.semAt_some
/-- Wrappers as bits. -/
def wz (b : Bool) : UInt8 := if b then 2 else 1
/-- Every cell but one block's is kept. -/
def KC (p : Nat) (W W' : World) : Prop := ∀ (a : Addr) (v : Value), a.block ≠ p → W.cell? a = some v → W'.cell? a = some v
theorem KC.refl (p : Nat) (W : World) : KC p W W := fun _ _ _ h => h
theorem KC.trans {p : Nat} {A B C : World} (h : KC p A B) (k : KC p B C) : KC p A C := fun a v ha hc => k a v ha (h a v ha hc)
theorem KC.book {p : Nat} (W : World) (l : Nat) (o o' : Obj) (hl : W.heap[l]? = some o) (ho : o.isCells = false) : KC p W (W.putObj l o') := fun a v _ hc => cell_kept hc (grownBy_putObj' W l o') (fun r e => by cases e; exact ⟨o, hl, ho⟩)
theorem KC.of_rk {p : Nat} {W W' : World} (h : RK p W W') : KC p W W' := fun a v ha hc => by
  obtain ⟨o, ho, _⟩ := cells_of_cell hc
  exact (World.cell?_of_block (w := W) ((h.2 _ o ho ha).trans ho.symm)).trans hc
theorem KC.of_below {p : Nat} {W W' : World} (h : Below W.heap.size W W') : KC p W W' := fun a v ha hc => by
  obtain ⟨o, ho, _⟩ := cells_of_cell hc
  exact (h.cell (p := a) (heap_lt ho)).trans hc
theorem backward_c (a : Option Addr) (len cap : Nat) (w : World) :
    Calls Tryz.prog 40 #[.slice a len cap] w fun e w' => e = .returned (.func (.func 74) #[] #[.pointer (some ⟨w.heap.size, 0, none⟩)]) ∧ w' = w.alloc (.cells #[.slice a len cap] 23) := by
  go_enter Tryz.func40, Tryz.ntmps40
  go_wp2_with fail
  go_ret
  exact ⟨rfl, rfl⟩
/-- What has come when k rounds are over. -/
def bk (bs : List Bool) (k : Nat) : List (Nat × Bool) := (List.range k).map fun j => (bs.length - 1 - j, bs[bs.length - 1 - j]?.getD false)
theorem bk_succ (bs : List Bool) (k : Nat) : bk bs (k + 1) = bk bs k ++ [(bs.length - 1 - k, bs[bs.length - 1 - k]?.getD false)] := by simp [bk, List.range_succ]
theorem bk_length (bs : List Bool) (k : Nat) : (bk bs k).length = k := by simp [bk]
theorem bk_all (bs : List Bool) : (bk bs bs.length).map (·.2) = bs.reverse := by
  apply List.ext_getElem
  · simp [bk]
  · intro i h1 h2
    have hi : i < bs.length := by simpa using h2
    have hj : bs.length - 1 - i < bs.length := by omega
    simp [bk, hj]
set_option maxRecDepth 100000 in
set_option maxHeartbeats 2000000 in
theorem back1_in (F : Fence) (n : Nat) (h7 : F.fn 74) (hro : F.round = none) (hn : 1 ≤ n) (l Bs p m cap : Nat) (ao : Option Addr) (bs : List Bool) (hm : m = bs.length) (hsz : m ≤ 1000000) (hBp : Bs ≠ p) (J Jx : List (Nat × Bool) → World → Prop)
    (hY : ∀ pre x W, J pre W → pre.length < m → YieldAt F (n - 1) Tryz.prog l #[.int .i64 (x.1 : Int), .int .u8 ((wz x.2).toNat : Int)] W fun e W' =>
      (e = .returned (.bool true) ∧ J (pre ++ [x]) W' ∧ KC p W W') ∨ (e = .returned (.bool false) ∧ Jx (pre ++ [x]) W'))
    (W : World) (hBs : W.cell? ⟨Bs, 0, none⟩ = some (.slice ao m cap)) (hao : 0 < m → ∃ b off, ao = some ⟨b, off, none⟩ ∧ b ≠ p ∧ ∀ j, j < m → W.cell? ⟨b, off + j, none⟩ = some (.int .u8 ((wz (bs[j]?.getD false)).toNat : Int))) (h0 : J [] W) :
    CallsIn F n Tryz.prog 74 #[.func (.yield l) #[] #[], .pointer (some ⟨Bs, 0, none⟩)] W fun e W' => (∃ v, e = .returned v) ∧
      ((∃ ys, ys = bk bs m ∧ J ys W') ∨ (∃ pre, (∃ k, k ≤ m ∧ pre = bk bs k) ∧ Jx pre W')) := by
  have HY := Lib.hid hY
  have HA := Lib.hid hao
  have HM := Lib.hid hm
  have HB := Lib.hid hBp
  have HBS := Lib.hid hBs
  have i0 : IntKind.i64.wrap ((m : Int) - 1) = (m : Int) - 1 := IntWalk.i64_in _ (by omega)
  clear hY hao hm hBp
  refine callsIn_of_wp Tryz.func74 rfl h7 ?_ hro
  simp only [Tryz.ntmps74, List.size_toArray, List.length_cons, List.length_nil, Nat.reduceAdd, Nat.reduceSub, Array.replicate_succ, Array.replicate_zero, List.push_toArray, List.append_toArray, List.nil_append, List.cons_append]
  gi_wp2
  clear hBs
  gi_loopw [3] (fun i wr => ∃ (k : Nat) (iv : Int), k ≤ m ∧ i = .int .i64 iv ∧ Hid (iv = (m : Int) - 1 - (k : Int)) ∧ Hid (J (bk bs k) wr) ∧ Hid (KC p W wr))
    (fun i _ => (intOf i + 1).toNat)
  case atStart => exact ⟨0, _, Nat.zero_le _, rfl, Lib.hid (by simp), Lib.hid h0, Lib.hid (KC.refl _ _)⟩
  case round =>
    clear h0 i0
    obtain ⟨k, iv, hk, rfl, HI, HJ, HK⟩ := hrel
    have hcx : wr.cell? ⟨Bs, 0, none⟩ = some (.slice ao m cap) := HK.out _ _ HB.out HBS.out
    by_cases hlt : k < m
    · obtain ⟨b, off, rfl, hbp, hcs⟩ := HA.out (by omega)
      obtain ⟨q, hq⟩ : ∃ q, q = m - 1 - k := ⟨_, rfl⟩
      have hiv : iv = (q : Int) := by have := HI.out; omega
      subst hiv
      have hqm : q < m := by omega
      have hrow := HK.out ⟨b, off + q, none⟩ _ hbp (hcs q hqm)
      have HQ : Hid (bk bs (k + 1) = bk bs k ++ [(q, bs[q]?.getD false)]) := Lib.hid (by rw [bk_succ, ← HM.out, ← hq])
      generalize bs[q]?.getD false = bb at hrow HQ
      obtain ⟨fn, tmps, assign, body, hy, hR⟩ := HY.out _ (q, bb) wr HJ.out (by rw [bk_length]; exact hlt)
      dsimp only at hy
      obtain ⟨ui, hui⟩ : ∃ ui : Int, ((wz bb).toNat : Int) = ui := ⟨_, rfl⟩
      rw [hui] at hy hrow
      have i1 : (q : Int).toNat = q := by omega
      have i2 : (0 : Int) ≤ (q : Int) := by omega
      have i3 : (q : Int) < (m : Int) := by omega
      have i4 : IntKind.i64.wrap ((q : Int) - 1) = (q : Int) - 1 := IntWalk.i64_in _ (by omega)
      have HQK := Lib.hid hq
      clear hcs hui hq
      gi_wp2
      refine hR.mono ?_
      rintro e W3 (⟨rfl, hJ3, hk3⟩ | ⟨rfl, hJx3⟩)
      · have HJ3 : Hid (J (bk bs (k + 1)) W3) := Lib.hid (by rw [HQ.out]; exact hJ3)
        have HK3 : Hid (KC p W W3) := Lib.hid (HK.out.trans hk3)
        clear hJ3 hk3 hR
        gi_wp2
        go_roundw
        case rel => exact ⟨k + 1, _, by omega, rfl, Lib.hid (by have := HQK.out; omega), HJ3, HK3⟩
        case measure => first | (simp [intOf]; done) | (simp [intOf]; omega)
      · have HX3 : Hid (Jx (bk bs (k + 1)) W3) := Lib.hid (by rw [HQ.out]; exact hJx3)
        clear hJx3 hR
        gi_wp2
        refine bodyPost_ret (results_none rfl _ _ _) rfl ?_
        exact ⟨⟨_, rfl⟩, .inr ⟨_, ⟨k + 1, by omega, rfl⟩, HX3.out⟩⟩
    · obtain rfl : k = m := by omega
      have hiv : iv = -1 := by have := HI.out; omega
      subst hiv
      gi_wp2
      go_end0
      exact ⟨⟨_, rfl⟩, .inl ⟨_, rfl, HJ.out⟩⟩
theorem back_stops (F : Fence) (n : Nat) (h7 : F.fn 74) (hro : F.round = none) (hn : 1 ≤ n) (Bs p : Nat) (ao : Option Addr) (m cap : Nat) (bs : List Bool) (hm : m = bs.length) (hsz : m ≤ 1000000) (hBp : Bs ≠ p) (w : World) (hBs : w.cell? ⟨Bs, 0, none⟩ = some (.slice ao m cap))
    (hao : 0 < m → ∃ b off, ao = some ⟨b, off, none⟩ ∧ b ≠ p ∧ ∀ j, j < m → w.cell? ⟨b, off + j, none⟩ = some (.int .u8 ((wz (bs[j]?.getD false)).toNat : Int))) :
    SeqStopsK F n Tryz.prog 74 #[.pointer (some ⟨Bs, 0, none⟩)] (fun x : Nat × Bool => #[Value.int .i64 (x.1 : Int), Value.int .u8 ((wz x.2).toNat : Int)]) (KC p) (fun ys => ys = bk bs m) (fun pre => ∃ k, k ≤ m ∧ pre = bk bs k) m w := fun l J Jx W hW _ _ hY h0 =>
  back1_in F n h7 hro hn l Bs p m cap ao bs hm hsz hBp J Jx hY W (KC.of_below (p := Bs + 1) hW _ _ (by simp) hBs) (fun h => by
    obtain ⟨b, off, h1, h2, h3⟩ := hao h
    exact ⟨b, off, h1, h2, fun j hj => KC.of_below (p := b + 1) hW _ _ (by simp) (h3 j hj)⟩) h0
end Go.Proofs.YtgaknbnhmoddcaaGreatDoor
namespace Go.Proofs.YtgaknbnhmoddcaaGreatDoor
def wmk (b : Bool) : Tok := if b then mkT [93] else mkT [33]
def wop (b : Bool) : List Tok := if b then [mkT [91]] else []
theorem typB_bits : ∀ (ws : List UInt8) (last : UInt8), typB last ws = true → ∃ bs : List Bool, ws = bs.map wz
  | [], _, _ => ⟨[], rfl⟩
  | w :: r, last, h => by
    unfold typB at h
    simp only [Bool.and_eq_true, Bool.or_eq_true, beq_iff_eq] at h
    obtain ⟨⟨hw, _⟩, hr⟩ := h
    obtain ⟨bs, hb⟩ := typB_bits r w hr
    rcases hw with rfl | rfl
    · exact ⟨false :: bs, by rw [hb]; rfl⟩
    · exact ⟨true :: bs, by rw [hb]; rfl⟩
theorem typK_bits (nm : List UInt8) : ∀ bs : List Bool, typK nm (bs.map wz) = bs.flatMap wop ++ nmT nm :: bs.reverse.map wmk
  | [] => rfl
  | true :: r => by
    have e : typK nm ((true :: r).map wz) = mkT [91] :: (typK nm (r.map wz) ++ [mkT [93]]) := rfl
    rw [e, typK_bits nm r]
    simp [wop, wmk]
  | false :: r => by
    have e : typK nm ((false :: r).map wz) = typK nm (r.map wz) ++ [mkT [33]] := rfl
    rw [e, typK_bits nm r]
    simp [wop, wmk]
/-- What TypeTokens answers. -/
def ttB (nm ws : List UInt8) : Bool := nameB nm && (decide (ws.length ≤ 8) && typB 2 ws)
def ttE (nm ws : List UInt8) : Int := if ttB nm ws then 0 else 8
def ttL (nm ws : List UInt8) : List Tok := if ttB nm ws then typK nm ws else []
theorem typK_len (nm : List UInt8) (ws : List UInt8) : (typK nm ws).length ≤ 2 * ws.length + 1 := by
  induction ws with
  | nil => simp [typK]
  | cons w r ih =>
    unfold typK
    split
    · simp only [List.length_cons, List.length_append, List.length_nil]; omega
    · simp only [List.length_cons, List.length_append, List.length_nil]; omega
end Go.Proofs.YtgaknbnhmoddcaaGreatDoor
namespace Go.Proofs.YtgaknbnhmoddcaaGreatDoor
open Go.RowKit
def sumG (L : List Tok) : Nat := (L.map fun t => min t.text.length 10000).sum
def greatB (L : List Tok) : Bool := decide (200 < L.length) || decide (3000 < sumG (L.take 300))
theorem sumG_snoc (L : List Tok) (k : Nat) (h : k < L.length) : sumG (L.take (k + 1)) = sumG (L.take k) + min L[k].text.length 10000 := by
  unfold sumG
  rw [List.take_succ_eq_append_getElem h, List.map_append, List.sum_append]
  simp
set_option maxRecDepth 100000 in
set_option maxHeartbeats 1000000 in
theorem great_any (L : List Tok) (b off cap : Nat) (hl : L.length ≤ 9223372036854775807) (w : World) (hr : TokRow b off L w) (hsz : ∀ t ∈ L, t.text.length ≤ 9223372036854775807) :
    Calls Tryz.prog 31 #[.slice (some ⟨b, off, none⟩) L.length cap] w fun e w' => e = .returned (.bool (greatB L)) ∧ w = w' := by
  have HT := Lib.hid hr
  have HZ := Lib.hid hsz
  clear hr hsz
  obtain ⟨r, hr⟩ : ∃ r, greatB L = r := ⟨_, rfl⟩
  have HR := Lib.hid hr
  rw [hr]
  clear hr
  go_enter Tryz.func31, Tryz.ntmps31
  go_wp2_with fail
  go_loop [3, 4] (fun n i => ∃ k m : Nat, k ≤ L.length ∧ k ≤ 300 ∧ i = .int .i64 k ∧ n = .int .i64 m ∧ m ≤ 10000 * k ∧ Hid (sumG (L.take k) = m)) (fun n i => L.length - (intOf i).toNat)
  case atStart => exact ⟨0, 0, Nat.zero_le _, Nat.zero_le _, rfl, rfl, by omega, Lib.hid rfl⟩
  case round =>
    obtain ⟨k, m, hk, hk3, rfl, rfl, hm, HM⟩ := hrel
    have stop : (k = L.length ∨ k = 300) → sumG (L.take 300) = m := by
      intro h
      rw [← HM.out]
      rcases h with h | h
      · rw [List.take_of_length_le (by omega), h, List.take_length]
      · rw [h]
    by_cases hlt : k < L.length
    · by_cases h3 : k < 300
      · obtain ⟨_, c1, _⟩ := HT.out k hlt
        have hs := HZ.out L[k] (List.getElem_mem _)
        have HM2 : Hid (sumG (L.take (k + 1)) = m + min L[k].text.length 10000) := Lib.hid (by rw [sumG_snoc L k hlt, HM.out])
        have hbs : (⟨L[k].text.toArray⟩ : ByteArray).size = L[k].text.length := by rw [← len_z]
        have HB := Lib.hid hbs
        clear hbs stop
        obtain ⟨x, hx⟩ : ∃ x : ByteArray, (⟨L[k].text.toArray⟩ : ByteArray) = x := ⟨_, rfl⟩
        rw [hx] at c1 HB
        have hxs : x.size ≤ 9223372036854775807 := by rw [HB.out]; exact hs
        rw [← HB.out] at HM2
        clear hx hs HB
        go_wp2_with fail
        all_goals
          go_round
          case rel => exact ⟨k + 1, m + min x.size 10000, by omega, by omega, by go_num, by first | go_num | (congr 1; omega), by omega, HM2⟩
          case measure => simp [intOf]; omega
      · have hs := stop (Or.inr (by omega))
        have HF : Hid ((decide (200 < L.length) || decide (3000 < m)) = r) := Lib.hid (by rw [← HR.out, ← hs]; rfl)
        clear stop hs
        have h4 : ¬ (k : Int) < 300 := by omega
        go_wp2_with fail
        all_goals
          go_ret
          refine ⟨ret_b (Eq.trans ?_ HF.out), rfl⟩
          rw [Bool.eq_iff_iff]
          simp only [Bool.or_eq_true, decide_eq_true_eq, true_iff]
          omega
    · have hs := stop (Or.inl (by omega))
      have HF : Hid ((decide (200 < L.length) || decide (3000 < m)) = r) := Lib.hid (by rw [← HR.out, ← hs]; rfl)
      clear stop hs
      go_wp2_with fail
      all_goals
        go_ret
        refine ⟨ret_b (Eq.trans ?_ HF.out), rfl⟩
        rw [Bool.eq_iff_iff]
        simp only [Bool.or_eq_true, decide_eq_true_eq, true_iff]
        omega
set_option maxRecDepth 100000 in
theorem great_none (a : Option Addr) (cap : Nat) (w : World) :
    Calls Tryz.prog 31 #[.slice a 0 cap] w fun e w' => e = .returned (.bool (greatB [])) ∧ w = w' := by
  go_enter Tryz.func31, Tryz.ntmps31
  go_wp2_with fail
  refine wp_loop_rounds 1 ?_; rw [rounds_succ]
  go_wp2_with fail
  go_ret
  exact ⟨rfl, rfl⟩
end Go.Proofs.YtgaknbnhmoddcaaGreatDoor
namespace Go.Proofs.YtgaknbnhmoddcaaGreatDoor
open Go.RowKit
def TxS (L : List Tok) : Prop := ∀ t ∈ L, t.text.length ≤ 100000
theorem TxS.nil : TxS [] := fun t h => by cases h
theorem TxS.cons {t : Tok} {L : List Tok} (h : t.text.length ≤ 100000) (hL : TxS L) : TxS (t :: L) := fun x hx => by
  rcases List.mem_cons.1 hx with rfl | hx
  · exact h
  · exact hL x hx
theorem TxS.app {L M : List Tok} (hL : TxS L) (hM : TxS M) : TxS (L ++ M) := fun x hx => by
  rcases List.mem_append.1 hx with hx | hx
  · exact hL x hx
  · exact hM x hx
def CelS (V : List Cel) : Prop := ∀ c ∈ V, c.name.length ≤ 100000 ∧ c.text.length ≤ 100000 ∧ R c.num
theorem litK_txt (c : Cel) (h : c.name.length ≤ 100000 ∧ c.text.length ≤ 100000 ∧ R c.num) : TxS (litK c) := by
  have hi := len_itoa h.2.2
  intro t ht
  have key : t.text.length ≤ 21 ∨ t.text = c.text := by
    unfold litK at ht
    repeat' split at ht
    all_goals simp only [List.mem_cons, List.not_mem_nil, or_false, nmT, mkT] at ht
    all_goals first
      | (subst ht; left; simp only [List.length_cons, List.length_nil]; omega)
      | (subst ht; left; exact hi)
      | (subst ht; right; rfl)
      | (rcases ht with ht | ht
         · subst ht; left; simp only [List.length_cons, List.length_nil]; omega
         · subst ht; right; rfl)
  rcases key with k | k
  · omega
  · rw [k]; exact h.2.1
theorem kidsK_txt (val : List Cel → Option Nat) (tk : List Cel → List Tok) (isO : Bool) (ht : ∀ l, CelS l → TxS (tk l)) : ∀ (n : Nat) (l : List Cel), CelS l → TxS (kidsK val tk isO n l)
  | 0, l, _ => TxS.nil
  | n + 1, l, hl => by
    rw [kidsK]
    refine TxS.app ?_ (TxS.app (ht l hl) (kidsK_txt val tk isO ht n _ fun c hc => hl c (List.mem_of_mem_drop hc)))
    unfold preK
    split
    · refine TxS.cons ?_ (TxS.cons (by simp [mkT]) TxS.nil)
      cases l with
      | nil => simp [nmT]
      | cons c r => exact (hl c (by simp)).1
    · exact TxS.nil
theorem headK_txt (kids : Cel → List Cel → List Tok) (hk : ∀ c l, CelS l → TxS (kids c l)) (l : List Cel) (hl : CelS l) : TxS (headK kids l) := by
  cases l with
  | nil => exact TxS.nil
  | cons c r =>
    rw [headK_cons]
    split
    · refine TxS.cons ?_ (TxS.app (hk c r fun x hx => hl x (by simp [hx])) (TxS.cons ?_ TxS.nil))
      · unfold opnK; split <;> simp [mkT]
      · unfold shtK; split <;> simp [mkT]
    · exact litK_txt c (hl c (by simp))
theorem tokK_txt : ∀ (d : Nat) (l : List Cel), CelS l → TxS (tokK d l)
  | 0, l, hl => headK_txt _ (fun _ _ _ => TxS.nil) l hl
  | d + 1, l, hl => headK_txt _ (fun c r hr => kidsK_txt _ _ _ (fun l h => tokK_txt d l h) _ r hr) l hl
theorem argK_txt (x : List UInt8 × List Cel) (h1 : x.1.length ≤ 100000) (h2 : CelS x.2) : TxS (argK x) := TxS.cons h1 (TxS.cons (by simp [mkT]) (tokK_txt 16 _ h2))
theorem TxS.flat {α : Type} {f : α → List Tok} : ∀ (A : List α), (∀ x ∈ A, TxS (f x)) → TxS (A.flatMap f)
  | [], _ => TxS.nil
  | x :: r, h => by
    rw [List.flatMap_cons]
    exact TxS.app (h x (by simp)) (TxS.flat r fun y hy => h y (by simp [hy]))
theorem argsK_txt (A : List (List UInt8 × List Cel)) (h : ∀ x ∈ A, x.1.length ≤ 100000 ∧ CelS x.2) : TxS (argsK A) := by
  unfold argsK
  split
  · exact TxS.nil
  · exact TxS.cons (by simp [mkT]) (TxS.app (TxS.flat A fun x hx => argK_txt x (h x hx).1 (h x hx).2) (TxS.cons (by simp [mkT]) TxS.nil))
theorem dirK_txt (x : List UInt8 × List (List UInt8 × List Cel)) (h1 : x.1.length ≤ 100000) (h2 : ∀ y ∈ x.2, y.1.length ≤ 100000 ∧ CelS y.2) : TxS (dirK x) := TxS.cons (by simp [mkT]) (TxS.cons h1 (argsK_txt _ h2))
theorem typK_txt (nm : List UInt8) (hn : nm.length ≤ 100000) : ∀ ws : List UInt8, TxS (typK nm ws)
  | [] => TxS.cons hn TxS.nil
  | w :: r => by
    unfold typK
    split
    · exact TxS.cons (by simp [mkT]) (TxS.app (typK_txt nm hn r) (TxS.cons (by simp [mkT]) TxS.nil))
    · exact TxS.app (typK_txt nm hn r) (TxS.cons (by simp [mkT]) TxS.nil)
theorem greatV_parts {V : List Cel} {m : Nat} (h : greatV V m = false) : V.length ≤ m ∧ ∀ c ∈ V, c.name.length ≤ 300 ∧ c.text.length ≤ 3000 := by
  have hl := great_len h
  refine ⟨hl, ?_⟩
  unfold greatV at h
  rw [Bool.or_eq_false_iff, List.take_of_length_le hl, List.any_eq_false] at h
  intro c hc
  have := h.1 c hc
  simp only [Bool.or_eq_true, decide_eq_true_eq, not_or, Nat.not_lt] at this
  exact this
theorem gaG_parts : ∀ (f n : Nat) (A : List (List UInt8 × List Cel)) (m : Nat), gaG f n A = some m → A.length ≤ f → ∀ x ∈ A, greatV x.2 60 = false ∧ x.1.length ≤ 300
  | _, _, [], _, _, _ => fun x h => by cases h
  | 0, _, x :: r, _, _, hl => by simp at hl
  | f + 1, n, x :: r, m, h, hl => by
    rw [gaG] at h
    split at h
    · cases h
    · rename_i hc
      simp only [Bool.or_eq_true, decide_eq_true_eq, not_or, Nat.not_lt, Bool.not_eq_true] at hc
      intro y hy
      rcases List.mem_cons.1 hy with rfl | hy
      · exact hc
      · exact gaG_parts f _ r m h (by simp at hl; omega) y hy
theorem greatAB_parts {A : List (List UInt8 × List Cel)} (h : greatAB A = false) : A.length ≤ 20 ∧ ∀ x ∈ A, greatV x.2 60 = false ∧ x.1.length ≤ 300 := by
  unfold greatAB at h
  cases hg : gaG 30 0 A with
  | none => rw [hg] at h; cases h
  | some n =>
    rw [hg] at h
    simp only [Bool.or_eq_false_iff, decide_eq_false_iff_not, Nat.not_lt] at h
    exact ⟨h.1, gaG_parts 30 0 A n hg (by omega)⟩
theorem gdG_parts : ∀ (f : Nat) (D : List (List UInt8 × List (List UInt8 × List Cel))), gdG f D = false → D.length ≤ f → ∀ x ∈ D, greatAB x.2 = false ∧ x.1.length ≤ 300
  | _, [], _, _ => fun x h => by cases h
  | 0, x :: r, _, hl => by simp at hl
  | f + 1, x :: r, h, hl => by
    rw [gdG] at h
    simp only [Bool.or_eq_false_iff, decide_eq_false_iff_not, Nat.not_lt] at h
    intro y hy
    rcases List.mem_cons.1 hy with rfl | hy
    · exact h.1
    · exact gdG_parts f r h.2 (by simp at hl; omega) y hy
theorem greatDB_parts {D : List (List UInt8 × List (List UInt8 × List Cel))} (h : greatDB D = false) : D.length ≤ 10 ∧ ∀ x ∈ D, greatAB x.2 = false ∧ x.1.length ≤ 300 := by
  unfold greatDB at h
  simp only [Bool.or_eq_false_iff, decide_eq_false_iff_not, Nat.not_lt] at h
  exact ⟨h.2, gdG_parts 30 D h.1 (by omega)⟩
theorem roomA_le : ∀ (A : List (List UInt8 × List Cel)), (∀ x ∈ A, x.2.length ≤ 60) → roomA A ≤ 246 * A.length
  | [], _ => by simp [roomA]
  | x :: r, h => by
    have h1 := h x (by simp)
    have h2 := roomA_le r fun y hy => h y (by simp [hy])
    rw [roomA, List.length_cons]
    omega
theorem roomD_le : ∀ (D : List (List UInt8 × List (List UInt8 × List Cel))), (∀ x ∈ D, greatAB x.2 = false) → roomD D ≤ 5000 * D.length
  | [], _ => by simp [roomD]
  | x :: r, h => by
    obtain ⟨h1, h3⟩ := greatAB_parts (h x (by simp))
    have h2 := roomD_le r fun y hy => h y (by simp [hy])
    have h4 := roomA_le x.2 fun y hy => great_len (h3 y hy).1
    rw [roomD, List.length_cons]
    omega
theorem sum_ge : ∀ (L : List Nat) (x : Nat), x ∈ L → x ≤ L.sum
  | y :: r, x, h => by
    rw [List.sum_cons]
    rcases List.mem_cons.1 h with rfl | h
    · omega
    · have := sum_ge r x h; omega
theorem greatB_parts {M : List Tok} (h : greatB M = false) : M.length ≤ 200 ∧ TxS M := by
  unfold greatB at h
  simp only [Bool.or_eq_false_iff, decide_eq_false_iff_not, Nat.not_lt] at h
  obtain ⟨h1, h2⟩ := h
  refine ⟨h1, fun t ht => ?_⟩
  unfold sumG at h2
  rw [List.take_of_length_le (by omega)] at h2
  have := sum_ge _ _ (List.mem_map.2 ⟨t, ht, rfl⟩ : min t.text.length 10000 ∈ M.map fun t => min t.text.length 10000)
  omega
end Go.Proofs.YtgaknbnhmoddcaaGreatDoor
namespace Go.Proofs.YtgaknbnhmoddcaaGreatDoor
open Go.RowKit Go.WideShapes Go.ChangeShapes Go.Joins Go.Deep
theorem cells_cell : Tryz.prog.cellsOf 63 = 5 := by kernel_rfl
section
variable {H : Type} {enc : TypeId × Value → H} {w : World} {base : Nat} {spare : Nat → Bool} {held : Bool}
theorem cels_of (w : World) (a : Addr) : ∀ n : Nat, (∀ i, i < n → ∃ (k : UInt8) (s t : ByteArray) (p q : Int), w.cell? (a.add (i * 5)) = some (.int .u8 (k.toNat : Int)) ∧ w.cell? (a.add (i * 5 + 1)) = some (.string s) ∧ w.cell? (a.add (i * 5 + 2)) = some (.string t) ∧ w.cell? (a.add (i * 5 + 3)) = some (.int .i64 p) ∧ w.cell? (a.add (i * 5 + 4)) = some (.int .i64 q) ∧ s.size ≤ maxLen ∧ t.size ≤ maxLen ∧ R p ∧ R q) →
    ∃ L : List Cel, L.length = n ∧ (∀ t ∈ L, t.name.length ≤ maxLen ∧ t.text.length ≤ maxLen ∧ R t.num ∧ R t.many) ∧ ∀ (i : Nat) (h : i < L.length), w.cell? (a.add (i * 5)) = some (.int .u8 (L[i].kind.toNat : Int)) ∧ w.cell? (a.add (i * 5 + 1)) = some (.string ⟨L[i].name.toArray⟩) ∧ w.cell? (a.add (i * 5 + 2)) = some (.string ⟨L[i].text.toArray⟩) ∧ w.cell? (a.add (i * 5 + 3)) = some (.int .i64 L[i].num) ∧ w.cell? (a.add (i * 5 + 4)) = some (.int .i64 L[i].many)
  | 0, _ => ⟨[], rfl, (fun t h => by cases h), (fun i h => absurd h (by simp))⟩
  | n + 1, h => by
    obtain ⟨L, hl, hz, hc⟩ := cels_of w a n fun i hi => h i (by omega)
    obtain ⟨k, s, t, p, q, c0, c1, c2, c3, c4, hs, ht, hp, hq⟩ := h n (by omega)
    refine ⟨L ++ [⟨k, s.data.toList, t.data.toList, p, q⟩], by simp [hl], ?_, ?_⟩
    · intro x hx
      rcases List.mem_append.1 hx with hx | hx
      · exact hz x hx
      · rw [List.mem_singleton] at hx
        rw [hx]
        refine ⟨?_, ?_, hp, hq⟩
        · show s.data.toList.length ≤ maxLen
          rw [Array.length_toList]
          exact hs
        · show t.data.toList.length ≤ maxLen
          rw [Array.length_toList]
          exact ht
    · intro i hi
      by_cases hin : i < L.length
      · rw [List.getElem_append_left hin]
        exact hc i hin
      · have hin' : i = L.length := by
          rw [List.length_append] at hi
          simp at hi
          omega
        subst hin'
        rw [List.getElem_append_right (Nat.le_refl _)]
        simp only [Nat.sub_self, List.getElem_cons_zero]
        rw [hl]
        refine ⟨c0, ?_, ?_, c3, c4⟩
        · rw [c1]
        · rw [c2]
/-- An element of a slice of structs, whose fields have one cell each: each field's cell, and its reading. -/
theorem elem_fields {P : Program} {H : Type} {enc : TypeId × Value → H} {w : World} {base : Nat} {spare : Nat → Bool} {held : Bool} {e : TypeId} {fs : Array Field} (he : P.underlying e = some (.struct fs)) (hone : oneCellFields P fs = true) {a : Addr} {k n : Nat} {cs : List Value} {x : DataW H × List MemPlace}
    (hk : k = P.cellsOf e) (hk2 : k = fs.size) (hc : w.cells? base a k = some cs) (ht : DataW.trod enc P w base spare held n e cs = some x) (j : Nat) (f : Field) (hj : fs[j]? = some f) :
    ∃ (v : Value) (y : DataW H × List MemPlace) (n' : Nat), w.cell? (a.add j) = some v ∧ DataW.trod enc P w base spare held n' f.type [v] = some y := by
  obtain ⟨ys, n', hn', hy, hlen, hyl, hf⟩ := DataW.trod_struct he ht
  obtain ⟨_, hcl, hat⟩ := World.cells?_some hc
  obtain ⟨ho, h1⟩ := hone_of hone j f hj
  have hjl : j < fs.size := (Array.getElem?_eq_some_iff.1 hj).1
  have hjc : j < cs.length := by omega
  have hcell := hat j (by omega)
  have g := hf j f hj
  rw [ho, h1, List.drop_eq_getElem_cons hjc] at g
  have hys : ys[j]? = some (ys[j]'(by omega)) := List.getElem?_eq_getElem (by omega)
  refine ⟨cs[j], ys[j]'(by omega), n', ?_, ?_⟩
  · rw [hcell]; exact List.getElem?_eq_getElem hjc
  · exact g.trans hys
theorem open_cells {v : Value} {d : DataW H} {p : List MemPlace} (hv : ∃ a l c, v = .slice a l c) (h : DataW.Trod enc Tryz.prog w base spare held 22 v d p) :
    ∃ L : List Cel, CelSl v L w ∧ L.length ≤ maxLen ∧ ∀ t ∈ L, t.name.length ≤ maxLen ∧ t.text.length ≤ maxLen ∧ R t.num ∧ R t.many := by
  obtain ⟨fuel, hf⟩ := h
  obtain ⟨sa, sl, sc, rfl⟩ := hv
  have hcs : (Value.slice sa sl sc).cells.toList = [.slice sa sl sc] := rfl
  rw [hcs] at hf
  rcases open_slice Tryz.underlying22 hf with ⟨h0, _⟩ | ⟨a, len, cap, m, n, D, Pl, h0, hb, hl, hm, hmm, hx, hi⟩
  · injection h0 with h0
    exact ⟨[], Or.inl ⟨_, _, h0, rfl, fun _ => rfl⟩, by decide, fun t h => by cases h⟩
  · injection h0 with h0
    have hlm : len ≤ m := by rw [hmm]; split <;> omega
    obtain ⟨L, hL, hz, hc⟩ := cels_of w a len (fun i hil => by
      obtain ⟨cs', hc, ht⟩ := hi i (by omega)
      rw [cells_cell] at hc
      have F := fun j f hj => elem_fields Tryz.underlying63 (by kernel_rfl) cells_cell.symm rfl hc ht j f hj
      obtain ⟨v0, y0, n0, g0, t0⟩ := F 0 _ rfl
      obtain ⟨v1, y1, n1, g1, t1⟩ := F 1 _ rfl
      obtain ⟨v2, y2, n2, g2, t2⟩ := F 2 _ rfl
      obtain ⟨v3, y3, n3, g3, t3⟩ := F 3 _ rfl
      obtain ⟨v4, y4, n4, g4, t4⟩ := F 4 _ rfl
      obtain ⟨k, e0, _, wk⟩ := DataW.trod_int Tryz.underlying5 t0
      obtain ⟨s, e1, _, ws⟩ := DataW.trod_string Tryz.underlying9 t1
      obtain ⟨t, e2, _, wt⟩ := DataW.trod_string Tryz.underlying9 t2
      obtain ⟨p, e3, _, wp⟩ := DataW.trod_int Tryz.underlying2 t3
      obtain ⟨q, e4, _, wq⟩ := DataW.trod_int Tryz.underlying3 t4
      injection e0 with e0
      injection e1 with e1
      injection e2 with e2
      injection e3 with e3
      injection e4 with e4
      subst e0 e1 e2 e3 e4
      obtain ⟨k1, k2⟩ := Go.bounds_u8 wk
      have hk : ((UInt8.ofNat k.toNat).toNat : Int) = k := by
        rw [UInt8.toNat_ofNat']
        omega
      refine ⟨UInt8.ofNat k.toNat, s, t, p, q, ?_, ?_, ?_, ?_, ?_, ws, wt, Go.bounds_i64 wp, Go.bounds_i64 wq⟩
      · rw [hk, ← g0]
        rw [Go.Deep.add_add]; rfl
      · rw [← g1, Go.Deep.add_add]
      · rw [← g2, Go.Deep.add_add]
      · rw [← g3, Go.Deep.add_add]
      · rw [← g4, Go.Deep.add_add])
    refine ⟨L, ?_, by omega, hz⟩
    by_cases h0l : L = []
    · rw [h0l] at hL
      refine Or.inl ⟨some a, cap, ?_, h0l, fun h => by cases h⟩
      rw [h0, ← hL]; rfl
    · have hpos : 0 < L.length := List.length_pos_iff.2 h0l
      obtain ⟨ab, ao, asp⟩ := a
      have hspot : asp = none := by simpa [Addr.add] using World.cell?_spot (hc 0 hpos).1
      subst hspot
      have hadd : ∀ j, (⟨ab, ao, none⟩ : Addr).add j = ⟨ab, ao + j, none⟩ := by
        intro j
        unfold Addr.add
        split
        · rename_i hz; rw [hz]; rfl
        · rfl
      refine Or.inr ⟨ab, ao, cap, by rw [h0, hL], ?_, hpos⟩
      intro k hk
      obtain ⟨q0, q1, q2, q3, q4⟩ := hc k hk
      rw [hadd] at q0 q1 q2 q3 q4
      exact ⟨q0, q1, q2, q3, q4⟩
end
end Go.Proofs.YtgaknbnhmoddcaaGreatDoor
namespace Go.Proofs.YtgaknbnhmoddcaaGreatDoor
open Go.RowKit Go.WideShapes Go.ChangeShapes Go.Joins Go.Deep
section
variable {H : Type} {enc : TypeId × Value → H} {w : World} {base : Nat} {spare : Nat → Bool} {held : Bool}
theorem xs_of {α : Type} {Sl : Value → α → World → Prop} {Pr : α → Prop} (w : World) (a : Addr) : ∀ n : Nat, (∀ i, i < n → ∃ (s : ByteArray) (b : Option Addr) (l c : Nat) (y : α), w.cell? (a.add (i * 2)) = some (.string s) ∧ w.cell? (a.add (i * 2 + 1)) = some (.slice b l c) ∧ Sl (.slice b l c) y w ∧ s.size ≤ maxLen ∧ Pr y) →
    ∃ L : List (List UInt8 × α), L.length = n ∧ (∀ t ∈ L, t.1.length ≤ maxLen ∧ Pr t.2) ∧ ∀ (i : Nat) (h : i < L.length), w.cell? (a.add (i * 2)) = some (.string ⟨L[i].1.toArray⟩) ∧ ∃ b l c, w.cell? (a.add (i * 2 + 1)) = some (.slice b l c) ∧ Sl (.slice b l c) L[i].2 w
  | 0, _ => ⟨[], rfl, (fun t h => by cases h), (fun i h => absurd h (by simp))⟩
  | n + 1, h => by
    obtain ⟨L, hl, hz, hc⟩ := xs_of w a n fun i hi => h i (by omega)
    obtain ⟨s, b, l, c, y, c0, c1, hs, hz1, hy⟩ := h n (by omega)
    refine ⟨L ++ [(s.data.toList, y)], by simp [hl], ?_, ?_⟩
    · intro x hx
      rcases List.mem_append.1 hx with hx | hx
      · exact hz x hx
      · rw [List.mem_singleton] at hx
        rw [hx]
        refine ⟨?_, hy⟩
        show s.data.toList.length ≤ maxLen
        rw [Array.length_toList]
        exact hz1
    · intro i hi
      by_cases hin : i < L.length
      · rw [List.getElem_append_left hin]
        exact hc i hin
      · have hin' : i = L.length := by
          rw [List.length_append] at hi
          simp at hi
          omega
        subst hin'
        rw [List.getElem_append_right (Nat.le_refl _)]
        simp only [Nat.sub_self, List.getElem_cons_zero]
        rw [hl]
        exact ⟨c0, b, l, c, c1, hs⟩
theorem open_xs {P : Program} {α : Type} {Sl : Value → α → World → Prop} {Pr : α → Prop} {t e : TypeId} {f0 f1 : Field} {fuel : Nat} {v : Value} {x : DataW H × List MemPlace} (ht : P.underlying t = some (.slice e)) (he : P.underlying e = some (.struct #[f0, f1]))
    (ce : P.cellsOf e = 2) (o0 : f0.offset = 0) (o1 : f1.offset = 1) (c0 : P.cellsOf f0.type = 1) (c1 : P.cellsOf f1.type = 1) (hs : P.underlying f0.type = some .string)
    (hop : ∀ n u y, DataW.trod enc P w base spare held n f1.type [u] = some y → ∃ (b : Option Addr) (l c : Nat) (z : α), u = .slice b l c ∧ Sl u z w ∧ Pr z)
    (h : DataW.trod enc P w base spare held fuel t [v] = some x) :
    ∃ L : List (List UInt8 × α), XSl Sl v L w ∧ L.length ≤ maxLen ∧ ∀ t ∈ L, t.1.length ≤ maxLen ∧ Pr t.2 := by
  rcases open_slice_pairs ht he ce o0 o1 c0 c1 h with ⟨h0, _⟩ | ⟨a, len, cap, m, n, V0, V1, D0, D1, P0, P1, h0, hb, hl, hm, hmm, hx, hi⟩
  · injection h0 with h0
    exact ⟨[], Or.inl ⟨_, _, h0, rfl⟩, Nat.zero_le _, fun t h => by cases h⟩
  · injection h0 with h0
    have hlm : len ≤ m := by rw [hmm]; split <;> omega
    obtain ⟨L, hL, hz, hc⟩ := xs_of (Sl := Sl) (Pr := Pr) w a len (fun i hil => by
      obtain ⟨g0, g1, t0, t1⟩ := hi i (by omega)
      obtain ⟨s, e0, _, ws⟩ := DataW.trod_string hs t0
      obtain ⟨b, l, c, z, e1, hz, hp⟩ := hop _ _ _ t1
      injection e0 with e0
      rw [e0] at g0
      rw [e1] at g1 hz
      exact ⟨s, b, l, c, z, g0, g1, hz, ws, hp⟩)
    refine ⟨L, ?_, by omega, hz⟩
    by_cases h0l : L = []
    · rw [h0l] at hL
      refine Or.inl ⟨some a, cap, ?_, h0l⟩
      rw [h0, ← hL]; rfl
    · have hpos : 0 < L.length := List.length_pos_iff.2 h0l
      obtain ⟨ab, ao, asp⟩ := a
      have hspot : asp = none := by simpa [Addr.add] using World.cell?_spot (hc 0 hpos).1
      subst hspot
      have hadd : ∀ j, (⟨ab, ao, none⟩ : Addr).add j = ⟨ab, ao + j, none⟩ := by
        intro j
        unfold Addr.add
        split
        · rename_i hz; rw [hz]; rfl
        · rfl
      refine Or.inr ⟨ab, ao, cap, by rw [h0, hL], ?_, hpos⟩
      intro k hk
      obtain ⟨q0, b, l, c, q1, q2⟩ := hc k hk
      rw [hadd] at q0 q1
      exact ⟨q0, b, l, c, q1, q2⟩
theorem slice_form {P : Program} {t e : TypeId} {fuel : Nat} {u : Value} {x : DataW H × List MemPlace} (ht : P.underlying t = some (.slice e)) (h : DataW.trod enc P w base spare held fuel t [u] = some x) : ∃ (b : Option Addr) (l c : Nat), u = .slice b l c := by
  rcases open_slice ht h with ⟨h0, _⟩ | ⟨a, len, cap, m, n, D, Pl, h0, _⟩
  · injection h0 with h0
    exact ⟨_, _, _, h0⟩
  · injection h0 with h0
    exact ⟨_, _, _, h0⟩
/-- Cells' bounds. -/
def CelB (M : List Cel) : Prop := M.length ≤ maxLen ∧ ∀ t ∈ M, t.name.length ≤ maxLen ∧ t.text.length ≤ maxLen ∧ R t.num ∧ R t.many
def ArgB (A : List (List UInt8 × List Cel)) : Prop := A.length ≤ maxLen ∧ ∀ t ∈ A, t.1.length ≤ maxLen ∧ CelB t.2
theorem args_trod {fuel : Nat} {v : Value} {x : DataW H × List MemPlace} (h : DataW.trod enc Tryz.prog w base spare held fuel 26 [v] = some x) :
    ∃ L : List (List UInt8 × List Cel), ArgSl v L w ∧ ArgB L := by
  obtain ⟨L, h1, h2, h3⟩ := open_xs (Sl := CelSl) (Pr := CelB) Tryz.underlying26 Tryz.underlying65 (by kernel_rfl) rfl rfl (by kernel_rfl) (by kernel_rfl) Tryz.underlying9 (fun n u y hu => by
    obtain ⟨b, l, c, e⟩ := slice_form Tryz.underlying22 hu
    subst e
    obtain ⟨M, m1, m2⟩ := open_cells (v := .slice b l c) (d := y.1) (p := y.2) ⟨b, l, c, rfl⟩ ⟨n, hu⟩
    exact ⟨b, l, c, M, rfl, m1, m2⟩) h
  exact ⟨L, h1, h2, h3⟩
theorem open_args {v : Value} {d : DataW H} {p : List MemPlace} (hv : ∃ a l c, v = .slice a l c) (h : DataW.Trod enc Tryz.prog w base spare held 26 v d p) :
    ∃ L : List (List UInt8 × List Cel), ArgSl v L w ∧ ArgB L := by
  obtain ⟨fuel, hf⟩ := h
  obtain ⟨sa, sl, sc, rfl⟩ := hv
  exact args_trod hf
theorem open_dirs {v : Value} {d : DataW H} {p : List MemPlace} (hv : ∃ a l c, v = .slice a l c) (h : DataW.Trod enc Tryz.prog w base spare held 27 v d p) :
    ∃ L : List (List UInt8 × List (List UInt8 × List Cel)), DirSl v L w ∧ (L.length ≤ maxLen ∧ ∀ t ∈ L, t.1.length ≤ maxLen ∧ ArgB t.2) := by
  obtain ⟨fuel, hf⟩ := h
  obtain ⟨sa, sl, sc, rfl⟩ := hv
  obtain ⟨L, h1, h2, h3⟩ := open_xs (Sl := ArgSl) (Pr := ArgB) (v := .slice sa sl sc) Tryz.underlying27 Tryz.underlying61 (by kernel_rfl) rfl rfl (by kernel_rfl) (by kernel_rfl) Tryz.underlying9 (fun n u y hu => by
    obtain ⟨b, l, c, e⟩ := slice_form Tryz.underlying26 hu
    subst e
    obtain ⟨M, m1, m2⟩ := args_trod hu
    exact ⟨b, l, c, M, rfl, m1, m2⟩) hf
  exact ⟨L, h1, h2, h3⟩
end
end Go.Proofs.YtgaknbnhmoddcaaGreatDoor
namespace Go.Proofs.YtgaknbnhmoddcaaGreatDoor
open Go.RowKit Go.WideShapes Go.ChangeShapes Go.Joins Go.Deep
/-- Bytes in a row, read. -/
def BRow (b off : Nat) (L : List UInt8) (W : World) : Prop := ∀ (i : Nat) (h : i < L.length), W.cell? ⟨b, off + i, none⟩ = some (.int .u8 (L[i].toNat : Int))
def BSl (v : Value) (L : List UInt8) (W : World) : Prop := (∃ a cap, v = .slice a 0 cap ∧ L = []) ∨ ∃ b off cap, v = .slice (some ⟨b, off, none⟩) L.length cap ∧ BRow b off L W ∧ 0 < L.length
theorem BRow.below {b off : Nat} {L : List UInt8} {w w' : World} (h : BRow b off L w) (hb : Below w.heap.size w w') : BRow b off L w' := fun i hi => (hb.cell (p := ⟨b, _, none⟩) (lt_of_cell (h i hi))).trans (h i hi)
theorem addr_addB (b off j : Nat) : (⟨b, off, none⟩ : Addr).add j = ⟨b, off + j, none⟩ := by
  unfold Addr.add
  split
  · rename_i hz; rw [hz]; rfl
  · rfl
theorem BSl.below {v : Value} {L : List UInt8} {w w' : World} (h : BSl v L w) (hb : Below w.heap.size w w') : BSl v L w' := by
  rcases h with h | ⟨b, off, cap, h1, h2, h3⟩
  · exact Or.inl h
  · exact Or.inr ⟨b, off, cap, h1, h2.below hb, h3⟩
theorem BSl.convert {v : Value} {L : List UInt8} {w : World} (h : BSl v L w) : (convert 23 9 v).run Tryz.prog w = .ok (.string ⟨L.toArray⟩) w := by
  rcases h with ⟨a, cap, rfl, rfl⟩ | ⟨b, off, cap, rfl, h2, h3⟩
  · cases a with
    | none => exact Lib.run_convert_nil_bytes w 23 9 5 cap Tryz.underlying23 Tryz.underlying5 Tryz.underlying9
    | some a => exact Go.run_convert_bytes_back w 23 9 5 a cap [] Tryz.underlying23 Tryz.underlying5 Tryz.underlying9 (fun j hj => absurd hj (by simp))
  · exact Go.run_convert_bytes_back w 23 9 5 _ cap L Tryz.underlying23 Tryz.underlying5 Tryz.underlying9 (fun j hj => by rw [addr_addB]; exact h2 j hj)
theorem BSl.form {v : Value} {L : List UInt8} {w : World} (h : BSl v L w) : ∃ a c, v = .slice a L.length c := by
  rcases h with ⟨a, cap, rfl, rfl⟩ | ⟨b, off, cap, rfl, h2, h3⟩
  · exact ⟨_, _, rfl⟩
  · exact ⟨_, _, rfl⟩
section
variable {H : Type} {enc : TypeId × Value → H} {w : World} {base : Nat} {spare : Nat → Bool} {held : Bool}
theorem bytes_of (w : World) (a : Addr) : ∀ n : Nat, (∀ i, i < n → ∃ k : UInt8, w.cell? (a.add i) = some (.int .u8 (k.toNat : Int))) →
    ∃ L : List UInt8, L.length = n ∧ ∀ (i : Nat) (h : i < L.length), w.cell? (a.add i) = some (.int .u8 (L[i].toNat : Int))
  | 0, _ => ⟨[], rfl, (fun i h => absurd h (by simp))⟩
  | n + 1, h => by
    obtain ⟨L, hl, hc⟩ := bytes_of w a n fun i hi => h i (by omega)
    obtain ⟨k, c0⟩ := h n (by omega)
    refine ⟨L ++ [k], by simp [hl], ?_⟩
    intro i hi
    by_cases hin : i < L.length
    · rw [List.getElem_append_left hin]
      exact hc i hin
    · have hin' : i = L.length := by
        rw [List.length_append] at hi
        simp at hi
        omega
      subst hin'
      rw [List.getElem_append_right (Nat.le_refl _)]
      simp only [Nat.sub_self, List.getElem_cons_zero]
      rw [hl]
      exact c0
theorem bytes_trod {fuel : Nat} {v : Value} {x : DataW H × List MemPlace} (h : DataW.trod enc Tryz.prog w base spare held fuel 23 [v] = some x) :
    ∃ L : List UInt8, BSl v L w ∧ L.length ≤ maxLen := by
  rcases open_slice1 Tryz.underlying23 (by kernel_rfl) h with ⟨h0, _⟩ | ⟨a, len, cap, m, n, V, D, Pl, h0, hb, hl, hm, hmm, hx, hi⟩
  · injection h0 with h0
    exact ⟨[], Or.inl ⟨_, _, h0, rfl⟩, Nat.zero_le _⟩
  · injection h0 with h0
    have hlm : len ≤ m := by rw [hmm]; split <;> omega
    obtain ⟨L, hL, hc⟩ := bytes_of w a len (fun i hil => by
      obtain ⟨g0, t0⟩ := hi i (by omega)
      obtain ⟨k, e0, _, wk⟩ := DataW.trod_int Tryz.underlying5 t0
      injection e0 with e0
      obtain ⟨k1, k2⟩ := Go.bounds_u8 wk
      have hk : ((UInt8.ofNat k.toNat).toNat : Int) = k := by
        rw [UInt8.toNat_ofNat']
        omega
      exact ⟨UInt8.ofNat k.toNat, by rw [g0, e0, hk]⟩)
    refine ⟨L, ?_, by omega⟩
    by_cases h0l : L = []
    · rw [h0l] at hL
      refine Or.inl ⟨some a, cap, ?_, h0l⟩
      rw [h0, ← hL]; rfl
    · have hpos : 0 < L.length := List.length_pos_iff.2 h0l
      obtain ⟨ab, ao, asp⟩ := a
      have hspot : asp = none := by simpa [Addr.add] using World.cell?_spot (hc 0 hpos)
      subst hspot
      exact Or.inr ⟨ab, ao, cap, by rw [h0, hL], fun i hi => by rw [← addr_addB]; exact hc i hi, hpos⟩
theorem cells_ref : Tryz.prog.cellsOf 25 = 2 := by kernel_rfl
set_option maxRecDepth 100000 in
theorem open_ref {r : Reach} {b0 : Nat} {v : Value} {d : DataW H} {p : List MemPlace}
    (hv : Value.okWide Tryz.prog w r b0 25 v) (h : DataW.Trod enc Tryz.prog w base spare held 25 v d p) :
    ∃ L : ByteArray × List UInt8, (∃ u, v = .agg #[.string L.1, u] ∧ BSl u L.2 w) ∧ L.1.size ≤ maxLen ∧ L.2.length ≤ maxLen := by
  obtain ⟨c0, c1, y0, y1, n, rfl, rfl, rfl, hy0, hy1⟩ := open_agg2 Tryz.underlying25 (by kernel_rfl) cells_ref hv h
  obtain ⟨s, e0, _, ws⟩ := DataW.trod_string Tryz.underlying9 hy0
  obtain ⟨M, m1, m2⟩ := bytes_trod hy1
  injection e0 with e0
  subst e0
  exact ⟨(s, M), ⟨_, rfl, m1⟩, ws, m2⟩
end
end Go.Proofs.YtgaknbnhmoddcaaGreatDoor
namespace Go.Proofs.YtgaknbnhmoddcaaGreatDoor
open Go.RowKit
/-- Does what stands next go on with a type, arguments, directives? -/
def goB (M : List Tok) : Bool := match M with
  | [] => false
  | t :: _ => t.kind == 4 && (t.text == [33] || t.text == [40] || t.text == [64])
def tok0 : Tok := ⟨0, [], 0⟩
theorem OwnT.grow {B0 B : Nat} {v : Value} {L : List Tok} {W W' : World} (h : OwnT B v L W) (hg : W.grownBy W' v.ownBlock) (hB : B0 ≤ B) (hz : B0 ≤ W.heap.size) : Below B0 W W' := (Below.refl B0 W).grown hg hz (fun k hk => Nat.le_trans hB (h.lt k hk))
/-- What a reading step says. -/
def RdV (P : Int → Int → Value → World → Prop) (x : Ending) (w' : World) : Prop := ∃ va vn vc k f, x = .returned (.tuple #[.slice va vn vc, .int .i64 k, .int .i64 f]) ∧ P k f (.slice va vn vc) w'
theorem tok0_fresh (W : World) : TokSl (.slice (some ⟨W.heap.size, 0, none⟩) 1 1) [tok0] (W.alloc (.cells #[.int .u8 0, .string ⟨#[]⟩, .int .i64 0] 72)) := by
  have h : (W.alloc (.cells #[.int .u8 0, .string ⟨#[]⟩, .int .i64 0] 72)).heap[W.heap.size]? = some (.cells #[.int .u8 0, .string ⟨#[]⟩, .int .i64 0] 72 (0, 0)) := heap_new _ _ _ rfl
  refine Or.inr ⟨W.heap.size, 0, 1, rfl, fun k hk => ?_⟩
  match k, hk with
  | 0, _ => exact ⟨Lib.cell_of_heap h 0, Lib.cell_of_heap h 1, Lib.cell_of_heap h 2⟩
  | k + 1, hk => exact absurd hk (by simp)
set_option maxRecDepth 100000 in
set_option maxHeartbeats 8000000 in
theorem lb_go (nm : ByteArray) (ta : Option Addr) (tn tc : Nat) (vu au du : Value) (ma : Option Addr) (mn mc : Nat) (w : World) (E1 E2 E3 E4 : Int) (L1 L2 L3 L4 M M2 : List Tok)
    (H0 : Hid (∀ W, Below w.heap.size w W → Calls Tryz.prog 29 #[] W fun e w' => e = .returned (.bool true) ∧ Below W.heap.size W w'))
    (HG1 : Hid (∀ W, Below w.heap.size w W → Calls Tryz.prog 7 #[vu, .int .i64 100] W fun e w' => e = .returned (.bool false) ∧ W = w'))
    (hnm : ¬ (300 : Int) < (nm.size : Int)) (htn : ¬ (20 : Int) < (tn : Int))
    (HG2 : Hid (∀ W, Below w.heap.size w W → Calls Tryz.prog 8 #[au] W fun e w' => e = .returned (.bool false) ∧ W = w'))
    (HG3 : Hid (∀ W, Below w.heap.size w W → Calls Tryz.prog 9 #[du] W fun e w' => e = .returned (.bool false) ∧ W = w'))
    (HG4 : Hid (∀ W, Below w.heap.size w W → Calls Tryz.prog 31 #[.slice ma mn mc] W fun e w' => e = .returned (.bool false) ∧ W = w'))
    (hmn : mn = M.length) (HM : Hid (TokSl (.slice ma mn mc) M w)) (HM2 : Hid (M2 = if goB M then [] else M))
    (HLL : Hid (M.length ≤ 200 ∧ L1.length ≤ 90000 ∧ L2.length ≤ 90000 ∧ L3.length ≤ 90000 ∧ L4.length ≤ 90000))
    (HT1 : Hid (∀ W, Below w.heap.size w W → Calls Tryz.prog 11 #[vu] W fun e w' => (∃ v, e = .returned (.tuple #[v, .int .i64 E1]) ∧ OwnT W.heap.size v L1 w') ∧ Below W.heap.size W w'))
    (HN1 : Hid (E1 ≠ 0 → L1 = []))
    (HV1 : Hid (∀ W B u, Below w.heap.size w W → OwnT B u (L1 ++ M) W → Calls Tryz.prog 25 #[u, .int .i64 0, .bool false] W fun x w' => RdV (fun k f v w' => E1 = 0 → f = 0 ∧ k = (L1.length : Int) ∧ ∀ X, Below w'.heap.size w' X → Calls Tryz.prog 20 #[v, vu] X fun e w2 => e = .returned (.bool true) ∧ Below X.heap.size X w2) x w' ∧ Below W.heap.size W w'))
    (HT2 : Hid (∀ W, Below w.heap.size w W → Calls Tryz.prog 13 #[.agg #[.string nm, .slice ta tn tc]] W fun e w' => (∃ v, e = .returned (.tuple #[v, .int .i64 E2]) ∧ OwnT W.heap.size v L2 w') ∧ Below W.heap.size W w'))
    (HV2 : Hid (∀ W B u, Below w.heap.size w W → OwnT B u (L2 ++ M2) W → Calls Tryz.prog 22 #[u, .int .i64 0] W fun x w' => (∃ s va vn vc k f, x = .returned (.tuple #[.agg #[.string s, .slice va vn vc], .int .i64 k, .int .i64 f]) ∧ (E2 = 0 → f = 0 ∧ k = (L2.length : Int) ∧ ∀ X, Below w'.heap.size w' X → Calls Tryz.prog 27 #[.agg #[.string s, .slice va vn vc], .agg #[.string nm, .slice ta tn tc]] X fun e w2 => e = .returned (.bool true) ∧ Below X.heap.size X w2)) ∧ Below W.heap.size W w'))
    (HT3 : Hid (∀ W, Below w.heap.size w W → Calls Tryz.prog 15 #[au] W fun e w' => (∃ v, e = .returned (.tuple #[v, .int .i64 E3]) ∧ OwnT W.heap.size v L3 w') ∧ Below W.heap.size W w'))
    (HV3 : Hid (∀ W B u, Below w.heap.size w W → OwnT B u (L3 ++ (M2 ++ [tok0])) W → Calls Tryz.prog 24 #[u, .int .i64 0, .bool false] W fun x w' => RdV (fun k f v w' => E3 = 0 → f = 0 ∧ k = (L3.length : Int) ∧ ∀ X, Below w'.heap.size w' X → Calls Tryz.prog 33 #[v, au] X fun e w2 => e = .returned (.bool true) ∧ Below X.heap.size X w2) x w' ∧ Below W.heap.size W w'))
    (HT4 : Hid (∀ W, Below w.heap.size w W → Calls Tryz.prog 17 #[du] W fun e w' => (∃ v, e = .returned (.tuple #[v, .int .i64 E4]) ∧ OwnT W.heap.size v L4 w') ∧ Below W.heap.size W w'))
    (HV4 : Hid (∀ W B u, Below w.heap.size w W → OwnT B u (L4 ++ (M2 ++ [tok0])) W → Calls Tryz.prog 23 #[u, .int .i64 0, .bool false] W fun x w' => RdV (fun k f v w' => E4 = 0 → f = 0 ∧ k = (L4.length : Int) ∧ ∀ X, Below w'.heap.size w' X → Calls Tryz.prog 28 #[v, du] X fun e w2 => e = .returned (.bool true) ∧ Below X.heap.size X w2) x w' ∧ Below W.heap.size W w')) :
    Calls Tryz.prog 6 #[vu, .agg #[.string nm, .slice ta tn tc], au, du, .slice ma mn mc] w fun e w' => e = .returned (.bool true) ∧ Below w.heap.size w w' := by
  have HK : ∀ {W W' : World}, Hid (Below w.heap.size w W) → Below W.heap.size W W' → Hid (Below w.heap.size w W') := fun h h' => Lib.hid (h.out.trans (h'.mono h.out.size))
  have HMN := Lib.hid hmn
  clear hmn
  go_enter Tryz.func6, Tryz.ntmps6
  go_upto_region 1 with fail
  obtain ⟨w1, hw1⟩ : ∃ w1, w.alloc (.cells #[.string nm, .slice ta tn tc] 25 (0, 0)) = w1 := ⟨_, rfl⟩
  have HB1 : Hid (Below w.heap.size w w1) := Lib.hid (by rw [← hw1]; exact (Below.refl _ _).alloc (Nat.le_refl _) _)
  have HQ1 : Hid (w1.heap[w.heap.size]? = some (.cells #[.string nm, .slice ta tn tc] 25 (0, 0))) := Lib.hid (by rw [← hw1]; exact heap_new _ _ _ rfl)
  rw [hw1]
  clear hw1
  go_wp2_with fail
  refine (H0.out w1 HB1.out).mono ?_; rintro e w2 ⟨rfl, hb⟩
  have HB2 := HK HB1 hb
  have HQ2 := Lib.hid ((hb.block _ (heap_lt HQ1.out)).trans HQ1.out)
  clear hb HB1 HQ1
  obtain ⟨d0, d1, _, _⟩ := ref_cells HQ2.out
  go_wp2_with fail
  refine (HG1.out w2 HB2.out).mono ?_; rintro e w3 ⟨rfl, rfl⟩
  go_wp2_with fail
  refine (HG2.out w2 HB2.out).mono ?_; rintro e w3 ⟨rfl, rfl⟩
  go_wp2_with fail
  refine (HG3.out w2 HB2.out).mono ?_; rintro e w3 ⟨rfl, rfl⟩
  go_wp2_with fail
  refine (HG4.out w2 HB2.out).mono ?_; rintro e w3 ⟨rfl, rfl⟩
  go_wp2_with fail
  refine (HT1.out w2 HB2.out).mono ?_; rintro e w3 ⟨⟨v, rfl, ho⟩, hb⟩
  have HB3 := HK HB2 hb
  have HQ3 := Lib.hid ((hb.block _ (heap_lt HQ2.out)).trans HQ2.out)
  have hpn : ∃ pa pc, v = .slice pa L1.length pc := by
    rcases ho.2 with ⟨e1, e2⟩ | ⟨g, cap, cur, e1, _⟩
    · exact ⟨_, _, by rw [e1, e2]⟩
    · exact ⟨_, _, e1⟩
  obtain ⟨pa, pc, rfl⟩ := hpn
  have HP3 := Lib.hid ho
  have HM3 := Lib.hid (HM.out.below HB3.out)
  clear hb ho HB2 HQ2 d0 d1
  go_wp2_with fail
  refine (behind18_any L1 M _ _ w3 HP3.out.sl HM3.out (by have := HLL.out; omega)).mono ?_; rintro e w4 ⟨⟨u, rfl, ho⟩, hb⟩
  have HB4 := HK HB3 hb
  have HQ4 := Lib.hid ((hb.block _ (heap_lt HQ3.out)).trans HQ3.out)
  have HO4 := Lib.hid ho
  clear hb ho HB3 HQ3 HM3 HP3
  go_wp2_with fail
  refine (HV1.out w4 _ u HB4.out HO4.out).mono ?_; rintro e w5 ⟨⟨va, vn, vc, k, f, rfl, hE⟩, hb⟩
  have HB5 := HK HB4 hb
  have HQ5 := Lib.hid ((hb.block _ (heap_lt HQ4.out)).trans HQ4.out)
  have HE5 := Lib.hid hE
  clear hb hE HB4 HQ4 HO4
  go_upto_region 6 with fail
  go_cut [105] (fun s wx => s = .bool false ∧ Hid (Below w.heap.size w wx) ∧ Hid (wx.heap[w.heap.size]? = some (.cells #[.string nm, .slice ta tn tc] 25 (0, 0))))
  case first =>
    by_cases hE1 : E1 = 0
    · obtain ⟨rfl, rfl, hs⟩ := HE5.out hE1
      subst hE1
      have HS := Lib.hid hs
      clear hs
      go_wp2_with fail
      refine (HS.out w5 (Below.refl _ _)).mono ?_; rintro e w6 ⟨rfl, hb⟩
      have HB6 := HK HB5 hb
      have HQ6 := Lib.hid ((hb.block _ (heap_lt HQ5.out)).trans HQ5.out)
      clear hb
      go_wp2_with fail
      go_meet
      exact ⟨rfl, HB6, HQ6⟩
    · have h0 := HN1.out hE1
      subst h0
      go_wp2_with fail
      go_meet
      exact ⟨rfl, HB5, HQ5⟩
  case rest => as_aux_lemma =>
    obtain ⟨rfl, HB6, HQ6⟩ := hcut
    go_upto_region 9 with fail
    obtain ⟨w7, hw7⟩ : ∃ w7, wc.alloc (.cells #[.int .u8 0, .string ⟨#[]⟩, .int .i64 0] 72) = w7 := ⟨_, rfl⟩
    have hb7 : Below wc.heap.size wc w7 := by rw [← hw7]; exact (Below.refl _ _).alloc (Nat.le_refl _) _
    have HN7 : Hid (w7.heap[wc.heap.size]? = some (.cells #[.int .u8 0, .string ⟨#[]⟩, .int .i64 0] 72 (0, 0))) := Lib.hid (by rw [← hw7]; exact heap_new _ _ _ rfl)
    have HB7 := HK HB6 hb7
    have HQ7 := Lib.hid ((hb7.block _ (heap_lt HQ6.out)).trans HQ6.out)
    have hlt := heap_lt HQ6.out
    rw [hw7]
    clear hw7 hb7 HB6 HQ6 HB5 HQ5 HE5
    generalize wc.heap.size = nx at *
    go_upto_if 109 with fail
    go_cut [] (fun wx => ∃ (k0 : UInt8) (kd : Int) (s0 : ByteArray) (p0 : Int), Hid (wx.heap[nx]? = some (.cells #[.int .u8 kd, .string s0, .int .i64 p0] 72 (0, 0)) ∧ (k0.toNat : Int) = kd ∧ goB M = (k0 == 4 && (s0.data.toList == [33] || s0.data.toList == [40] || s0.data.toList == [64]))) ∧ Hid (Below w.heap.size w wx) ∧ Hid (wx.heap[w.heap.size]? = some (.cells #[.string nm, .slice ta tn tc] 25 (0, 0))))
    case first =>
      cases M with
      | nil =>
        have hm0 : mn = 0 := HMN.out
        subst hm0
        go_wp2_with fail
        go_meet
        exact ⟨0, 0, ⟨#[]⟩, 0, Lib.hid ⟨HN7.out, rfl, rfl⟩, HB7, HQ7⟩
      | cons t0 r0 =>
        have hmp : (0 : Int) < (mn : Int) := by have := HMN.out; rw [List.length_cons] at this; omega
        obtain ⟨b, off, rfl, hrow⟩ : ∃ b off, ma = some ⟨b, off, none⟩ ∧ TokRow b off (t0 :: r0) w := by
          rcases HM.out with ⟨a2, c2, e, e2, _⟩ | ⟨b, off, c2, e, hr⟩
          · cases e2
          · injection e with e1 e3 e4
            exact ⟨b, off, e1, hr⟩
        obtain ⟨q0, q1, q2⟩ := hrow 0 (by simp)
        have hbl := lt_of_cell q0
        simp only [Nat.zero_mul, Nat.add_zero, List.getElem_cons_zero] at q0 q1 q2
        have c0 := (HB7.out.cell (p := ⟨b, _, none⟩) hbl).trans q0
        have c1 := (HB7.out.cell (p := ⟨b, _, none⟩) hbl).trans q1
        have c2 := (HB7.out.cell (p := ⟨b, _, none⟩) hbl).trans q2
        obtain ⟨e0, e1, e2⟩ : w7.cell? ⟨nx, 0, none⟩ = some (.int .u8 0) ∧ w7.cell? ⟨nx, 1, none⟩ = some (.string ⟨#[]⟩) ∧ w7.cell? ⟨nx, 2, none⟩ = some (.int .i64 0) := ⟨Lib.cell_of_heap HN7.out 0, Lib.cell_of_heap HN7.out 1, Lib.cell_of_heap HN7.out 2⟩
        have f0 := Lib.frozen_of_heap HN7.out 0
        have f1 := Lib.frozen_of_heap HN7.out 1
        have f2 := Lib.frozen_of_heap HN7.out 2
        have hnxw : w.heap.size ≤ nx := Nat.le_of_lt hlt
        have hnw : nx < w7.heap.size := heap_lt HN7.out
        clear q0 q1 q2 hrow
        go_wp2_with fail
        go_meet
        refine ⟨t0.kind, _, ⟨t0.text.toArray⟩, t0.pos, Lib.hid ⟨pset (pset (pset HN7.out _ rfl) _ rfl) _ rfl, rfl, ?_⟩, Lib.hid ?_, Lib.hid ?_⟩
        · unfold goB
          simp
        · exact ((HB7.out.setCell (p := ⟨nx, 0, none⟩) hnxw _).setCell (p := ⟨nx, 1, none⟩) hnxw _).setCell (p := ⟨nx, 2, none⟩) hnxw _
        · exact ((RK.set nx 2 _ _).2 _ _ ((RK.set nx 1 _ _).2 _ _ ((RK.set nx 0 _ _).2 _ _ HQ7.out (by omega)) (by omega)) (by omega))
    case rest => as_aux_lemma =>
      obtain ⟨k0, kd, s0, p0, HN8, HB8, HQ8⟩ := hcut
      clear HN7 HB7 HQ7
      obtain ⟨gb, hgb⟩ : ∃ gb, goB M = gb := ⟨_, rfl⟩
      have HGB : Hid (gb = (k0 == 4 && (s0.data.toList == [33] || s0.data.toList == [40] || s0.data.toList == [64])) ∧ (k0.toNat : Int) = kd ∧ M2 = if gb then [] else M) := Lib.hid ⟨by rw [← hgb]; exact HN8.out.2.2, HN8.out.2.1, by rw [← hgb]; exact HM2.out⟩
      have e0 : wc.cell? ⟨nx, 0, none⟩ = some (.int .u8 kd) := Lib.cell_of_heap HN8.out.1 0
      have e1 : wc.cell? ⟨nx, 1, none⟩ = some (.string s0) := Lib.cell_of_heap HN8.out.1 1
      clear hgb HM2
      go_upto_region 11 with fail
      obtain ⟨w8, hw8⟩ : ∃ w8, wc = w8 := ⟨_, rfl⟩
      rw [hw8] at HN8 HB8 HQ8 e0 e1 ⊢
      clear hw8
      go_cut [18] (fun s wx => s = .bool gb ∧ wx = w8)
      case first =>
        obtain ⟨hg1, hg2, _⟩ := HGB.out
        by_cases hk : k0 = 4
        · subst hk
          have hkd : kd = 4 := by rw [← hg2]; rfl
          subst hkd
          have hg3 : gb = (s0.data.toList == [33] || s0.data.toList == [40] || s0.data.toList == [64]) := by rw [hg1]; rfl
          rw [← ByteArray.toList_eq] at hg3
          obtain ⟨r1, h1⟩ : ∃ r1, (s0.toList == [33]) = r1 := ⟨_, rfl⟩
          obtain ⟨r2, h2⟩ : ∃ r2, (s0.toList == [40]) = r2 := ⟨_, rfl⟩
          obtain ⟨r3, h3⟩ : ∃ r3, (s0.toList == [64]) = r3 := ⟨_, rfl⟩
          rw [h1, h2, h3] at hg3
          have HG3 := Lib.hid hg3
          have l1 : (⟨#[33]⟩ : ByteArray).toList = [33] := by rw [ByteArray.toList_eq]
          have l2 : (⟨#[40]⟩ : ByteArray).toList = [40] := by rw [ByteArray.toList_eq]
          have l3 : (⟨#[64]⟩ : ByteArray).toList = [64] := by rw [ByteArray.toList_eq]
          clear hg1 hg2 hg3
          cases r1 with
          | true =>
            go_wp2_with fail
            go_meet
            exact ⟨by rw [HG3.out]; rfl, rfl⟩
          | false =>
          cases r2 with
          | true =>
            go_wp2_with fail
            go_meet
            exact ⟨by rw [HG3.out]; rfl, rfl⟩
          | false =>
          cases r3 with
          | true =>
            go_wp2_with fail
            go_meet
            exact ⟨by rw [HG3.out]; rfl, rfl⟩
          | false =>
            go_wp2_with fail
            go_meet
            exact ⟨by rw [HG3.out]; rfl, rfl⟩
        · have hkd : ¬ kd = 4 := fun h => hk (UInt8.toNat_inj.1 (by have : ((4 : UInt8).toNat : Int) = 4 := rfl; omega))
          have hkb : (kd == 4) = false := by simpa using hkd
          have HG3 : Hid (gb = false) := Lib.hid (by rw [hg1, (by simpa using hk : (k0 == 4) = false)]; rfl)
          clear hg1 hg2 hk
          go_wp2_with fail
          go_meet
          exact ⟨by rw [HG3.out], rfl⟩
      case rest => as_aux_lemma =>
        obtain ⟨rfl, hwe⟩ := hcut
        rw [hwe]
        clear hwe e0 e1
        go_upto_if 131 with fail
        go_cut [4] (fun s4 wx => ∃ ma2 mn2 mc2, s4 = .slice ma2 mn2 mc2 ∧ Hid (TokSl (.slice ma2 mn2 mc2) M2 w8) ∧ wx = w8)
        case first =>
          have hg3 := HGB.out.2.2
          have HM8 := HM.out.below HB8.out
          cases gb with
          | true =>
            rw [if_pos rfl] at hg3
            have HG3 := Lib.hid hg3
            clear hg3 HM8
            go_wp2_with fail
            go_meet
            exact ⟨none, 0, 0, rfl, Lib.hid (by rw [HG3.out]; exact Or.inl ⟨_, _, rfl, rfl, fun _ => rfl⟩), rfl⟩
          | false =>
            rw [if_neg (by decide)] at hg3
            have HG3 := Lib.hid hg3
            have HM9 := Lib.hid HM8
            clear hg3 HM8
            go_wp2_with fail
            go_meet
            exact ⟨ma, mn, mc, rfl, Lib.hid (by rw [HG3.out]; exact HM9.out), rfl⟩
        case rest => as_aux_lemma =>
          obtain ⟨mb, mn2, md, rfl, HMB, hwe⟩ := hcut
          rw [hwe]
          clear hwe HN8
          have HLM : Hid (M2.length ≤ 200) := Lib.hid (by
            rw [HGB.out.2.2]
            split
            · simp
            · exact HLL.out.1)
          obtain ⟨d0, d1, _, _⟩ := ref_cells HQ8.out
          go_wp2_with fail
          refine (HT2.out w8 HB8.out).mono ?_; rintro e w9 ⟨⟨v, rfl, ho⟩, hb⟩
          have HB9 := HK HB8 hb
          have HQ9 := Lib.hid ((hb.block _ (heap_lt HQ8.out)).trans HQ8.out)
          have hpn : ∃ pa pc, v = .slice pa L2.length pc := by
            rcases ho.2 with ⟨e1, e2⟩ | ⟨g, cap, cur, e1, _⟩
            · exact ⟨_, _, by rw [e1, e2]⟩
            · exact ⟨_, _, e1⟩
          obtain ⟨qa, qc, rfl⟩ := hpn
          have HP9 := Lib.hid ho
          have HM9 := Lib.hid (HMB.out.below hb)
          clear hb ho HB8 HQ8 d0 d1 HMB
          go_wp2_with fail
          refine (behind18_any L2 M2 _ _ w9 HP9.out.sl HM9.out (by have := HLL.out; have := HLM.out; omega)).mono ?_; rintro e w10 ⟨⟨u2, rfl, ho⟩, hb⟩
          have HB10 := HK HB9 hb
          have HQ10 := Lib.hid ((hb.block _ (heap_lt HQ9.out)).trans HQ9.out)
          have HO10 := Lib.hid ho
          have HM10 := Lib.hid (HM9.out.below hb)
          clear hb ho HB9 HQ9 HM9 HP9
          go_wp2_with fail
          refine (HV2.out w10 _ u2 HB10.out HO10.out).mono ?_; rintro e w11 ⟨⟨s2, va2, vn2, vc2, k2, f2, rfl, hE⟩, hb⟩
          have HB11 := HK HB10 hb
          have HQ11 := Lib.hid ((hb.block _ (heap_lt HQ10.out)).trans HQ10.out)
          have HM11 := Lib.hid (HM10.out.below hb)
          have HE11 := Lib.hid hE
          clear hb hE HB10 HQ10 HO10 HM10
          go_upto_region 16 with fail
          obtain ⟨w12, hw12⟩ : ∃ w12, w11.alloc (.cells #[.string s2, .slice va2 vn2 vc2] 25) = w12 := ⟨_, rfl⟩
          have hb12 : Below w11.heap.size w11 w12 := by rw [← hw12]; exact (Below.refl _ _).alloc (Nat.le_refl _) _
          have HN12 : Hid (w12.heap[w11.heap.size]? = some (.cells #[.string s2, .slice va2 vn2 vc2] 25 (0, 0))) := Lib.hid (by rw [← hw12]; exact heap_new _ _ _ rfl)
          have HB12 := HK HB11 hb12
          have HQ12 := Lib.hid ((hb12.block _ (heap_lt HQ11.out)).trans HQ11.out)
          have HM12 := Lib.hid (HM11.out.below hb12)
          have HE12 : Hid (E2 = 0 → f2 = 0 ∧ k2 = (L2.length : Int) ∧ ∀ X, Below w12.heap.size w12 X → Calls Tryz.prog 27 #[.agg #[.string s2, .slice va2 vn2 vc2], .agg #[.string nm, .slice ta tn tc]] X fun e w2 => e = .returned (.bool true) ∧ Below X.heap.size X w2) := Lib.hid fun h => by
            obtain ⟨h1, h2, h3⟩ := HE11.out h
            exact ⟨h1, h2, fun X hX => h3 X (hb12.trans (hX.mono hb12.size))⟩
          rw [hw12]
          clear hw12 hb12 HB11 HQ11 HM11 HE11
          generalize w11.heap.size = ty at *
          go_cut [162] (fun s wx => s = .bool false ∧ Hid (Below w.heap.size w wx) ∧ Hid (TokSl (.slice mb mn2 md) M2 wx))
          case first =>
            by_cases hE1 : E2 = 0
            · obtain ⟨rfl, rfl, hs⟩ := HE12.out hE1
              subst hE1
              have HS := Lib.hid hs
              obtain ⟨d0, d1, _, _⟩ := ref_cells HQ12.out
              obtain ⟨d2, d3, _, _⟩ := ref_cells HN12.out
              clear hs
              go_wp2_with fail
              refine (HS.out w12 (Below.refl _ _)).mono ?_; rintro e w13 ⟨rfl, hb⟩
              have HB13 := HK HB12 hb
              have HM13 := Lib.hid (HM12.out.below hb)
              clear hb
              go_wp2_with fail
              go_meet
              exact ⟨rfl, HB13, HM13⟩
            · go_wp2_with fail
              go_meet
              exact ⟨rfl, HB12, HM12⟩
          case rest => as_aux_lemma =>
            obtain ⟨rfl, HB13, HM13⟩ := hcut
            clear HB12 HQ12 HM12 HN12 HE12
            obtain ⟨w13, hw13⟩ : ∃ w13, wc = w13 := ⟨_, rfl⟩
            rw [hw13] at HB13 HM13 ⊢
            clear hw13
            go_wp2_with (at_builtin; refine wpList_appT rfl _ _ rfl w13.heap.size (.slice (some ⟨w13.heap.size, 0, none⟩) 0 0) (.slice mb mn2 md) [] M2 rfl (OwnT.fresh0 w13) rfl (HM13.out.below ((Below.refl _ _).alloc (Nat.le_refl _) _)) ?c1 ?c2 ?_)
            case c1 => have := HLM.out; simp; omega
            case c2 => simp
            intro v3 w14 ho hg
            have hb : Below w13.heap.size w13 w14 := ((Below.refl _ _).alloc (Nat.le_refl _) _).trans (OwnT.grow (OwnT.fresh0 w13) hg (Nat.le_refl _) (by simp))
            have HB14 := HK HB13 hb
            have HO14 : Hid (OwnT w13.heap.size v3 M2 w14) := Lib.hid (by simpa using ho)
            have hz14 := hb.size
            clear hb ho hg HM13
            go_wp2_with (at_builtin; refine wpList_appT rfl _ _ rfl w13.heap.size v3 (.slice (some ⟨w14.heap.size, 0, none⟩) 1 1) M2 [tok0] rfl (HO14.out.alloc _) rfl (tok0_fresh w14) ?c1 ?c2 ?_)
            case c1 => have := HLM.out; simp; omega
            case c2 => simp; omega
            intro v4 w15 ho hg
            have HB15 : Hid (Below w.heap.size w w15) := Lib.hid ((HB14.out.alloc HB14.out.size _).trans (OwnT.grow (HO14.out.alloc _) hg HB13.out.size (by simp; have := HB14.out.size; omega)))
            have HM15 := Lib.hid ho
            have HLM2 : Hid ((M2 ++ [tok0]).length ≤ 201) := Lib.hid (by have := HLM.out; rw [List.length_append]; simp; omega)
            clear ho hg HB13 HB14 HO14 hz14
            generalize M2 ++ [tok0] = M3 at *
            go_wp2_with fail
            refine (HT3.out w15 HB15.out).mono ?_; rintro e w16 ⟨⟨v, rfl, ho⟩, hb⟩
            have HB16 := HK HB15 hb
            have hpn : ∃ pa pc, v = .slice pa L3.length pc := by
              rcases ho.2 with ⟨e1, e2⟩ | ⟨g, cap, cur, e1, _⟩
              · exact ⟨_, _, by rw [e1, e2]⟩
              · exact ⟨_, _, e1⟩
            obtain ⟨ra, rc, rfl⟩ := hpn
            have HP16 := Lib.hid ho
            have HM16 := Lib.hid (HM15.out.below hb)
            clear hb ho HB15 HM15
            go_wp2_with fail
            refine (behind18_any L3 M3 _ _ w16 HP16.out.sl HM16.out.sl (by have := HLL.out; have := HLM2.out; omega)).mono ?_; rintro e w17 ⟨⟨u3, rfl, ho⟩, hb⟩
            have HB17 := HK HB16 hb
            have HO17 := Lib.hid ho
            have HM17 := Lib.hid (HM16.out.below hb)
            clear hb ho HB16 HM16 HP16
            go_wp2_with fail
            refine (HV3.out w17 _ u3 HB17.out HO17.out).mono ?_; rintro e w18 ⟨⟨va3, vn3, vc3, k3, f3, rfl, hE⟩, hb⟩
            have HB18 := HK HB17 hb
            have HM18 := Lib.hid (HM17.out.below hb)
            have HE18 := Lib.hid hE
            clear hb hE HB17 HO17 HM17
            go_upto_region 22 with fail
            go_cut [200] (fun s wx => s = .bool false ∧ Hid (Below w.heap.size w wx) ∧ Hid (OwnT w13.heap.size v4 M3 wx))
            case first =>
              by_cases hE1 : E3 = 0
              · obtain ⟨rfl, rfl, hs⟩ := HE18.out hE1
                subst hE1
                have HS := Lib.hid hs
                clear hs
                go_wp2_with fail
                refine (HS.out w18 (Below.refl _ _)).mono ?_; rintro e w19 ⟨rfl, hb⟩
                have HB19 := HK HB18 hb
                have HM19 := Lib.hid (HM18.out.below hb)
                clear hb
                go_wp2_with fail
                go_meet
                exact ⟨rfl, HB19, HM19⟩
              · go_wp2_with fail
                go_meet
                exact ⟨rfl, HB18, HM18⟩
            case rest => as_aux_lemma =>
              obtain ⟨rfl, HB19, HM19⟩ := hcut
              clear HB18 HM18 HE18
              obtain ⟨w19, hw19⟩ : ∃ w19, wc = w19 := ⟨_, rfl⟩
              rw [hw19] at HB19 HM19 ⊢
              clear hw19
              go_wp2_with fail
              refine (HT4.out w19 HB19.out).mono ?_; rintro e w20 ⟨⟨v, rfl, ho⟩, hb⟩
              have HB20 := HK HB19 hb
              have hpn : ∃ pa pc, v = .slice pa L4.length pc := by
                rcases ho.2 with ⟨e1, e2⟩ | ⟨g, cap, cur, e1, _⟩
                · exact ⟨_, _, by rw [e1, e2]⟩
                · exact ⟨_, _, e1⟩
              obtain ⟨sa, sc, rfl⟩ := hpn
              have HP20 := Lib.hid ho
              have HM20 := Lib.hid (HM19.out.below hb)
              clear hb ho HB19 HM19
              go_wp2_with fail
              refine (behind18_any L4 M3 _ _ w20 HP20.out.sl HM20.out.sl (by have := HLL.out; have := HLM2.out; omega)).mono ?_; rintro e w21 ⟨⟨u4, rfl, ho⟩, hb⟩
              have HB21 := HK HB20 hb
              have HO21 := Lib.hid ho
              clear hb ho HB20 HM20 HP20
              go_wp2_with fail
              refine (HV4.out w21 _ u4 HB21.out HO21.out).mono ?_; rintro e w22 ⟨⟨va4, vn4, vc4, k4, f4, rfl, hE⟩, hb⟩
              have HB22 := HK HB21 hb
              have HE22 := Lib.hid hE
              clear hb hE HB21 HO21
              by_cases hE1 : E4 = 0
              · obtain ⟨rfl, rfl, hs⟩ := HE22.out hE1
                subst hE1
                have HS := Lib.hid hs
                clear hs
                go_wp2_with fail
                refine (HS.out w22 (Below.refl _ _)).mono ?_; rintro e w23 ⟨rfl, hb⟩
                have HB23 := HK HB22 hb
                clear hb
                go_wp2_with fail
                go_ret
                exact ⟨rfl, HB23.out⟩
              · go_wp2_with fail
                go_ret
                exact ⟨rfl, HB22.out⟩
end Go.Proofs.YtgaknbnhmoddcaaGreatDoor
