/- The walks through the reference's Under (provostref03) and Text (provostref04). -/
import Derived.Test.YteapenemnnhonaaDoorJp
import Derived.Test.YteapenemnnhonaaDoorCi
import Derived.Test.YteapenemnnhonaaDoorLq
import Derived.Test.YteapenemnnhonaaDoorRw
import Derived.Deep.LoopGhost
set_option linter.unusedSimpArgs false
set_option linter.unusedVariables false
namespace Go.Proofs.YteapenemnnhonaaDoor
open Go.RowKit
/-- Where the items, the members, begin. -/
def plcJ (val : List Cel → Option Nat) (V : List Cel) : Nat → Nat → List Nat
  | 0, _ => []
  | n + 1, p => p :: plcJ val V n (p + (val (V.drop p)).getD 0)
theorem plcJ_len (val : List Cel → Option Nat) (V : List Cel) : ∀ n p, (plcJ val V n p).length = n
  | 0, _ => rfl
  | n + 1, p => by rw [plcJ, List.length_cons, plcJ_len val V n]
theorem OwnI.form {B : Nat} {v : Value} {l : List Nat} {w : World} (h : OwnI B v l w) : ∃ a c, v = .slice a l.length c ∧ (0 < l.length → ∃ g, a = some ⟨g, 0, none⟩ ∧ ∀ (i : Nat) (hi : i < l.length), w.cell? ⟨g, 0 + i, none⟩ = some (.int .i64 (l[i] : Int))) := by
  obtain ⟨h1, h2⟩ := h
  rcases h2 with ⟨rfl, h3⟩ | ⟨g, cap, cur, hv, hB, hg, hn, hc, hcs, ht⟩
  · exact ⟨none, 0, by rw [h3], fun h => by omega⟩
  · refine ⟨_, cap, hv, fun _ => ⟨g, rfl, fun i hi => ?_⟩⟩
    rw [Nat.mul_one] at ht
    have e : cur.toList[i]? = some (.int .i64 (l[i] : Int)) := by
      have : (cur.toList.take l.length)[i]? = some (.int .i64 (l[i] : Int)) := by rw [ht]; unfold natCells; simp [hi]
      rw [List.getElem?_take] at this
      simpa [hi] using this
    rw [Nat.zero_add]
    refine (Lib.cell_of_heap hg i).trans ?_
    simpa using e
theorem OwnI.lower {B B' : Nat} {v : Value} {l : List Nat} {w : World} (h : OwnI B v l w) (hB : B' ≤ B) : OwnI B' v l w := by
  obtain ⟨h1, h2⟩ := h
  refine ⟨h1, ?_⟩
  rcases h2 with h2 | ⟨g, cap, cur, hv, hb, hrest⟩
  · exact Or.inl h2
  · exact Or.inr ⟨g, cap, cur, hv, by omega, hrest⟩
set_option maxRecDepth 100000 in
set_option maxHeartbeats 1000000 in
theorem runder_any (V : List Cel) (b off cap : Nat) (W : World) (k : Nat) (kk : Nat) (nx tx : ByteArray) (nu : Int) (m : Nat) (hk : k < V.length) (hl : V.length ≤ 2048)
    (c0 : W.cell? ⟨b, off + k * 5, none⟩ = some (.int .u8 (kk : Int))) (c1 : W.cell? ⟨b, off + k * 5 + 1, none⟩ = some (.string nx)) (c2 : W.cell? ⟨b, off + k * 5 + 2, none⟩ = some (.string tx)) (c3 : W.cell? ⟨b, off + k * 5 + 3, none⟩ = some (.int .i64 nu)) (c4 : W.cell? ⟨b, off + k * 5 + 4, none⟩ = some (.int .i64 (m : Int)))
    (hmx : (m : Int) ≤ 9223372036854775807) (HROW : Hid (CelRow b off V W)) (d1 n : Nat) (hd : d1 ≤ 16) (isL : Bool) (hkids : KS V d1 k isL (some n) m [] 0)
    (HBE : Hid (∀ (W' : World) (p : Nat), p < V.length → CelRow b off V W' → Calls Tryd.prog 33 #[.slice (some ⟨b, off, none⟩) V.length cap, .int .i64 (p : Int), .int .i64 16] W' fun e w' => e = .returned (.int .i64 (endI V p 16)) ∧ Below W'.heap.size W' w')) :
    Calls Tryd.prog 27 #[.slice (some ⟨b, off, none⟩) V.length cap, .int .i64 (k : Int)] W fun e w' => ∃ v, e = .returned v ∧ OwnI W.heap.size v (plcJ (valN d1) V m (k + 1)) w' ∧ Below W.heap.size W w' := by
  have HK0 := Lib.hid hkids
  obtain ⟨P, hP⟩ : ∃ P, plcJ (valN d1) V m (k + 1) = P := ⟨_, rfl⟩
  have HP : Hid ([] ++ plcJ (valN d1) V m (k + 1) = P) := Lib.hid hP
  rw [hP]
  clear hP hkids
  go_enter Tryd.func27, Tryd.ntmps27
  go_wp2_with fail
  obtain ⟨wc, hwc⟩ : ∃ wc, W.alloc (.cells #[.int .u8 (kk : Int), .string nx, .string tx, .int .i64 nu, .int .i64 (m : Int)] 33) = wc := ⟨_, rfl⟩
  have hc : wc.heap[W.heap.size]? = some (.cells #[.int .u8 (kk : Int), .string nx, .string tx, .int .i64 nu, .int .i64 (m : Int)] 33 (0, 0)) := by rw [← hwc]; exact heap_alloc_new W _
  have hbc : Below W.heap.size W wc := by rw [← hwc]; exact (Below.refl _ _).alloc (Nat.le_refl _) _
  have hcz : W.heap.size < wc.heap.size := heap_lt hc
  rw [hwc]
  have HC := Lib.hid hc
  have HBC := Lib.hid hbc
  clear hwc hc hbc
  go_loopg [1, 5, 7] m (fun gk at_ nv ct wr => ∃ (j p u : Nat) (ov : Value) (out : List Nat) (nm : List (List UInt8)), ov = nv ∧ at_ = .int .i64 (p : Int) ∧ ct = .int .i64 j ∧ (gk + j ≤ m ∧ m ≤ gk + j) ∧ p ≤ V.length ∧ Hid (p = k + 1 + u) ∧ j ≤ u ∧ out.length ≤ j ∧ Hid (KS V d1 k isL (some n) gk nm u) ∧ Hid (out ++ plcJ (valN d1) V gk p = P) ∧ Hid (OwnI wc.heap.size ov out wr) ∧ Hid (Below wc.heap.size wc wr))
  case atStart => exact ⟨0, k + 1, 0, _, [], [], rfl, by go_num, rfl, ⟨by omega, by omega⟩, by omega, Lib.hid rfl, Nat.le_refl _, Nat.le_refl _, HK0, HP, Lib.hid (OwnI.nil _ _), Lib.hid (Below.refl _ _)⟩
  case round =>
    rename World => wr
    obtain ⟨j, p, u, ov, out, nm, rfl, rfl, rfl, ⟨hj, hj'⟩, hp, HPU, hju, hout, HKS, HPP, HO2, HB⟩ := hrel
    have e4 : wr.cell? ⟨W.heap.size, 4, none⟩ = some (.int .i64 (m : Int)) := by rw [Lib.cell_of_heap ((HB.out.block _ hcz).trans HC.out)]; rfl
    have hwz := HB.out.size
    by_cases hg0 : gk = 0
    · subst hg0
      have HF : Hid (out = P) := Lib.hid (by have := HPP.out; rw [plcJ, List.append_nil] at this; exact this)
      have HOF : Hid (OwnI W.heap.size ov P wr) := Lib.hid (by rw [← HF.out]; exact OwnI.lower HO2.out HBC.out.size)
      have hjn : ¬ j < m := by omega
      have HBF : Hid (Below W.heap.size W wr) := Lib.hid (HBC.out.trans (HB.out.mono HBC.out.size))
      clear hj hj' hju HO2
      go_wp2_with fail
      go_ret
      exact ⟨_, rfl, HOF.out, HBF.out⟩
    · obtain ⟨g1, rfl⟩ : ∃ g1, gk = g1 + 1 := ⟨gk - 1, by omega⟩
      have hjm : j < m := by omega
      clear hg0
      obtain ⟨hpl, n1, hv1, hks⟩ := HKS.out.step HPU.out
      have hn1 := (valN_le _ _ _ hv1).1
      have hn2 := (valN_le _ _ _ hv1).2
      rw [List.length_drop] at hn2
      have hpp := HPP.out
      rw [plcJ, hv1, Option.getD_some] at hpp
      obtain ⟨p2, hp2⟩ : ∃ p2, p + n1 = p2 := ⟨_, rfl⟩
      have HP2 : Hid (p2 = k + 1 + (u + n1)) := Lib.hid (by rw [← hp2, HPU.out]; omega)
      have hp3 : p2 ≤ V.length := by omega
      have HKS2 := Lib.hid hks
      rw [hp2] at hpp
      have HPN : Hid ((out ++ [p]) ++ plcJ (valN d1) V g1 p2 = P) := Lib.hid (by rw [← hpp]; simp)
      have HI : Hid (∀ W', CelRow b off V W' → Calls Tryd.prog 33 #[.slice (some ⟨b, off, none⟩) V.length cap, .int .i64 (p : Int), .int .i64 16] W' fun e w' => e = .returned (.int .i64 (p2 : Int)) ∧ Below W'.heap.size W' w') := Lib.hid fun W' h => by
        have := HBE.out W' p hpl h
        rw [endI_some (valN_mono hd _ _ hv1), hp2] at this
        exact this
      have hun : u ≤ 100000 := by have := HPU.out; omega
      clear hpp hks hv1 hp2 hn2
      go_wp2_with (at_builtin; refine wpList_pushI rfl _ _ rfl wc.heap.size ov out rfl (HO2.out.alloc _) ⟨wr.heap.size, 0, none⟩ 1 p rfl (new_cell0 wr _ _) ?c1 ?c2 ?_)
      case c1 => omega
      case c2 => simp; omega
      intro v' w3 hown' hgrow
      have HB3 : Hid (Below wc.heap.size wc w3) := Lib.hid ((HB.out.alloc hwz _).grown hgrow (by simp; omega) HO2.out.lt)
      have HBW3 : Hid (Below W.heap.size W w3) := Lib.hid (HBC.out.trans (HB3.out.mono HBC.out.size))
      have HO5 := Lib.hid hown'
      clear hown' hgrow e4
      go_wp2_with fail
      refine (HI.out _ (HROW.out.below' HBW3.out)).mono ?_; rintro e w6 ⟨rfl, hb6⟩
      have HB6 := Lib.hid (HB3.out.trans (hb6.mono HB3.out.size))
      have HO6 := Lib.hid (HO5.out.below hb6)
      clear hb6
      go_wp2_with fail
      go_roundg g1
      case measure => omega
      case rel => exact ⟨j + 1, p2, u + n1, _, out ++ [p], _, rfl, rfl, by go_num, ⟨by omega, by omega⟩, hp3, HP2, by omega, by simp; omega, HKS2, HPN, HO6, HB6⟩
end Go.Proofs.YteapenemnnhonaaDoor
