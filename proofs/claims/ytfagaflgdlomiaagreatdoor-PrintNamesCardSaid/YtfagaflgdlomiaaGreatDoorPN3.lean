/- Walks and plain laws of this proof, joined from smaller texts (3). -/
import Derived.Deep.LoopGhost
import Derived.Laws.EntriesVeiled
import Derived.Lib.AppendZerosOnto
import Derived.Laws.IdiomCopy
import Derived.Laws.AppendOwnNone
import Derived.RangeFuncNested
import Derived.RangeFuncBound
import Derived.RangeFuncCalls
import Derived.RangeFuncLeaves
import Derived.Shelf.Abstract
import Derived.Shelf.RegionOpen
import Derived.WalkKit
import Derived.OwnWalkIn
import Derived.TacticsInMore
import Derived.LoopNIn
import Derived.LoopIn
import Derived.ProofKit
import Derived.OpenShut
import Derived.Lib.SmallJoins
import Derived.Deep.Slices
import Derived.Deep.Fields
import Derived.ChangeSame
import Derived.Deep.SlicePairs
import Derived.Deep.DeepCutAuto
import Derived.Test.YtfagaflgdlomiaaGreatDoorRows
import Derived.WalkSpells
import Derived.Handy
import Derived.Lib.Hide
import Derived.Deep.Light
import Derived.Lib.ItoaLen
import Derived.RangeFuncOwn
import Derived.BigRegion
import Derived.Test.YtfagaflgdlomiaaGreatDoorPN2
set_option linter.unusedSimpArgs false
set_option linter.unusedVariables false
namespace Go.Proofs.YtfagaflgdlomiaaGreatDoor
open Go.RowKit
theorem put_add (q : Nat) (v : Value) (L : List Tok) (k : UInt8) (kd : Int) (hkd : (k.toNat : Int) = kd) (s : ByteArray) (lb cl : Nat) (W : World) (h : PutS q v L W) (hl : W.cell? ⟨lb, 0, none⟩ = some (.string s)) (hlb : lb ≠ q) (hL : L.length ≤ 100000) :
    Calls Tryz.prog 42 #[.pointer (some ⟨q, 0, none⟩), .int .u8 kd, .slice (some ⟨lb, 0, none⟩) 1 cl] W fun x W' => x = .returned (.tuple #[]) ∧ (∃ v', PutS q v' (L ++ [⟨k, s.data.toList, 0⟩]) W') ∧ RK q W W' := by
  subst hkd
  have h2 := h
  obtain ⟨h1, hn, hr⟩ := h
  rcases hr with ⟨rfl, e⟩ | ⟨g, cap, cur, rfl, hB, hg, hcap, hrest⟩
  · exact put_add_none q none 0 0 L k s lb cl W ⟨rfl, rfl, rfl⟩ e.symm (Nat.le_refl _) h2 hl hlb hL
  · exact put_add_some q (some ⟨g, 0, none⟩) L.length cap L k s lb cl W ⟨g, rfl⟩ rfl hcap h2 hl hlb hL
theorem PutS.rk {p q : Nat} {v : Value} {L : List Tok} {W W' : World} (h : PutS q v L W) (hb : Below W.heap.size W W') : PutS q v L W' := h.below hb
theorem CelRow.rk {b off p : Nat} {V : List Cel} {W W' : World} (h : CelRow b off V W) (hk : RK p W W') (hne : b ≠ p) : CelRow b off V W' := by
  intro i hi
  obtain ⟨h0, h1, h2, h3, h4⟩ := h i hi
  have hb : W'.heap[b]? = W.heap[b]? := by
    have hlt := lt_of_cell h0
    obtain ⟨o, ho⟩ : ∃ o, W.heap[b]? = some o := ⟨_, Array.getElem?_eq_getElem hlt⟩
    rw [ho]; exact hk.2 b o ho hne
  refine ⟨?_, ?_, ?_, ?_, ?_⟩
  · rw [← h0]; unfold World.cell?; rw [hb]
  · rw [← h1]; unfold World.cell?; rw [hb]
  · rw [← h2]; unfold World.cell?; rw [hb]
  · rw [← h3]; unfold World.cell?; rw [hb]
  · rw [← h4]; unfold World.cell?; rw [hb]
/-- What a putting leaves: the place behind; its tokens behind those that were there. -/
def PEnd (q : Nat) (L : List Tok) (n : Int) (W : World) (e : Ending) (W' : World) : Prop := e = .returned (.int .i64 n) ∧ (∃ v', PutS q v' L W') ∧ RK q W W'
theorem rk_below {q : Nat} {W W' : World} (hb : Below W.heap.size W W') (hq : q ≤ W.heap.size) : RK q W W' := ⟨hb.mono hq, fun k o hk _ => (hb.block k (heap_lt hk)).trans hk⟩
set_option maxRecDepth 100000 in
set_option maxHeartbeats 1000000 in
theorem up_null (q b off nV cap k : Nat) (pv : Value) (L : List Tok) (W : World) (kk : Nat) (nx tx : ByteArray) (nu mn : Int) (hP : PutS q pv L W)
    (hk : k < nV) (hl : nV ≤ 2048) (hL : L.length + 8 ≤ 100000)
    (c0 : W.cell? ⟨b, off + k * 5, none⟩ = some (.int .u8 (kk : Int))) (c1 : W.cell? ⟨b, off + k * 5 + 1, none⟩ = some (.string nx)) (c2 : W.cell? ⟨b, off + k * 5 + 2, none⟩ = some (.string tx)) (c3 : W.cell? ⟨b, off + k * 5 + 3, none⟩ = some (.int .i64 nu)) (c4 : W.cell? ⟨b, off + k * 5 + 4, none⟩ = some (.int .i64 mn))
    (h0 : kk = 0)  :
    Calls Tryz.prog 50 #[.pointer (some ⟨q, 0, none⟩), .slice (some ⟨b, off, none⟩) nV cap, .int .i64 (k : Int)] W fun e w' => PEnd q (L ++ [nmT [110, 117, 108, 108]]) ((k : Int) + 1) W e w' := by
  have hq := hP.lt
  have hk1 : IntKind.i64.wrap ((k : Int) + 1) = (k : Int) + 1 := IntWalk.i64_in _ (by omega)
  have hk2 : (k : Int).toNat = k := by omega
  have hk3 : (0 : Int) ≤ (k : Int) := by omega
  have hk4 : (k : Int) < (nV : Int) := by omega
  have HP := Lib.hid hP
  clear hP
  subst h0
  have hb1 : Below W.heap.size W ((W.alloc (.cells #[.int .u8 0, .string nx, .string tx, .int .i64 nu, .int .i64 mn] 38)).alloc (.cells #[.string ⟨#[110, 117, 108, 108]⟩] 9)) := ((Below.refl _ _).alloc (Nat.le_refl _) _).alloc (by simp) _
  have HP1 := Lib.hid (HP.out.below hb1)
  have HK1 : Hid (RK q W _) := Lib.hid (rk_below hb1 (Nat.le_of_lt hq))
  have hne : W.heap.size + 1 ≠ q := by omega
  have hl1 : ((W.alloc (.cells #[.int .u8 0, .string nx, .string tx, .int .i64 nu, .int .i64 mn] 38)).alloc (.cells #[.string ⟨#[110, 117, 108, 108]⟩] 9)).cell? ⟨W.heap.size + 1, 0, none⟩ = some (.string ⟨#[110, 117, 108, 108]⟩) := Lib.cell_of_heap (heap_new _ _ _ (by simp)) 0
  clear hb1
  go_enter Tryz.func50, Tryz.ntmps50
  go_wp2_with fail
  refine (put_add q pv L 1 1 rfl ⟨#[110, 117, 108, 108]⟩ _ 1 _ HP1.out hl1 hne (by omega)).mono ?_; rintro e wx ⟨rfl, hx1, hx2⟩
  have HFIN : Hid ((∃ v', PutS q v' (L ++ [nmT [110, 117, 108, 108]]) wx) ∧ RK q W wx) := Lib.hid ⟨hx1, HK1.out.trans hx2⟩
  clear hx1 hx2
  go_wp2_with fail
  go_ret
  exact ⟨rfl, HFIN.out⟩
set_option maxRecDepth 100000 in
set_option maxHeartbeats 1000000 in
theorem up_true (q b off nV cap k : Nat) (pv : Value) (L : List Tok) (W : World) (kk : Nat) (nx tx : ByteArray) (nu mn : Int) (hP : PutS q pv L W)
    (hk : k < nV) (hl : nV ≤ 2048) (hL : L.length + 8 ≤ 100000)
    (c0 : W.cell? ⟨b, off + k * 5, none⟩ = some (.int .u8 (kk : Int))) (c1 : W.cell? ⟨b, off + k * 5 + 1, none⟩ = some (.string nx)) (c2 : W.cell? ⟨b, off + k * 5 + 2, none⟩ = some (.string tx)) (c3 : W.cell? ⟨b, off + k * 5 + 3, none⟩ = some (.int .i64 nu)) (c4 : W.cell? ⟨b, off + k * 5 + 4, none⟩ = some (.int .i64 mn))
    (h0 : kk = 1) (h1 : nu = 1) :
    Calls Tryz.prog 50 #[.pointer (some ⟨q, 0, none⟩), .slice (some ⟨b, off, none⟩) nV cap, .int .i64 (k : Int)] W fun e w' => PEnd q (L ++ [nmT [116, 114, 117, 101]]) ((k : Int) + 1) W e w' := by
  have hq := hP.lt
  have hk1 : IntKind.i64.wrap ((k : Int) + 1) = (k : Int) + 1 := IntWalk.i64_in _ (by omega)
  have hk2 : (k : Int).toNat = k := by omega
  have hk3 : (0 : Int) ≤ (k : Int) := by omega
  have hk4 : (k : Int) < (nV : Int) := by omega
  have HP := Lib.hid hP
  clear hP
  subst h0
  subst h1
  have ix := fun w : World => (show (Instr.index 140 (.agg #[.string ⟨#[102, 97, 108, 115, 101]⟩, .string ⟨#[116, 114, 117, 101]⟩]) (.int .i64 1)).run Tryz.prog w = .ok (.string ⟨#[116, 114, 117, 101]⟩) w by kernel_rfl)
  have hb1 : Below W.heap.size W ((W.alloc (.cells #[.int .u8 1, .string nx, .string tx, .int .i64 1, .int .i64 mn] 38)).alloc (.cells #[.string ⟨#[116, 114, 117, 101]⟩] 9)) := ((Below.refl _ _).alloc (Nat.le_refl _) _).alloc (by simp) _
  have HP1 := Lib.hid (HP.out.below hb1)
  have HK1 : Hid (RK q W _) := Lib.hid (rk_below hb1 (Nat.le_of_lt hq))
  have hne : W.heap.size + 1 ≠ q := by omega
  have hl1 : ((W.alloc (.cells #[.int .u8 1, .string nx, .string tx, .int .i64 1, .int .i64 mn] 38)).alloc (.cells #[.string ⟨#[116, 114, 117, 101]⟩] 9)).cell? ⟨W.heap.size + 1, 0, none⟩ = some (.string ⟨#[116, 114, 117, 101]⟩) := Lib.cell_of_heap (heap_new _ _ _ (by simp)) 0
  clear hb1
  go_enter Tryz.func50, Tryz.ntmps50
  go_wp2_with fail
  refine (put_add q pv L 1 1 rfl ⟨#[116, 114, 117, 101]⟩ _ 1 _ HP1.out hl1 hne (by omega)).mono ?_; rintro e wx ⟨rfl, hx1, hx2⟩
  have HFIN : Hid ((∃ v', PutS q v' (L ++ [nmT [116, 114, 117, 101]]) wx) ∧ RK q W wx) := Lib.hid ⟨hx1, HK1.out.trans hx2⟩
  clear hx1 hx2
  go_wp2_with fail
  go_ret
  exact ⟨rfl, HFIN.out⟩
set_option maxRecDepth 100000 in
set_option maxHeartbeats 1000000 in
theorem up_false (q b off nV cap k : Nat) (pv : Value) (L : List Tok) (W : World) (kk : Nat) (nx tx : ByteArray) (nu mn : Int) (hP : PutS q pv L W)
    (hk : k < nV) (hl : nV ≤ 2048) (hL : L.length + 8 ≤ 100000)
    (c0 : W.cell? ⟨b, off + k * 5, none⟩ = some (.int .u8 (kk : Int))) (c1 : W.cell? ⟨b, off + k * 5 + 1, none⟩ = some (.string nx)) (c2 : W.cell? ⟨b, off + k * 5 + 2, none⟩ = some (.string tx)) (c3 : W.cell? ⟨b, off + k * 5 + 3, none⟩ = some (.int .i64 nu)) (c4 : W.cell? ⟨b, off + k * 5 + 4, none⟩ = some (.int .i64 mn))
    (h0 : kk = 1) (h1 : nu = 0) :
    Calls Tryz.prog 50 #[.pointer (some ⟨q, 0, none⟩), .slice (some ⟨b, off, none⟩) nV cap, .int .i64 (k : Int)] W fun e w' => PEnd q (L ++ [nmT [102, 97, 108, 115, 101]]) ((k : Int) + 1) W e w' := by
  have hq := hP.lt
  have hk1 : IntKind.i64.wrap ((k : Int) + 1) = (k : Int) + 1 := IntWalk.i64_in _ (by omega)
  have hk2 : (k : Int).toNat = k := by omega
  have hk3 : (0 : Int) ≤ (k : Int) := by omega
  have hk4 : (k : Int) < (nV : Int) := by omega
  have HP := Lib.hid hP
  clear hP
  subst h0
  subst h1
  have ix := fun w : World => (show (Instr.index 140 (.agg #[.string ⟨#[102, 97, 108, 115, 101]⟩, .string ⟨#[116, 114, 117, 101]⟩]) (.int .i64 0)).run Tryz.prog w = .ok (.string ⟨#[102, 97, 108, 115, 101]⟩) w by kernel_rfl)
  have hb1 : Below W.heap.size W ((W.alloc (.cells #[.int .u8 1, .string nx, .string tx, .int .i64 0, .int .i64 mn] 38)).alloc (.cells #[.string ⟨#[102, 97, 108, 115, 101]⟩] 9)) := ((Below.refl _ _).alloc (Nat.le_refl _) _).alloc (by simp) _
  have HP1 := Lib.hid (HP.out.below hb1)
  have HK1 : Hid (RK q W _) := Lib.hid (rk_below hb1 (Nat.le_of_lt hq))
  have hne : W.heap.size + 1 ≠ q := by omega
  have hl1 : ((W.alloc (.cells #[.int .u8 1, .string nx, .string tx, .int .i64 0, .int .i64 mn] 38)).alloc (.cells #[.string ⟨#[102, 97, 108, 115, 101]⟩] 9)).cell? ⟨W.heap.size + 1, 0, none⟩ = some (.string ⟨#[102, 97, 108, 115, 101]⟩) := Lib.cell_of_heap (heap_new _ _ _ (by simp)) 0
  clear hb1
  go_enter Tryz.func50, Tryz.ntmps50
  go_wp2_with fail
  refine (put_add q pv L 1 1 rfl ⟨#[102, 97, 108, 115, 101]⟩ _ 1 _ HP1.out hl1 hne (by omega)).mono ?_; rintro e wx ⟨rfl, hx1, hx2⟩
  have HFIN : Hid ((∃ v', PutS q v' (L ++ [nmT [102, 97, 108, 115, 101]]) wx) ∧ RK q W wx) := Lib.hid ⟨hx1, HK1.out.trans hx2⟩
  clear hx1 hx2
  go_wp2_with fail
  go_ret
  exact ⟨rfl, HFIN.out⟩
set_option maxRecDepth 100000 in
set_option maxHeartbeats 1000000 in
theorem up_text (q b off nV cap k : Nat) (pv : Value) (L : List Tok) (W : World) (kk : Nat) (nx tx : ByteArray) (nu mn : Int) (hP : PutS q pv L W)
    (hk : k < nV) (hl : nV ≤ 2048) (hL : L.length + 8 ≤ 100000)
    (c0 : W.cell? ⟨b, off + k * 5, none⟩ = some (.int .u8 (kk : Int))) (c1 : W.cell? ⟨b, off + k * 5 + 1, none⟩ = some (.string nx)) (c2 : W.cell? ⟨b, off + k * 5 + 2, none⟩ = some (.string tx)) (c3 : W.cell? ⟨b, off + k * 5 + 3, none⟩ = some (.int .i64 nu)) (c4 : W.cell? ⟨b, off + k * 5 + 4, none⟩ = some (.int .i64 mn))
    (h0 : kk = 3) :
    Calls Tryz.prog 50 #[.pointer (some ⟨q, 0, none⟩), .slice (some ⟨b, off, none⟩) nV cap, .int .i64 (k : Int)] W fun e w' => PEnd q (L ++ [⟨3, tx.data.toList, 0⟩]) ((k : Int) + 1) W e w' := by
  have hq := hP.lt
  have hk1 : IntKind.i64.wrap ((k : Int) + 1) = (k : Int) + 1 := IntWalk.i64_in _ (by omega)
  have hk2 : (k : Int).toNat = k := by omega
  have hk3 : (0 : Int) ≤ (k : Int) := by omega
  have hk4 : (k : Int) < (nV : Int) := by omega
  have HP := Lib.hid hP
  clear hP
  subst h0
  have hb1 : Below W.heap.size W ((W.alloc (.cells #[.int .u8 3, .string nx, .string tx, .int .i64 nu, .int .i64 mn] 38)).alloc (.cells #[.string tx] 9)) := ((Below.refl _ _).alloc (Nat.le_refl _) _).alloc (by simp) _
  have HP1 := Lib.hid (HP.out.below hb1)
  have HK1 : Hid (RK q W _) := Lib.hid (rk_below hb1 (Nat.le_of_lt hq))
  have hne : W.heap.size + 1 ≠ q := by omega
  have hl1 : ((W.alloc (.cells #[.int .u8 3, .string nx, .string tx, .int .i64 nu, .int .i64 mn] 38)).alloc (.cells #[.string tx] 9)).cell? ⟨W.heap.size + 1, 0, none⟩ = some (.string tx) := Lib.cell_of_heap (heap_new _ _ _ (by simp)) 0
  clear hb1
  go_enter Tryz.func50, Tryz.ntmps50
  go_wp2_with fail
  refine (put_add q pv L 3 3 rfl tx _ 1 _ HP1.out hl1 hne (by omega)).mono ?_; rintro e wx ⟨rfl, hx1, hx2⟩
  have HFIN : Hid ((∃ v', PutS q v' (L ++ [⟨3, tx.data.toList, 0⟩]) wx) ∧ RK q W wx) := Lib.hid ⟨hx1, HK1.out.trans hx2⟩
  clear hx1 hx2
  go_wp2_with fail
  go_ret
  exact ⟨rfl, HFIN.out⟩
set_option maxRecDepth 100000 in
set_option maxHeartbeats 1000000 in
theorem up_enum (q b off nV cap k : Nat) (pv : Value) (L : List Tok) (W : World) (kk : Nat) (nx tx : ByteArray) (nu mn : Int) (hP : PutS q pv L W)
    (hk : k < nV) (hl : nV ≤ 2048) (hL : L.length + 8 ≤ 100000)
    (c0 : W.cell? ⟨b, off + k * 5, none⟩ = some (.int .u8 (kk : Int))) (c1 : W.cell? ⟨b, off + k * 5 + 1, none⟩ = some (.string nx)) (c2 : W.cell? ⟨b, off + k * 5 + 2, none⟩ = some (.string tx)) (c3 : W.cell? ⟨b, off + k * 5 + 3, none⟩ = some (.int .i64 nu)) (c4 : W.cell? ⟨b, off + k * 5 + 4, none⟩ = some (.int .i64 mn))
    (h0 : kk = 4) :
    Calls Tryz.prog 50 #[.pointer (some ⟨q, 0, none⟩), .slice (some ⟨b, off, none⟩) nV cap, .int .i64 (k : Int)] W fun e w' => PEnd q (L ++ [⟨1, tx.data.toList, 0⟩]) ((k : Int) + 1) W e w' := by
  have hq := hP.lt
  have hk1 : IntKind.i64.wrap ((k : Int) + 1) = (k : Int) + 1 := IntWalk.i64_in _ (by omega)
  have hk2 : (k : Int).toNat = k := by omega
  have hk3 : (0 : Int) ≤ (k : Int) := by omega
  have hk4 : (k : Int) < (nV : Int) := by omega
  have HP := Lib.hid hP
  clear hP
  subst h0
  have hb1 : Below W.heap.size W ((W.alloc (.cells #[.int .u8 4, .string nx, .string tx, .int .i64 nu, .int .i64 mn] 38)).alloc (.cells #[.string tx] 9)) := ((Below.refl _ _).alloc (Nat.le_refl _) _).alloc (by simp) _
  have HP1 := Lib.hid (HP.out.below hb1)
  have HK1 : Hid (RK q W _) := Lib.hid (rk_below hb1 (Nat.le_of_lt hq))
  have hne : W.heap.size + 1 ≠ q := by omega
  have hl1 : ((W.alloc (.cells #[.int .u8 4, .string nx, .string tx, .int .i64 nu, .int .i64 mn] 38)).alloc (.cells #[.string tx] 9)).cell? ⟨W.heap.size + 1, 0, none⟩ = some (.string tx) := Lib.cell_of_heap (heap_new _ _ _ (by simp)) 0
  clear hb1
  go_enter Tryz.func50, Tryz.ntmps50
  go_wp2_with fail
  refine (put_add q pv L 1 1 rfl tx _ 1 _ HP1.out hl1 hne (by omega)).mono ?_; rintro e wx ⟨rfl, hx1, hx2⟩
  have HFIN : Hid ((∃ v', PutS q v' (L ++ [⟨1, tx.data.toList, 0⟩]) wx) ∧ RK q W wx) := Lib.hid ⟨hx1, HK1.out.trans hx2⟩
  clear hx1 hx2
  go_wp2_with fail
  go_ret
  exact ⟨rfl, HFIN.out⟩
set_option maxRecDepth 100000 in
set_option maxHeartbeats 1000000 in
theorem up_int (q b off nV cap k : Nat) (pv : Value) (L : List Tok) (W : World) (kk : Nat) (nx tx : ByteArray) (nu mn : Int) (hP : PutS q pv L W)
    (hk : k < nV) (hl : nV ≤ 2048) (hL : L.length + 8 ≤ 100000)
    (c0 : W.cell? ⟨b, off + k * 5, none⟩ = some (.int .u8 (kk : Int))) (c1 : W.cell? ⟨b, off + k * 5 + 1, none⟩ = some (.string nx)) (c2 : W.cell? ⟨b, off + k * 5 + 2, none⟩ = some (.string tx)) (c3 : W.cell? ⟨b, off + k * 5 + 3, none⟩ = some (.int .i64 nu)) (c4 : W.cell? ⟨b, off + k * 5 + 4, none⟩ = some (.int .i64 mn))
    (h0 : kk = 2) (HQ : Hid (∀ W' : World, Below W.heap.size W W' → Calls Tryz.prog 76 #[.int .i64 nu] W' fun e w' => e = .returned (.string ⟨(Lib.itoa nu).toArray⟩) ∧ Below W'.heap.size W' w')) :
    Calls Tryz.prog 50 #[.pointer (some ⟨q, 0, none⟩), .slice (some ⟨b, off, none⟩) nV cap, .int .i64 (k : Int)] W fun e w' => PEnd q (L ++ [⟨2, Lib.itoa nu, 0⟩]) ((k : Int) + 1) W e w' := by
  have hq := hP.lt
  have hk1 : IntKind.i64.wrap ((k : Int) + 1) = (k : Int) + 1 := IntWalk.i64_in _ (by omega)
  have hk2 : (k : Int).toNat = k := by omega
  have hk3 : (0 : Int) ≤ (k : Int) := by omega
  have hk4 : (k : Int) < (nV : Int) := by omega
  have HP := Lib.hid hP
  clear hP
  subst h0
  obtain ⟨ib, hib⟩ : ∃ ib : ByteArray, (⟨(Lib.itoa nu).toArray⟩ : ByteArray) = ib := ⟨_, rfl⟩
  have hid1 : ib.data.toList = Lib.itoa nu := by rw [← hib]
  rw [hib] at HQ
  rw [← hid1]
  clear hib hid1
  have hb1 : Below W.heap.size W (W.alloc (.cells #[.int .u8 2, .string nx, .string tx, .int .i64 nu, .int .i64 mn] 38)) := ((Below.refl _ _).alloc (Nat.le_refl _) _)
  have HB1 := Lib.hid hb1
  clear hb1
  go_enter Tryz.func50, Tryz.ntmps50
  go_wp2_with fail
  refine (HQ.out _ HB1.out).mono ?_; rintro e w1 ⟨rfl, hb⟩
  have hb2 : Below W.heap.size W (w1.alloc (.cells #[.string ib] 9)) := (HB1.out.trans (hb.mono HB1.out.size)).alloc (Nat.le_trans HB1.out.size hb.size) _
  have HP1 := Lib.hid (HP.out.below hb2)
  have HK1 : Hid (RK q W _) := Lib.hid (rk_below hb2 (Nat.le_of_lt hq))
  have hne : w1.heap.size ≠ q := by have := HB1.out.size; have := hb.size; omega
  clear hb hb2
  go_wp2_with fail
  refine (put_add q pv L 2 2 rfl ib _ 1 _ HP1.out (new_cell0 _ _ _) hne (by omega)).mono ?_; rintro e wx ⟨rfl, hx1, hx2⟩
  have HFIN : Hid ((∃ v', PutS q v' (L ++ [⟨2, ib.data.toList, 0⟩]) wx) ∧ RK q W wx) := Lib.hid ⟨hx1, HK1.out.trans hx2⟩
  clear hx1 hx2
  go_wp2_with fail
  go_ret
  exact ⟨rfl, HFIN.out⟩
set_option maxRecDepth 100000 in
set_option maxHeartbeats 1000000 in
theorem up_var (q b off nV cap k : Nat) (pv : Value) (L : List Tok) (W : World) (kk : Nat) (nx tx : ByteArray) (nu mn : Int) (hP : PutS q pv L W)
    (hk : k < nV) (hl : nV ≤ 2048) (hL : L.length + 8 ≤ 100000)
    (c0 : W.cell? ⟨b, off + k * 5, none⟩ = some (.int .u8 (kk : Int))) (c1 : W.cell? ⟨b, off + k * 5 + 1, none⟩ = some (.string nx)) (c2 : W.cell? ⟨b, off + k * 5 + 2, none⟩ = some (.string tx)) (c3 : W.cell? ⟨b, off + k * 5 + 3, none⟩ = some (.int .i64 nu)) (c4 : W.cell? ⟨b, off + k * 5 + 4, none⟩ = some (.int .i64 mn))
    (h0 : kk = 5) :
    Calls Tryz.prog 50 #[.pointer (some ⟨q, 0, none⟩), .slice (some ⟨b, off, none⟩) nV cap, .int .i64 (k : Int)] W fun e w' => PEnd q (L ++ [mkT [36], nmT tx.data.toList]) ((k : Int) + 1) W e w' := by
  have hq := hP.lt
  have hk1 : IntKind.i64.wrap ((k : Int) + 1) = (k : Int) + 1 := IntWalk.i64_in _ (by omega)
  have hk2 : (k : Int).toNat = k := by omega
  have hk3 : (0 : Int) ≤ (k : Int) := by omega
  have hk4 : (k : Int) < (nV : Int) := by omega
  have HP := Lib.hid hP
  clear hP
  subst h0
  have hb1 : Below W.heap.size W ((W.alloc (.cells #[.int .u8 5, .string nx, .string tx, .int .i64 nu, .int .i64 mn] 38)).alloc (.cells #[.string ⟨#[36]⟩] 9)) := ((Below.refl _ _).alloc (Nat.le_refl _) _).alloc (by simp) _
  have HP1 := Lib.hid (HP.out.below hb1)
  have HK1 : Hid (RK q W _) := Lib.hid (rk_below hb1 (Nat.le_of_lt hq))
  have hne : W.heap.size + 1 ≠ q := by omega
  have hl1 : ((W.alloc (.cells #[.int .u8 5, .string nx, .string tx, .int .i64 nu, .int .i64 mn] 38)).alloc (.cells #[.string ⟨#[36]⟩] 9)).cell? ⟨W.heap.size + 1, 0, none⟩ = some (.string ⟨#[36]⟩) := Lib.cell_of_heap (heap_new _ _ _ (by simp)) 0
  have HC1 : Hid (((W.alloc (.cells #[.int .u8 5, .string nx, .string tx, .int .i64 nu, .int .i64 mn] 38)).alloc (.cells #[.string ⟨#[36]⟩] 9)).heap[W.heap.size]? = some (.cells #[.int .u8 5, .string nx, .string tx, .int .i64 nu, .int .i64 mn] 38 (0, 0))) := Lib.hid (heap_old (heap_new _ _ _ rfl))
  clear hb1
  go_enter Tryz.func50, Tryz.ntmps50
  go_wp2_with fail
  refine (put_add q pv L 4 4 rfl ⟨#[36]⟩ _ 1 _ HP1.out hl1 hne (by omega)).mono ?_; rintro e w2 ⟨rfl, ⟨pv2, hx1⟩, hx2⟩
  have HC2 := Lib.hid (hx2.2 _ _ HC1.out (by omega))
  have e2 : w2.cell? ⟨W.heap.size, 2, none⟩ = some (.string tx) := by rw [Lib.cell_of_heap HC2.out]; rfl
  have hb2 : Below w2.heap.size w2 (w2.alloc (.cells #[.string tx] 9)) := ((Below.refl _ _).alloc (Nat.le_refl _) _)
  have HP2 := Lib.hid (hx1.below hb2)
  have hq2 := hx1.lt
  have HK2 : Hid (RK q W (w2.alloc (.cells #[.string tx] 9))) := Lib.hid ((HK1.out.trans hx2).trans (rk_below hb2 (Nat.le_of_lt hq2)))
  have hne2 : w2.heap.size ≠ q := by omega
  clear hx1 hx2 hb2
  go_wp2_with fail
  refine (put_add q pv2 _ 1 1 rfl tx _ 1 _ HP2.out (new_cell0 _ _ _) hne2 (by simp; omega)).mono ?_; rintro e wx ⟨rfl, hx1, hx2⟩
  have HFIN : Hid ((∃ v', PutS q v' (L ++ [mkT [36], nmT tx.data.toList]) wx) ∧ RK q W wx) := Lib.hid ⟨by simpa [mkT, nmT] using hx1, HK2.out.trans hx2⟩
  clear hx1 hx2
  go_wp2_with fail
  go_ret
  exact ⟨rfl, HFIN.out⟩
end Go.Proofs.YtfagaflgdlomiaaGreatDoor
namespace Go.Proofs.YtfagaflgdlomiaaGreatDoor
open Go.RowKit
set_option maxRecDepth 100000 in
set_option maxHeartbeats 4000000 in
theorem up_list (q b off cap k : Nat) (V : List Cel) (pv : Value) (L : List Tok) (W : World) (nx tx : ByteArray) (nu : Int) (m : Nat) (hP : PutS q pv L W)
    (hk : k < V.length) (hl : V.length ≤ 2048) (hrow : CelRow b off V W) (hbq : b < q)
    (c0 : W.cell? ⟨b, off + k * 5, none⟩ = some (.int .u8 6)) (c1 : W.cell? ⟨b, off + k * 5 + 1, none⟩ = some (.string nx)) (c2 : W.cell? ⟨b, off + k * 5 + 2, none⟩ = some (.string tx)) (c3 : W.cell? ⟨b, off + k * 5 + 3, none⟩ = some (.int .i64 nu)) (c4 : W.cell? ⟨b, off + k * 5 + 4, none⟩ = some (.int .i64 (m : Int)))
    (hmx : (m : Int) ≤ 9223372036854775807) (d1 n : Nat) (hkids : KS V d1 k true (some n) m [] 0) (hroom : L.length + 4 * (n + 2) ≤ 90000)
    (HTL : Hid (∀ (p n1 : Nat), valN d1 (V.drop p) = some n1 → (tokK d1 (V.drop p)).length + 2 ≤ 4 * n1))
    (HIH : Hid (∀ (W' : World) (pv' : Value) (L' : List Tok) (p n1 : Nat), RK q W W' → p < V.length → valN d1 (V.drop p) = some n1 → L'.length + 4 * (n1 + 1) ≤ 90000 → PutS q pv' L' W' → CelRow b off V W' → Calls Tryz.prog 50 #[.pointer (some ⟨q, 0, none⟩), .slice (some ⟨b, off, none⟩) V.length cap, .int .i64 (p : Int)] W' fun e w' => PEnd q (L' ++ tokK d1 (V.drop p)) ((p + n1 : Nat) : Int) W' e w')) :
    Calls Tryz.prog 50 #[.pointer (some ⟨q, 0, none⟩), .slice (some ⟨b, off, none⟩) V.length cap, .int .i64 (k : Int)] W fun e w' => PEnd q (L ++ (mkT [91] :: (kidsK (valN d1) (tokK d1) false m (V.drop (k + 1)) ++ [mkT [93]]))) ((k + 1 + n : Nat) : Int) W e w' := by
  have hq := hP.lt
  have hk1 : IntKind.i64.wrap ((k : Int) + 1) = (k : Int) + 1 := IntWalk.i64_in _ (by omega)
  have hk2 : (k : Int).toNat = k := by omega
  have hk3 : (0 : Int) ≤ (k : Int) := by omega
  have hk4 : (k : Int) < (V.length : Int) := by omega
  have HK0 := Lib.hid hkids
  have HROOM := Lib.hid hroom
  have HROW := Lib.hid hrow
  have hLL : L.length ≤ 100000 := by omega
  obtain ⟨R, hR⟩ : ∃ R, L ++ (mkT [91] :: (kidsK (valN d1) (tokK d1) false m (V.drop (k + 1)) ++ [mkT [93]])) = R := ⟨_, rfl⟩
  have HR0 : Hid ((L ++ [mkT [91]]) ++ (kidsK (valN d1) (tokK d1) false m (V.drop (k + 1)) ++ [mkT [93]]) = R) := Lib.hid (by rw [← hR]; simp)
  rw [hR]
  obtain ⟨K, hK⟩ : ∃ K, k + 1 + n = K := ⟨_, rfl⟩
  have HK := Lib.hid hK
  rw [hK]
  obtain ⟨W3, hW3⟩ : ∃ W3, (((W.alloc (.cells #[.int .u8 6, .string nx, .string tx, .int .i64 nu, .int .i64 (m : Int)] 38 (0, 0))).alloc (.cells #[.string ⟨#[91]⟩, .string ⟨#[93]⟩] 140 (0, 0))).alloc (.cells #[.string ⟨#[91]⟩] 9 (0, 0))) = W3 := ⟨_, rfl⟩
  have hb3 : Below W.heap.size W W3 := by
    rw [← hW3]; exact (((Below.refl _ _).alloc (Nat.le_refl _) _).alloc (by simp) _).alloc (by simp; omega) _
  have HP3 := Lib.hid (hP.below hb3)
  have HK3 : Hid (RK q W W3) := Lib.hid (rk_below hb3 (Nat.le_of_lt hq))
  have HCB : Hid (W3.heap[W.heap.size]? = some (.cells #[.int .u8 6, .string nx, .string tx, .int .i64 nu, .int .i64 (m : Int)] 38 (0, 0))) := Lib.hid (by rw [← hW3]; exact heap_old (heap_old (heap_new _ _ _ rfl)))
  have HEB : Hid (W3.heap[W.heap.size + 1]? = some (.cells #[.string ⟨#[91]⟩, .string ⟨#[93]⟩] 140 (0, 0))) := Lib.hid (by rw [← hW3]; exact heap_old (heap_new _ _ _ (by simp)))
  have hl3 : W3.cell? ⟨W.heap.size + 1 + 1, 0, none⟩ = some (.string ⟨#[91]⟩) := by rw [← hW3]; exact Lib.cell_of_heap (heap_new _ _ _ (by simp)) 0
  have hne : W.heap.size + 1 + 1 ≠ q := by omega
  have HW3 := Lib.hid hW3
  clear hR hK hkids hroom hP hrow hb3 hW3
  go_enter Tryz.func50, Tryz.ntmps50
  go_wp2_with fail
  rw [HW3.out]
  refine (put_add q pv L 4 4 rfl ⟨#[91]⟩ _ 1 W3 HP3.out hl3 hne hLL).mono ?_; rintro e w1 ⟨rfl, ⟨pv1, hx1⟩, hx2⟩
  have HP4 : Hid (PutS q pv1 (L ++ [mkT [91]]) w1) := Lib.hid hx1
  have HK4 := Lib.hid (HK3.out.trans hx2)
  have HC4 := Lib.hid (hx2.2 _ _ HCB.out (by omega))
  have HE4 := Lib.hid (hx2.2 _ _ HEB.out (by omega))
  have m4 : w1.cell? ⟨W.heap.size, 4, none⟩ = some (.int .i64 (m : Int)) := by rw [Lib.cell_of_heap HC4.out]; rfl
  clear hx1 hx2 hl3 hne HW3 HP3 HK3 HCB HEB c0 c1 c2 c3 c4
  go_wp2_with fail
  clear m4
  have hcq : W.heap.size ≠ q := by omega
  have heq' : W.heap.size + 1 ≠ q := by omega
  generalize W.heap.size + 1 = eb at *
  generalize W.heap.size = cb at *
  go_loopg [2, 29] m (fun gk at_ ct wr => ∃ (j p u : Nat) (nm : List (List UInt8)) (L1 : List Tok) (pv1 : Value), at_ = .int .i64 (p : Int) ∧ ct = .int .i64 j ∧ (gk + j ≤ m ∧ m ≤ gk + j) ∧ p ≤ V.length ∧ Hid (p = k + 1 + u) ∧ j ≤ u ∧ Hid (L1.length ≤ L.length + 1 + 4 * u ∧ u ≤ n) ∧ Hid (KS V d1 k true (some n) gk nm u) ∧ Hid (L1 ++ (kidsK (valN d1) (tokK d1) false gk (V.drop p) ++ [mkT [93]]) = R) ∧ Hid (PutS q pv1 L1 wr) ∧ Hid (RK q W wr) ∧ Hid (wr.heap[cb]? = some (.cells #[.int .u8 6, .string nx, .string tx, .int .i64 nu, .int .i64 (m : Int)] 38 (0, 0))) ∧ Hid (wr.heap[eb]? = some (.cells #[.string ⟨#[91]⟩, .string ⟨#[93]⟩] 140 (0, 0))))
  case atStart => exact ⟨0, k + 1, 0, [], _, pv1, by go_num, rfl, ⟨by omega, by omega⟩, by omega, Lib.hid rfl, Nat.le_refl _, Lib.hid ⟨by simp, Nat.zero_le _⟩, HK0, HR0, HP4, HK4, HC4, HE4⟩
  case round =>
    clear HP4 HK4 HC4 HE4 HR0 HK0 hk1 hk2 hk3 hk4
    rename World => wr
    obtain ⟨j, p, u, nm, L1, pv1, rfl, rfl, ⟨hj, hj'⟩, hp, HPU, hju, HLEN, HKS, HRR, HPr, HKr, HCr, HEr⟩ := hrel
    have e0 : wr.cell? ⟨cb, 0, none⟩ = some (.int .u8 6) := by rw [Lib.cell_of_heap HCr.out]; rfl
    have hL1 : L1.length ≤ 90000 := by have z1 := HROOM.out; have z2 := HLEN.out.1; have z3 := HLEN.out.2; omega
    have hqr := HPr.out.lt
    by_cases hg0 : gk = 0
    · subst hg0
      have hdone := HKS.out.done
      have hjn : ¬ j < m := by omega
      have hu : u = n := (Option.some.inj hdone).symm
      have HPK : Hid (p = K) := Lib.hid (by rw [HPU.out, hu]; exact HK.out)
      have HF : Hid (L1 ++ [mkT [93]] = R) := Lib.hid (by have := HRR.out; rw [show kidsK (valN d1) (tokK d1) false 0 (V.drop p) = [] from rfl] at this; exact this)
      have z1 : wr.cell? ⟨eb, 1, none⟩ = some (.string ⟨#[93]⟩) := by rw [Lib.cell_of_heap HEr.out]; rfl
      have hb5 : Below wr.heap.size wr (wr.alloc (.cells #[.string ⟨#[93]⟩] 9 (0, 0))) := (Below.refl _ _).alloc (Nat.le_refl _) _
      have HP5 := Lib.hid (HPr.out.below hb5)
      have HK5 : Hid (RK q W _) := Lib.hid (HKr.out.trans (rk_below hb5 (Nat.le_of_lt hqr)))
      have hne5 : wr.heap.size ≠ q := by omega
      clear hdone hu hj hj' hju hb5
      go_wp2_with fail
      refine (put_add q pv1 L1 4 4 rfl ⟨#[93]⟩ _ 1 _ HP5.out (new_cell0 _ _ _) hne5 (by omega)).mono ?_; rintro e wx ⟨rfl, hx1, hx2⟩
      have HFIN : Hid (PEnd q R (K : Int) W (.returned (.int .i64 (p : Int))) wx) := Lib.hid (by
        rw [← HF.out, HPK.out]
        exact ⟨rfl, hx1, HK5.out.trans hx2⟩)
      clear hx1 hx2
      go_wp2_with fail
      go_ret
      exact HFIN.out
    · obtain ⟨g1, rfl⟩ : ∃ g1, gk = g1 + 1 := ⟨gk - 1, by omega⟩
      have hjm : j < m := by omega
      clear hg0
      obtain ⟨hpl, n1, hv1, hks⟩ := HKS.out.step HPU.out
      have hn1 := (valN_le _ _ _ hv1).1
      have hn2 := (valN_le _ _ _ hv1).2
      have hun1 : u + n1 ≤ n := by
        have := hks
        unfold KS at this
        obtain ⟨x, _, hx⟩ := Option.map_eq_some_iff.1 this
        omega
      rw [List.length_drop] at hn2
      have HT1 := Lib.hid (HTL.out p n1 hv1)
      have HUN := Lib.hid hun1
      clear hun1
      have hrr := HRR.out
      rw [kidsK, hv1, Option.getD_some, List.drop_drop] at hrr
      have HI : Hid (∀ (W' : World) (pv' : Value) (L' : List Tok), RK q W W' → L'.length + 4 * (n1 + 1) ≤ 90000 → PutS q pv' L' W' → CelRow b off V W' → Calls Tryz.prog 50 #[.pointer (some ⟨q, 0, none⟩), .slice (some ⟨b, off, none⟩) V.length cap, .int .i64 (p : Int)] W' fun e w' => PEnd q (L' ++ tokK d1 (V.drop p)) ((p + n1 : Nat) : Int) W' e w') := Lib.hid fun W' pv' L' h0 h1 h2 h3 => HIH.out W' pv' L' p n1 h0 hpl hv1 h1 h2 h3
      obtain ⟨p2, hp2⟩ : ∃ p2, p + n1 = p2 := ⟨_, rfl⟩
      have HP2 : Hid (p2 = k + 1 + (u + n1)) := Lib.hid (by rw [← hp2, HPU.out]; omega)
      have hp3 : p2 ≤ V.length := by omega
      have HKS2 := Lib.hid hks
      rw [hp2] at HI hrr
      have p5 : (p : Int).toNat = p := by omega
      have p6 : (0 : Int) ≤ (p : Int) := by omega
      have p7 : (p : Int) < (V.length : Int) := by omega
      have hbw : b ≠ q := by omega
      unfold preK at hrr
      rw [if_neg (by simp)] at hrr
      clear hv1 hks
      generalize tokK d1 (V.drop p) = tj at *
      have HRX : Hid ((L1 ++ tj) ++ (kidsK (valN d1) (tokK d1) false g1 (V.drop p2) ++ [mkT [93]]) = R) := Lib.hid (by rw [← hrr]; simp)
      have HJJ := Lib.hid (And.intro hj (And.intro hj' hju))
      clear hrr hj hj' hju
      have HP7 := HPr
      have HK7 : Hid (RK q wr wr) := Lib.hid ⟨Below.refl _ _, fun k o h _ => h⟩
      go_wp2_with fail
      refine (HI.out wr pv1 (L1) (HKr.out.trans HK7.out) (by have z1 := HROOM.out; have z2 := HLEN.out.1; have z3 := HLEN.out.2; have z4 := HT1.out; have z5 := HUN.out; (try simp only [List.length_append, List.length_cons, List.length_nil]); omega) HP7.out ((HROW.out.rk HKr.out hbw).rk HK7.out hbw)).mono ?_; rintro e w8 ⟨rfl, ⟨pv8, hx1⟩, hx2⟩
      have HP8 := Lib.hid hx1
      have hk8 := HK7.out.trans hx2
      have HK8 := Lib.hid (HKr.out.trans hk8)
      have HC8 := Lib.hid (hk8.2 _ _ HCr.out hcq)
      have HE8 := Lib.hid (hk8.2 _ _ HEr.out heq')
      have hz8 : IntKind.i64.wrap ((j : Int) + 1) = ((j + 1 : Nat) : Int) := by rw [IntWalk.i64_in _ (by omega)]; omega
      clear hx1 hx2 hk8
      go_wp2_with fail
      obtain ⟨hj, hj', hju⟩ := HJJ.out
      go_roundg g1
      case measure => omega
      case rel => exact ⟨j + 1, p2, u + n1, _, _, pv8, rfl, by first | rfl | go_num, ⟨by omega, by omega⟩, hp3, HP2, by omega, Lib.hid ⟨by have z1 := HROOM.out; have z2 := HLEN.out.1; have z3 := HLEN.out.2; have z4 := HT1.out; have z5 := HUN.out; (try simp only [List.length_append, List.length_cons, List.length_nil]); omega, HUN.out⟩, HKS2, HRX, HP8, HK8, HC8, HE8⟩
set_option maxRecDepth 100000 in
set_option maxHeartbeats 4000000 in
theorem up_obj (q b off cap k : Nat) (V : List Cel) (pv : Value) (L : List Tok) (W : World) (nx tx : ByteArray) (nu : Int) (m : Nat) (hP : PutS q pv L W)
    (hk : k < V.length) (hl : V.length ≤ 2048) (hrow : CelRow b off V W) (hbq : b < q)
    (c0 : W.cell? ⟨b, off + k * 5, none⟩ = some (.int .u8 7)) (c1 : W.cell? ⟨b, off + k * 5 + 1, none⟩ = some (.string nx)) (c2 : W.cell? ⟨b, off + k * 5 + 2, none⟩ = some (.string tx)) (c3 : W.cell? ⟨b, off + k * 5 + 3, none⟩ = some (.int .i64 nu)) (c4 : W.cell? ⟨b, off + k * 5 + 4, none⟩ = some (.int .i64 (m : Int)))
    (hmx : (m : Int) ≤ 9223372036854775807) (d1 n : Nat) (hkids : KS V d1 k false (some n) m [] 0) (hroom : L.length + 4 * (n + 2) ≤ 90000)
    (HTL : Hid (∀ (p n1 : Nat), valN d1 (V.drop p) = some n1 → (tokK d1 (V.drop p)).length + 2 ≤ 4 * n1))
    (HIH : Hid (∀ (W' : World) (pv' : Value) (L' : List Tok) (p n1 : Nat), RK q W W' → p < V.length → valN d1 (V.drop p) = some n1 → L'.length + 4 * (n1 + 1) ≤ 90000 → PutS q pv' L' W' → CelRow b off V W' → Calls Tryz.prog 50 #[.pointer (some ⟨q, 0, none⟩), .slice (some ⟨b, off, none⟩) V.length cap, .int .i64 (p : Int)] W' fun e w' => PEnd q (L' ++ tokK d1 (V.drop p)) ((p + n1 : Nat) : Int) W' e w')) :
    Calls Tryz.prog 50 #[.pointer (some ⟨q, 0, none⟩), .slice (some ⟨b, off, none⟩) V.length cap, .int .i64 (k : Int)] W fun e w' => PEnd q (L ++ (mkT [123] :: (kidsK (valN d1) (tokK d1) true m (V.drop (k + 1)) ++ [mkT [125]]))) ((k + 1 + n : Nat) : Int) W e w' := by
  have hq := hP.lt
  have hk1 : IntKind.i64.wrap ((k : Int) + 1) = (k : Int) + 1 := IntWalk.i64_in _ (by omega)
  have hk2 : (k : Int).toNat = k := by omega
  have hk3 : (0 : Int) ≤ (k : Int) := by omega
  have hk4 : (k : Int) < (V.length : Int) := by omega
  have HK0 := Lib.hid hkids
  have HROOM := Lib.hid hroom
  have HROW := Lib.hid hrow
  have hLL : L.length ≤ 100000 := by omega
  obtain ⟨R, hR⟩ : ∃ R, L ++ (mkT [123] :: (kidsK (valN d1) (tokK d1) true m (V.drop (k + 1)) ++ [mkT [125]])) = R := ⟨_, rfl⟩
  have HR0 : Hid ((L ++ [mkT [123]]) ++ (kidsK (valN d1) (tokK d1) true m (V.drop (k + 1)) ++ [mkT [125]]) = R) := Lib.hid (by rw [← hR]; simp)
  rw [hR]
  obtain ⟨K, hK⟩ : ∃ K, k + 1 + n = K := ⟨_, rfl⟩
  have HK := Lib.hid hK
  rw [hK]
  obtain ⟨W3, hW3⟩ : ∃ W3, (((W.alloc (.cells #[.int .u8 7, .string nx, .string tx, .int .i64 nu, .int .i64 (m : Int)] 38 (0, 0))).alloc (.cells #[.string ⟨#[123]⟩, .string ⟨#[125]⟩] 140 (0, 0))).alloc (.cells #[.string ⟨#[123]⟩] 9 (0, 0))) = W3 := ⟨_, rfl⟩
  have hb3 : Below W.heap.size W W3 := by
    rw [← hW3]; exact (((Below.refl _ _).alloc (Nat.le_refl _) _).alloc (by simp) _).alloc (by simp; omega) _
  have HP3 := Lib.hid (hP.below hb3)
  have HK3 : Hid (RK q W W3) := Lib.hid (rk_below hb3 (Nat.le_of_lt hq))
  have HCB : Hid (W3.heap[W.heap.size]? = some (.cells #[.int .u8 7, .string nx, .string tx, .int .i64 nu, .int .i64 (m : Int)] 38 (0, 0))) := Lib.hid (by rw [← hW3]; exact heap_old (heap_old (heap_new _ _ _ rfl)))
  have HEB : Hid (W3.heap[W.heap.size + 1]? = some (.cells #[.string ⟨#[123]⟩, .string ⟨#[125]⟩] 140 (0, 0))) := Lib.hid (by rw [← hW3]; exact heap_old (heap_new _ _ _ (by simp)))
  have hl3 : W3.cell? ⟨W.heap.size + 1 + 1, 0, none⟩ = some (.string ⟨#[123]⟩) := by rw [← hW3]; exact Lib.cell_of_heap (heap_new _ _ _ (by simp)) 0
  have hne : W.heap.size + 1 + 1 ≠ q := by omega
  have HW3 := Lib.hid hW3
  clear hR hK hkids hroom hP hrow hb3 hW3
  go_enter Tryz.func50, Tryz.ntmps50
  go_wp2_with fail
  rw [HW3.out]
  refine (put_add q pv L 4 4 rfl ⟨#[123]⟩ _ 1 W3 HP3.out hl3 hne hLL).mono ?_; rintro e w1 ⟨rfl, ⟨pv1, hx1⟩, hx2⟩
  have HP4 : Hid (PutS q pv1 (L ++ [mkT [123]]) w1) := Lib.hid hx1
  have HK4 := Lib.hid (HK3.out.trans hx2)
  have HC4 := Lib.hid (hx2.2 _ _ HCB.out (by omega))
  have HE4 := Lib.hid (hx2.2 _ _ HEB.out (by omega))
  have m4 : w1.cell? ⟨W.heap.size, 4, none⟩ = some (.int .i64 (m : Int)) := by rw [Lib.cell_of_heap HC4.out]; rfl
  clear hx1 hx2 hl3 hne HW3 HP3 HK3 HCB HEB c0 c1 c2 c3 c4
  go_wp2_with fail
  clear m4
  have hcq : W.heap.size ≠ q := by omega
  have heq' : W.heap.size + 1 ≠ q := by omega
  generalize W.heap.size + 1 = eb at *
  generalize W.heap.size = cb at *
  go_loopg [2, 29] m (fun gk at_ ct wr => ∃ (j p u : Nat) (nm : List (List UInt8)) (L1 : List Tok) (pv1 : Value), at_ = .int .i64 (p : Int) ∧ ct = .int .i64 j ∧ (gk + j ≤ m ∧ m ≤ gk + j) ∧ p ≤ V.length ∧ Hid (p = k + 1 + u) ∧ j ≤ u ∧ Hid (L1.length ≤ L.length + 1 + 4 * u ∧ u ≤ n) ∧ Hid (KS V d1 k false (some n) gk nm u) ∧ Hid (L1 ++ (kidsK (valN d1) (tokK d1) true gk (V.drop p) ++ [mkT [125]]) = R) ∧ Hid (PutS q pv1 L1 wr) ∧ Hid (RK q W wr) ∧ Hid (wr.heap[cb]? = some (.cells #[.int .u8 7, .string nx, .string tx, .int .i64 nu, .int .i64 (m : Int)] 38 (0, 0))) ∧ Hid (wr.heap[eb]? = some (.cells #[.string ⟨#[123]⟩, .string ⟨#[125]⟩] 140 (0, 0))))
  case atStart => exact ⟨0, k + 1, 0, [], _, pv1, by go_num, rfl, ⟨by omega, by omega⟩, by omega, Lib.hid rfl, Nat.le_refl _, Lib.hid ⟨by simp, Nat.zero_le _⟩, HK0, HR0, HP4, HK4, HC4, HE4⟩
  case round =>
    clear HP4 HK4 HC4 HE4 HR0 HK0 hk1 hk2 hk3 hk4
    rename World => wr
    obtain ⟨j, p, u, nm, L1, pv1, rfl, rfl, ⟨hj, hj'⟩, hp, HPU, hju, HLEN, HKS, HRR, HPr, HKr, HCr, HEr⟩ := hrel
    have e0 : wr.cell? ⟨cb, 0, none⟩ = some (.int .u8 7) := by rw [Lib.cell_of_heap HCr.out]; rfl
    have hL1 : L1.length ≤ 90000 := by have z1 := HROOM.out; have z2 := HLEN.out.1; have z3 := HLEN.out.2; omega
    have hqr := HPr.out.lt
    by_cases hg0 : gk = 0
    · subst hg0
      have hdone := HKS.out.done
      have hjn : ¬ j < m := by omega
      have hu : u = n := (Option.some.inj hdone).symm
      have HPK : Hid (p = K) := Lib.hid (by rw [HPU.out, hu]; exact HK.out)
      have HF : Hid (L1 ++ [mkT [125]] = R) := Lib.hid (by have := HRR.out; rw [show kidsK (valN d1) (tokK d1) true 0 (V.drop p) = [] from rfl] at this; exact this)
      have z1 : wr.cell? ⟨eb, 1, none⟩ = some (.string ⟨#[125]⟩) := by rw [Lib.cell_of_heap HEr.out]; rfl
      have hb5 : Below wr.heap.size wr (wr.alloc (.cells #[.string ⟨#[125]⟩] 9 (0, 0))) := (Below.refl _ _).alloc (Nat.le_refl _) _
      have HP5 := Lib.hid (HPr.out.below hb5)
      have HK5 : Hid (RK q W _) := Lib.hid (HKr.out.trans (rk_below hb5 (Nat.le_of_lt hqr)))
      have hne5 : wr.heap.size ≠ q := by omega
      clear hdone hu hj hj' hju hb5
      go_wp2_with fail
      refine (put_add q pv1 L1 4 4 rfl ⟨#[125]⟩ _ 1 _ HP5.out (new_cell0 _ _ _) hne5 (by omega)).mono ?_; rintro e wx ⟨rfl, hx1, hx2⟩
      have HFIN : Hid (PEnd q R (K : Int) W (.returned (.int .i64 (p : Int))) wx) := Lib.hid (by
        rw [← HF.out, HPK.out]
        exact ⟨rfl, hx1, HK5.out.trans hx2⟩)
      clear hx1 hx2
      go_wp2_with fail
      go_ret
      exact HFIN.out
    · obtain ⟨g1, rfl⟩ : ∃ g1, gk = g1 + 1 := ⟨gk - 1, by omega⟩
      have hjm : j < m := by omega
      clear hg0
      obtain ⟨hpl, n1, hv1, hks⟩ := HKS.out.step HPU.out
      have hn1 := (valN_le _ _ _ hv1).1
      have hn2 := (valN_le _ _ _ hv1).2
      have hun1 : u + n1 ≤ n := by
        have := hks
        unfold KS at this
        obtain ⟨x, _, hx⟩ := Option.map_eq_some_iff.1 this
        omega
      rw [List.length_drop] at hn2
      have HT1 := Lib.hid (HTL.out p n1 hv1)
      have HUN := Lib.hid hun1
      clear hun1
      have hrr := HRR.out
      rw [kidsK, hv1, Option.getD_some, List.drop_drop] at hrr
      have HI : Hid (∀ (W' : World) (pv' : Value) (L' : List Tok), RK q W W' → L'.length + 4 * (n1 + 1) ≤ 90000 → PutS q pv' L' W' → CelRow b off V W' → Calls Tryz.prog 50 #[.pointer (some ⟨q, 0, none⟩), .slice (some ⟨b, off, none⟩) V.length cap, .int .i64 (p : Int)] W' fun e w' => PEnd q (L' ++ tokK d1 (V.drop p)) ((p + n1 : Nat) : Int) W' e w') := Lib.hid fun W' pv' L' h0 h1 h2 h3 => HIH.out W' pv' L' p n1 h0 hpl hv1 h1 h2 h3
      obtain ⟨p2, hp2⟩ : ∃ p2, p + n1 = p2 := ⟨_, rfl⟩
      have HP2 : Hid (p2 = k + 1 + (u + n1)) := Lib.hid (by rw [← hp2, HPU.out]; omega)
      have hp3 : p2 ≤ V.length := by omega
      have HKS2 := Lib.hid hks
      rw [hp2] at HI hrr
      have p5 : (p : Int).toNat = p := by omega
      have p6 : (0 : Int) ≤ (p : Int) := by omega
      have p7 : (p : Int) < (V.length : Int) := by omega
      have hbw : b ≠ q := by omega
      have hhd : ((V.drop p).headD ⟨0, [], [], 0, 0⟩).name = V[p].name := by rw [List.drop_eq_getElem_cons hpl]; rfl
      unfold preK at hrr
      rw [hhd, if_pos rfl] at hrr
      obtain ⟨_, r1, _⟩ := (HROW.out.rk HKr.out hbw) p hpl
      obtain ⟨xn, hxn⟩ : ∃ x : ByteArray, (⟨V[p].name.toArray⟩ : ByteArray) = x := ⟨_, rfl⟩
      have hxl : xn.data.toList = V[p].name := by rw [← hxn]
      rw [hxn] at r1
      rw [← hxl] at hrr
      clear hhd hxn hxl hv1 hks
      generalize tokK d1 (V.drop p) = tj at *
      have HRX : Hid ((L1 ++ [nmT xn.data.toList] ++ [mkT [58]] ++ tj) ++ (kidsK (valN d1) (tokK d1) true g1 (V.drop p2) ++ [mkT [125]]) = R) := Lib.hid (by rw [← hrr]; simp)
      have HJJ := Lib.hid (And.intro hj (And.intro hj' hju))
      clear hrr hj hj' hju
      have hb5 : Below wr.heap.size wr (wr.alloc (.cells #[.string xn] 9 (0, 0))) := (Below.refl _ _).alloc (Nat.le_refl _) _
      have HP5 := Lib.hid (HPr.out.below hb5)
      have HK5 : Hid (RK q wr _) := Lib.hid (rk_below hb5 (Nat.le_of_lt hqr))
      have hne5 : wr.heap.size ≠ q := by omega
      clear hb5
      go_wp2_with fail
      refine (put_add q pv1 L1 1 1 rfl xn _ 1 _ HP5.out (new_cell0 _ _ _) hne5 (by omega)).mono ?_; rintro e w2 ⟨rfl, ⟨pv2, hx1⟩, hx2⟩
      have hb6 : Below w2.heap.size w2 (w2.alloc (.cells #[.string ⟨#[58]⟩] 9 (0, 0))) := (Below.refl _ _).alloc (Nat.le_refl _) _
      have HP6 : Hid (PutS q pv2 (L1 ++ [nmT xn.data.toList]) _) := Lib.hid (hx1.below hb6)
      have HK6 : Hid (RK q wr _) := Lib.hid ((HK5.out.trans hx2).trans (rk_below hb6 (Nat.le_of_lt hx1.lt)))
      have hne6 : w2.heap.size ≠ q := by have := hx1.lt; omega
      clear hx1 hx2 hb6 r1
      go_wp2_with fail
      refine (put_add q pv2 _ 4 4 rfl ⟨#[58]⟩ _ 1 _ HP6.out (new_cell0 _ _ _) hne6 (by simp; omega)).mono ?_; rintro e w3 ⟨rfl, ⟨pv3, hx1⟩, hx2⟩
      have HP7 : Hid (PutS q pv3 (L1 ++ [nmT xn.data.toList] ++ [mkT [58]]) w3) := Lib.hid hx1
      have HK7 := Lib.hid (HK6.out.trans hx2)
      clear hx1 hx2
      go_wp2_with fail
      refine (HI.out w3 pv3 (L1 ++ [nmT xn.data.toList] ++ [mkT [58]]) (HKr.out.trans HK7.out) (by have z1 := HROOM.out; have z2 := HLEN.out.1; have z3 := HLEN.out.2; have z4 := HT1.out; have z5 := HUN.out; (try simp only [List.length_append, List.length_cons, List.length_nil]); omega) HP7.out ((HROW.out.rk HKr.out hbw).rk HK7.out hbw)).mono ?_; rintro e w8 ⟨rfl, ⟨pv8, hx1⟩, hx2⟩
      have HP8 := Lib.hid hx1
      have hk8 := HK7.out.trans hx2
      have HK8 := Lib.hid (HKr.out.trans hk8)
      have HC8 := Lib.hid (hk8.2 _ _ HCr.out hcq)
      have HE8 := Lib.hid (hk8.2 _ _ HEr.out heq')
      have hz8 : IntKind.i64.wrap ((j : Int) + 1) = ((j + 1 : Nat) : Int) := by rw [IntWalk.i64_in _ (by omega)]; omega
      clear hx1 hx2 hk8
      go_wp2_with fail
      obtain ⟨hj, hj', hju⟩ := HJJ.out
      go_roundg g1
      case measure => omega
      case rel => exact ⟨j + 1, p2, u + n1, _, _, pv8, rfl, by first | rfl | go_num, ⟨by omega, by omega⟩, hp3, HP2, by omega, Lib.hid ⟨by have z1 := HROOM.out; have z2 := HLEN.out.1; have z3 := HLEN.out.2; have z4 := HT1.out; have z5 := HUN.out; (try simp only [List.length_append, List.length_cons, List.length_nil]); omega, HUN.out⟩, HKS2, HRX, HP8, HK8, HC8, HE8⟩
end Go.Proofs.YtfagaflgdlomiaaGreatDoor
namespace Go.Proofs.YtfagaflgdlomiaaGreatDoor
open Go.RowKit
theorem kind_k (c : Cel) (k : Nat) (hk : k < 256) (h : c.kind.toNat = k) : c.kind = UInt8.ofNat k := by
  refine UInt8.toNat_inj.1 ?_
  rw [UInt8.toNat_ofNat', h]; omega
def NumV (V : List Cel) : Prop := ∀ c ∈ V, R c.num ∧ R c.many
set_option maxRecDepth 100000 in
set_option maxHeartbeats 2000000 in
theorem up_case (w0 : World) (V : List Cel) (q b off cap : Nat) (hs : NumV V) (hl : V.length ≤ 2048) (hET : EnvT w0) (hq0 : w0.heap.size ≤ q) (hbq : b < q)
    (d : Nat) (W : World) (pv : Value) (L : List Tok) (k n : Nat) (hk : k < V.length) (hv : valN d (V.drop k) = some n) (hroom : L.length + 4 * (n + 1) ≤ 90000) (hP : PutS q pv L W) (hrow : CelRow b off V W) (hW : Below w0.heap.size w0 W)
    (HIH : ∀ d1, d = d1 + 1 → Hid (∀ (W' : World) (pv' : Value) (L' : List Tok) (p n1 : Nat), RK q W W' → p < V.length → valN d1 (V.drop p) = some n1 → L'.length + 4 * (n1 + 1) ≤ 90000 → PutS q pv' L' W' → CelRow b off V W' → Calls Tryz.prog 50 #[.pointer (some ⟨q, 0, none⟩), .slice (some ⟨b, off, none⟩) V.length cap, .int .i64 (p : Int)] W' fun e w' => PEnd q (L' ++ tokK d1 (V.drop p)) ((p + n1 : Nat) : Int) W' e w')) :
    Calls Tryz.prog 50 #[.pointer (some ⟨q, 0, none⟩), .slice (some ⟨b, off, none⟩) V.length cap, .int .i64 (k : Int)] W fun e w' => PEnd q (L ++ tokK d (V.drop k)) ((k + n : Nat) : Int) W e w' := by
  obtain ⟨c0, c1, c2, c3, c4⟩ := hrow k hk
  obtain ⟨s3, s4⟩ := hs V[k] (List.getElem_mem _)
  have hval := valN_drop V k d hk
  rw [hv] at hval
  have hnest := nest_kind V[k]
  have hone := one_kind V[k]
  have hkl := UInt8.toNat_lt V[k].kind
  have ho : oneC V[k] = true := by
    cases h : oneC V[k] with
    | true => rfl
    | false => rw [h] at hval; cases hval
  rw [ho, if_pos rfl] at hval
  rw [ho] at hone
  have h7 : V[k].kind.toNat ≤ 7 := by
    have := hone.symm
    simp only [Bool.and_eq_true, decide_eq_true_eq] at this
    exact this.1
  have hdrop := List.drop_eq_getElem_cons hk
  have hlit : nestC V[k] = false → tokK d (V.drop k) = litK V[k] ∧ n = 1 := by
    intro h
    rw [h, if_neg Bool.false_ne_true] at hval
    refine ⟨?_, Option.some.inj hval⟩
    rw [hdrop]
    cases d with
    | zero => rw [tokK_zero, headK_cons, h]; rfl
    | succ d => rw [tokK_more, headK_cons, h]; rfl
  have hcast : ((k + 1 : Nat) : Int) = (k : Int) + 1 := by omega
  have hll : L.length + 8 ≤ 100000 := by omega
  have htl : (⟨V[k].text.toArray⟩ : ByteArray).data.toList = V[k].text := by simp
  have h8 : V[k].kind.toNat = 0 ∨ V[k].kind.toNat = 1 ∨ V[k].kind.toNat = 2 ∨ V[k].kind.toNat = 3 ∨ V[k].kind.toNat = 4 ∨ V[k].kind.toNat = 5 ∨ V[k].kind.toNat = 6 ∨ V[k].kind.toNat = 7 := by omega
  rcases h8 with h | h | h | h | h | h | h | h
  · obtain ⟨e1, rfl⟩ := hlit (by rw [hnest, h]; rfl)
    have hk0 := kind_k V[k] 0 (by omega) h
    rw [e1, hcast]
    have : litK V[k] = [nmT [110, 117, 108, 108]] := by unfold litK; rw [hk0]; rfl
    rw [this]
    exact up_null q b off V.length cap k pv L W _ _ _ _ _ hP hk hl hll c0 c1 c2 c3 c4 h
  · obtain ⟨e1, rfl⟩ := hlit (by rw [hnest, h]; rfl)
    have hk0 := kind_k V[k] 1 (by omega) h
    rw [e1, hcast]
    have hnum : V[k].num = 0 ∨ V[k].num = 1 := by
      rw [h] at hone
      have := hone.symm
      simp only [Bool.and_eq_true] at this
      have h2 := this.2.1.2
      unfold cnum at h2
      simpa using h2
    rcases hnum with hn0 | hn1
    · have : litK V[k] = [nmT [102, 97, 108, 115, 101]] := by unfold litK; rw [hk0, hn0]; rfl
      rw [this]
      exact up_false q b off V.length cap k pv L W _ _ _ _ _ hP hk hl hll c0 c1 c2 c3 c4 h hn0
    · have : litK V[k] = [nmT [116, 114, 117, 101]] := by unfold litK; rw [hk0, hn1]; rfl
      rw [this]
      exact up_true q b off V.length cap k pv L W _ _ _ _ _ hP hk hl hll c0 c1 c2 c3 c4 h hn1
  · obtain ⟨e1, rfl⟩ := hlit (by rw [hnest, h]; rfl)
    have hk0 := kind_k V[k] 2 (by omega) h
    rw [e1, hcast]
    have : litK V[k] = [⟨2, Lib.itoa V[k].num, 0⟩] := by unfold litK; rw [hk0]; rfl
    rw [this]
    exact up_int q b off V.length cap k pv L W _ _ _ _ _ hP hk hl hll c0 c1 c2 c3 c4 h (Lib.hid fun W' hW' => write_tab V[k].num s3 W' (hET.stays (hW.trans (hW'.mono hW.size))))
  · obtain ⟨e1, rfl⟩ := hlit (by rw [hnest, h]; rfl)
    have hk0 := kind_k V[k] 3 (by omega) h
    rw [e1, hcast]
    have : litK V[k] = [⟨3, (⟨V[k].text.toArray⟩ : ByteArray).data.toList, 0⟩] := by unfold litK; rw [hk0, htl]; rfl
    rw [this]
    exact up_text q b off V.length cap k pv L W _ _ _ _ _ hP hk hl hll c0 c1 c2 c3 c4 h
  · obtain ⟨e1, rfl⟩ := hlit (by rw [hnest, h]; rfl)
    have hk0 := kind_k V[k] 4 (by omega) h
    rw [e1, hcast]
    have : litK V[k] = [⟨1, (⟨V[k].text.toArray⟩ : ByteArray).data.toList, 0⟩] := by unfold litK; rw [hk0, htl]; rfl
    rw [this]
    exact up_enum q b off V.length cap k pv L W _ _ _ _ _ hP hk hl hll c0 c1 c2 c3 c4 h
  · obtain ⟨e1, rfl⟩ := hlit (by rw [hnest, h]; rfl)
    have hk0 := kind_k V[k] 5 (by omega) h
    rw [e1, hcast]
    have : litK V[k] = [mkT [36], nmT (⟨V[k].text.toArray⟩ : ByteArray).data.toList] := by unfold litK; rw [hk0, htl]; rfl
    rw [this]
    exact up_var q b off V.length cap k pv L W _ _ _ _ _ hP hk hl hll c0 c1 c2 c3 c4 h
  all_goals
    have hcn : cnest V[k].kind.toNat = true := by rw [h]; rfl
    rw [hnest, hcn, if_pos rfl] at hval
    cases d with
    | zero => cases hval
    | succ d1 =>
      dsimp only at hval
      obtain ⟨n', hn', hnn⟩ := Option.map_eq_some_iff.1 hval.symm
      have hm : 0 ≤ V[k].many := by
        have := hone.symm
        rw [hcn] at this
        simp only [Bool.and_eq_true, if_pos rfl, decide_eq_true_eq] at this
        simpa using this.2.2
      obtain ⟨m, hm2⟩ := Int.eq_ofNat_of_zero_le hm
      have hmt : V[k].many.toNat = m := by rw [hm2]; rfl
      have hmx : (m : Int) ≤ 9223372036854775807 := by rw [← hm2]; exact s4.2
      rw [hmt] at hn'
      rw [hm2] at c4
      have htext : tokK (d1 + 1) (V.drop k) = opnK V[k] :: (kidsK (valN d1) (tokK d1) (!(V[k].kind == 6)) m (V.drop (k + 1)) ++ [shtK V[k]]) := by
        rw [hdrop, tokK_more, headK_cons, hnest, hcn, if_pos rfl, hmt]
      have hKn : ((k + n : Nat) : Int) = ((k + 1 + n' : Nat) : Int) := by omega
      have HTL : Hid (∀ (p n1 : Nat), valN d1 (V.drop p) = some n1 → (tokK d1 (V.drop p)).length + 2 ≤ 4 * n1) := Lib.hid fun p n1 h => tokK_len d1 _ n1 h
      rw [htext, hKn]
      unfold opnK shtK
      rw [h] at c0
      first
        | (have hk6 : (V[k].kind == 6) = true := beq_iff_eq.2 (kind_k V[k] 6 (by omega) h)
           rw [hk6] at hn' ⊢
           rw [if_pos rfl, if_pos rfl, Bool.not_true]
           have hks := KS.start hn'
           have hrm : L.length + 4 * (n' + 2) ≤ 90000 := by omega
           exact up_list q b off cap k V pv L W _ _ _ m hP hk hl hrow hbq c0 c1 c2 c3 c4 hmx d1 n' hks hrm HTL (HIH d1 rfl))
        | (have hk6 : (V[k].kind == 6) = false := beq_eq_false_iff_ne.2 fun e => by rw [e] at h; exact absurd h (by decide)
           rw [hk6] at hn' ⊢
           rw [if_neg Bool.false_ne_true, if_neg Bool.false_ne_true, Bool.not_false]
           have hks := KS.start hn'
           have hrm : L.length + 4 * (n' + 2) ≤ 90000 := by omega
           exact up_obj q b off cap k V pv L W _ _ _ m hP hk hl hrow hbq c0 c1 c2 c3 c4 hmx d1 n' hks hrm HTL (HIH d1 rfl))
theorem up_any (w0 : World) (V : List Cel) (q b off cap : Nat) (hs : NumV V) (hl : V.length ≤ 2048) (hET : EnvT w0) (hq0 : w0.heap.size ≤ q) (hbq : b < q) :
    ∀ (d : Nat) (W : World) (pv : Value) (L : List Tok) (k n : Nat), k < V.length → valN d (V.drop k) = some n → L.length + 4 * (n + 1) ≤ 90000 → PutS q pv L W → CelRow b off V W → Below w0.heap.size w0 W →
    Calls Tryz.prog 50 #[.pointer (some ⟨q, 0, none⟩), .slice (some ⟨b, off, none⟩) V.length cap, .int .i64 (k : Int)] W fun e w' => PEnd q (L ++ tokK d (V.drop k)) ((k + n : Nat) : Int) W e w' := by
  intro d
  induction d with
  | zero => intro W pv L k n hk hv hr hP hrow hW; exact up_case w0 V q b off cap hs hl hET hq0 hbq 0 W pv L k n hk hv hr hP hrow hW (fun d1 h => by omega)
  | succ d ih =>
    intro W pv L k n hk hv hr hP hrow hW
    refine up_case w0 V q b off cap hs hl hET hq0 hbq (d + 1) W pv L k n hk hv hr hP hrow hW (fun d1 h => ?_)
    obtain rfl : d = d1 := by omega
    exact Lib.hid fun W' pv' L' p n1 h0 h1 h2 h3 h4 h5 => ih W' pv' L' p n1 h1 h2 h3 h4 h5 (hW.trans (h0.1.mono hq0))
end Go.Proofs.YtfagaflgdlomiaaGreatDoor
namespace Go.Proofs.YtfagaflgdlomiaaGreatDoor
open Go.RowKit
set_option maxRecDepth 100000 in
theorem ixw_0 (s : ByteArray) (lb c : Nat) (W : World) (h0 : W.cell? ⟨lb, 0, none⟩ = some (.string ⟨#[110, 117, 108, 108]⟩)) (h1 : W.cell? ⟨lb, 1, none⟩ = some (.string ⟨#[116, 114, 117, 101]⟩)) (h2 : W.cell? ⟨lb, 2, none⟩ = some (.string ⟨#[102, 97, 108, 115, 101]⟩)) (t0 : (s.toList == [110, 117, 108, 108]) = true) :
    Calls Tryz.prog 95 #[.slice (some ⟨lb, 0, none⟩) 3 c, .string s] W fun e w' => e = .returned (.int .i64 (0)) ∧ W = w' := by
  go_enter Tryz.func95, Tryz.ntmps95
  go_wp2_with fail
  refine wp_loop_rounds 4 ?_
  repeat any_goals (rw [rounds_succ]; go_wp2_with fail)
  all_goals (go_ret; exact ⟨rfl, rfl⟩)
set_option maxRecDepth 100000 in
theorem ixw_1 (s : ByteArray) (lb c : Nat) (W : World) (h0 : W.cell? ⟨lb, 0, none⟩ = some (.string ⟨#[110, 117, 108, 108]⟩)) (h1 : W.cell? ⟨lb, 1, none⟩ = some (.string ⟨#[116, 114, 117, 101]⟩)) (h2 : W.cell? ⟨lb, 2, none⟩ = some (.string ⟨#[102, 97, 108, 115, 101]⟩)) (t0 : (s.toList == [110, 117, 108, 108]) = false) (t1 : (s.toList == [116, 114, 117, 101]) = true) :
    Calls Tryz.prog 95 #[.slice (some ⟨lb, 0, none⟩) 3 c, .string s] W fun e w' => e = .returned (.int .i64 (1)) ∧ W = w' := by
  go_enter Tryz.func95, Tryz.ntmps95
  go_wp2_with fail
  refine wp_loop_rounds 4 ?_
  repeat any_goals (rw [rounds_succ]; go_wp2_with fail)
  all_goals (go_ret; exact ⟨rfl, rfl⟩)
set_option maxRecDepth 100000 in
theorem ixw_2 (s : ByteArray) (lb c : Nat) (W : World) (h0 : W.cell? ⟨lb, 0, none⟩ = some (.string ⟨#[110, 117, 108, 108]⟩)) (h1 : W.cell? ⟨lb, 1, none⟩ = some (.string ⟨#[116, 114, 117, 101]⟩)) (h2 : W.cell? ⟨lb, 2, none⟩ = some (.string ⟨#[102, 97, 108, 115, 101]⟩)) (t0 : (s.toList == [110, 117, 108, 108]) = false) (t1 : (s.toList == [116, 114, 117, 101]) = false) (t2 : (s.toList == [102, 97, 108, 115, 101]) = true) :
    Calls Tryz.prog 95 #[.slice (some ⟨lb, 0, none⟩) 3 c, .string s] W fun e w' => e = .returned (.int .i64 (2)) ∧ W = w' := by
  go_enter Tryz.func95, Tryz.ntmps95
  go_wp2_with fail
  refine wp_loop_rounds 4 ?_
  repeat any_goals (rw [rounds_succ]; go_wp2_with fail)
  all_goals (go_ret; exact ⟨rfl, rfl⟩)
set_option maxRecDepth 100000 in
theorem ixw_no (s : ByteArray) (lb c : Nat) (W : World) (h0 : W.cell? ⟨lb, 0, none⟩ = some (.string ⟨#[110, 117, 108, 108]⟩)) (h1 : W.cell? ⟨lb, 1, none⟩ = some (.string ⟨#[116, 114, 117, 101]⟩)) (h2 : W.cell? ⟨lb, 2, none⟩ = some (.string ⟨#[102, 97, 108, 115, 101]⟩)) (t0 : (s.toList == [110, 117, 108, 108]) = false) (t1 : (s.toList == [116, 114, 117, 101]) = false) (t2 : (s.toList == [102, 97, 108, 115, 101]) = false) :
    Calls Tryz.prog 95 #[.slice (some ⟨lb, 0, none⟩) 3 c, .string s] W fun e w' => e = .returned (.int .i64 (-1)) ∧ W = w' := by
  go_enter Tryz.func95, Tryz.ntmps95
  go_wp2_with fail
  refine wp_loop_rounds 4 ?_
  repeat any_goals (rw [rounds_succ]; go_wp2_with fail)
  all_goals (go_ret; exact ⟨rfl, rfl⟩)
theorem ixw_any (s : ByteArray) (lb c : Nat) (W : World) (h0 : W.cell? ⟨lb, 0, none⟩ = some (.string ⟨#[110, 117, 108, 108]⟩)) (h1 : W.cell? ⟨lb, 1, none⟩ = some (.string ⟨#[116, 114, 117, 101]⟩)) (h2 : W.cell? ⟨lb, 2, none⟩ = some (.string ⟨#[102, 97, 108, 115, 101]⟩)) :
    ∃ i : Int, (decide (0 ≤ i) = wordsK.contains s.data.toList) ∧ Calls Tryz.prog 95 #[.slice (some ⟨lb, 0, none⟩) 3 c, .string s] W fun e w' => e = .returned (.int .i64 i) ∧ W = w' := by
  have e : wordsK.contains s.data.toList = (s.toList == [110, 117, 108, 108] || s.toList == [116, 114, 117, 101] || s.toList == [102, 97, 108, 115, 101]) := by
    unfold wordsK
    rw [ByteArray.toList_eq]
    simp only [List.contains_cons, List.contains_nil, Bool.or_false, Bool.or_assoc]
  rw [e]
  cases t0 : (s.toList == [110, 117, 108, 108]) with
  | true => exact ⟨0, rfl, ixw_0 s lb c W h0 h1 h2 t0⟩
  | false =>
    cases t1 : (s.toList == [116, 114, 117, 101]) with
    | true => exact ⟨1, rfl, ixw_1 s lb c W h0 h1 h2 t0 t1⟩
    | false =>
      cases t2 : (s.toList == [102, 97, 108, 115, 101]) with
      | true => exact ⟨2, rfl, ixw_2 s lb c W h0 h1 h2 t0 t1 t2⟩
      | false => exact ⟨-1, rfl, ixw_no s lb c W h0 h1 h2 t0 t1 t2⟩
set_option maxRecDepth 100000 in
theorem words_any (s : ByteArray) (lb c : Nat) (W : World) (h0 : W.cell? ⟨lb, 0, none⟩ = some (.string ⟨#[110, 117, 108, 108]⟩)) (h1 : W.cell? ⟨lb, 1, none⟩ = some (.string ⟨#[116, 114, 117, 101]⟩)) (h2 : W.cell? ⟨lb, 2, none⟩ = some (.string ⟨#[102, 97, 108, 115, 101]⟩)) :
    Calls Tryz.prog 75 #[.slice (some ⟨lb, 0, none⟩) 3 c, .string s] W fun e w' => e = .returned (.bool (wordsK.contains s.data.toList)) ∧ W = w' := by
  obtain ⟨i, hi, hc⟩ := ixw_any s lb c W h0 h1 h2
  have HC := Lib.hid hc
  clear hc h0 h1 h2
  cases hw : wordsK.contains s.data.toList with
  | true =>
    rw [hw] at hi
    have h0 : (0 : Int) ≤ i := of_decide_eq_true hi
    clear hi hw
    go_enter Tryz.func75, Tryz.ntmps75
    go_wp2_with fail
    refine HC.out.mono ?_; rintro e w1 ⟨rfl, rfl⟩
    go_wp2_with fail
    go_ret
    exact ⟨by first | rfl | simp [h0], rfl⟩
  | false =>
    rw [hw] at hi
    have h0 : ¬ (0 : Int) ≤ i := of_decide_eq_false hi
    clear hi hw
    go_enter Tryz.func75, Tryz.ntmps75
    go_wp2_with fail
    refine HC.out.mono ?_; rintro e w1 ⟨rfl, rfl⟩
    go_wp2_with fail
    go_ret
    exact ⟨by first | rfl | simp [h0], rfl⟩
/-- What stands against a cell of a literal. -/
def badL (c : Cel) : Bool := (!c.name.isEmpty && !nameB c.name) || (c.kind == 4 && wordsK.contains c.text)
theorem litB_bad (V : List Cel) : litB V = (mayB V && !V.any badL) := by
  unfold litB
  congr 1
  induction V with
  | nil => rfl
  | cons c r ih =>
    rw [List.all_cons, List.any_cons, ih]
    unfold badL
    cases c.name.isEmpty <;> cases nameB c.name <;> cases (c.kind == 4) <;> cases wordsK.contains c.text <;> simp
theorem str_ne {x : ByteArray} (h : x.data.toList.isEmpty = false) : ¬ x.toList = [] ∧ x.toList.isEmpty = false := by
  rw [ByteArray.toList_eq]
  refine ⟨fun e => ?_, h⟩
  rw [e] at h; cases h
theorem str_nil {x : ByteArray} (h : x.data.toList.isEmpty = true) : x = ⟨#[]⟩ := by
  apply ByteArray.ext; apply Array.toList_inj.1
  cases hx : x.data.toList with
  | nil => rfl
  | cons a b => rw [hx] at h; cases h
set_option maxRecDepth 100000 in
theorem lclo_e4 (k : Int) (x y : ByteArray) (nu ma : Int) (w : World) (h0 : x.data.toList.isEmpty = true) (h4 : (k == 4) = true) :
    Calls Tryz.prog 74 #[.agg #[.int .u8 k, .string x, .string y, .int .i64 nu, .int .i64 ma]] w fun e w' => e = .returned (.bool (wordsK.contains y.data.toList)) ∧ Below w.heap.size w w' := by
  have hxe := str_nil h0
  subst hxe
  go_enter Tryz.func74, Tryz.ntmps74
  go_wp2_with fail
  refine (words_any y _ 3 ((w.alloc (.cells #[.int .u8 k, .string ⟨#[]⟩, .string y, .int .i64 nu, .int .i64 ma] 38 (0, 0))).alloc (.cells #[.string ⟨#[110, 117, 108, 108]⟩, .string ⟨#[116, 114, 117, 101]⟩, .string ⟨#[102, 97, 108, 115, 101]⟩] 9 (0, 0))) (Lib.cell_of_heap (heap_new _ _ _ (by simp)) 0) (Lib.cell_of_heap (heap_new _ _ _ (by simp)) 1) (Lib.cell_of_heap (heap_new _ _ _ (by simp)) 2)).mono ?_; rintro e w2 ⟨rfl, rfl⟩
  have HB9 : Hid (Below w.heap.size w ((w.alloc (.cells #[.int .u8 k, .string ⟨#[]⟩, .string y, .int .i64 nu, .int .i64 ma] 38 (0, 0))).alloc (.cells #[.string ⟨#[110, 117, 108, 108]⟩, .string ⟨#[116, 114, 117, 101]⟩, .string ⟨#[102, 97, 108, 115, 101]⟩] 9 (0, 0)))) := Lib.hid (((Below.refl _ _).alloc (Nat.le_refl _) _).alloc (by simp) _)
  go_wp2_with fail
  go_ret
  exact ⟨ret_b (by simp), HB9.out⟩
set_option maxRecDepth 100000 in
theorem lclo_e0 (k : Int) (x y : ByteArray) (nu ma : Int) (w : World) (h0 : x.data.toList.isEmpty = true) (h4 : (k == 4) = false) :
    Calls Tryz.prog 74 #[.agg #[.int .u8 k, .string x, .string y, .int .i64 nu, .int .i64 ma]] w fun e w' => e = .returned (.bool false) ∧ Below w.heap.size w w' := by
  have hxe := str_nil h0
  subst hxe
  have HB9 : Hid (Below w.heap.size w (w.alloc (.cells #[.int .u8 k, .string ⟨#[]⟩, .string y, .int .i64 nu, .int .i64 ma] 38 (0, 0)))) := Lib.hid ((Below.refl _ _).alloc (Nat.le_refl _) _)
  go_enter Tryz.func74, Tryz.ntmps74
  go_wp2_with fail
  go_ret
  exact ⟨ret_b (by simp), HB9.out⟩
set_option maxRecDepth 100000 in
theorem lclo_nb (k : Int) (x y : ByteArray) (nu ma : Int) (w : World) (h0 : x.data.toList.isEmpty = false) (HNM : Hid (∀ W, Calls Tryz.prog 31 #[.string x] W fun e w' => e = .returned (.bool false) ∧ W = w')) :
    Calls Tryz.prog 74 #[.agg #[.int .u8 k, .string x, .string y, .int .i64 nu, .int .i64 ma]] w fun e w' => e = .returned (.bool true) ∧ Below w.heap.size w w' := by
  obtain ⟨h1, h2⟩ := str_ne h0
  have HB9 : Hid (Below w.heap.size w (w.alloc (.cells #[.int .u8 k, .string x, .string y, .int .i64 nu, .int .i64 ma] 38 (0, 0)))) := Lib.hid ((Below.refl _ _).alloc (Nat.le_refl _) _)
  go_enter Tryz.func74, Tryz.ntmps74
  go_wp2_with fail
  refine (HNM.out _).mono ?_; rintro e w1 ⟨rfl, rfl⟩
  go_wp2_with fail
  go_ret
  exact ⟨ret_b (by simp), HB9.out⟩
set_option maxRecDepth 100000 in
theorem lclo_n4 (k : Int) (x y : ByteArray) (nu ma : Int) (w : World) (h0 : x.data.toList.isEmpty = false) (HNM : Hid (∀ W, Calls Tryz.prog 31 #[.string x] W fun e w' => e = .returned (.bool true) ∧ W = w')) (h4 : (k == 4) = true) :
    Calls Tryz.prog 74 #[.agg #[.int .u8 k, .string x, .string y, .int .i64 nu, .int .i64 ma]] w fun e w' => e = .returned (.bool (wordsK.contains y.data.toList)) ∧ Below w.heap.size w w' := by
  obtain ⟨h1, h2⟩ := str_ne h0
  go_enter Tryz.func74, Tryz.ntmps74
  go_wp2_with fail
  refine (HNM.out _).mono ?_; rintro e w1 ⟨rfl, rfl⟩
  go_wp2_with fail
  refine (words_any y _ 3 ((w.alloc (.cells #[.int .u8 k, .string x, .string y, .int .i64 nu, .int .i64 ma] 38 (0, 0))).alloc (.cells #[.string ⟨#[110, 117, 108, 108]⟩, .string ⟨#[116, 114, 117, 101]⟩, .string ⟨#[102, 97, 108, 115, 101]⟩] 9 (0, 0))) (Lib.cell_of_heap (heap_new _ _ _ (by simp)) 0) (Lib.cell_of_heap (heap_new _ _ _ (by simp)) 1) (Lib.cell_of_heap (heap_new _ _ _ (by simp)) 2)).mono ?_; rintro e w2 ⟨rfl, rfl⟩
  have HB9 : Hid (Below w.heap.size w ((w.alloc (.cells #[.int .u8 k, .string x, .string y, .int .i64 nu, .int .i64 ma] 38 (0, 0))).alloc (.cells #[.string ⟨#[110, 117, 108, 108]⟩, .string ⟨#[116, 114, 117, 101]⟩, .string ⟨#[102, 97, 108, 115, 101]⟩] 9 (0, 0)))) := Lib.hid (((Below.refl _ _).alloc (Nat.le_refl _) _).alloc (by simp) _)
  go_wp2_with fail
  go_ret
  exact ⟨ret_b (by simp), HB9.out⟩
set_option maxRecDepth 100000 in
theorem lclo_n0 (k : Int) (x y : ByteArray) (nu ma : Int) (w : World) (h0 : x.data.toList.isEmpty = false) (HNM : Hid (∀ W, Calls Tryz.prog 31 #[.string x] W fun e w' => e = .returned (.bool true) ∧ W = w')) (h4 : (k == 4) = false) :
    Calls Tryz.prog 74 #[.agg #[.int .u8 k, .string x, .string y, .int .i64 nu, .int .i64 ma]] w fun e w' => e = .returned (.bool false) ∧ Below w.heap.size w w' := by
  obtain ⟨h1, h2⟩ := str_ne h0
  have HB9 : Hid (Below w.heap.size w (w.alloc (.cells #[.int .u8 k, .string x, .string y, .int .i64 nu, .int .i64 ma] 38 (0, 0)))) := Lib.hid ((Below.refl _ _).alloc (Nat.le_refl _) _)
  go_enter Tryz.func74, Tryz.ntmps74
  go_wp2_with fail
  refine (HNM.out _).mono ?_; rintro e w1 ⟨rfl, rfl⟩
  go_wp2_with fail
  go_ret
  exact ⟨ret_b (by simp), HB9.out⟩
theorem lclo_any (c : Cel) (w : World) (hn : c.name.length ≤ 1000000) :
    Calls Tryz.prog 74 #[.agg (celCells c)] w fun e w' => e = .returned (.bool (badL c)) ∧ Below w.heap.size w w' := by
  have hxl : (⟨c.name.toArray⟩ : ByteArray).data.toList = c.name := by simp
  have hyl : (⟨c.text.toArray⟩ : ByteArray).data.toList = c.text := by simp
  have hxz : (⟨c.name.toArray⟩ : ByteArray).size ≤ 1000000 := by rw [← bsz, hxl]; exact hn
  have hkk := kind_eq c 4
  have HN := fun W => lname_any ⟨c.name.toArray⟩ hxz W
  rw [hxl] at HN
  unfold celCells badL
  rw [hkk]
  cases h0 : c.name.isEmpty with
  | true =>
    cases h4 : ((c.kind.toNat : Int) == ((4 : UInt8).toNat : Int)) with
    | true =>
      have := lclo_e4 (c.kind.toNat : Int) ⟨c.name.toArray⟩ ⟨c.text.toArray⟩ c.num c.many w (by rw [hxl]; exact h0) h4
      rw [hyl] at this
      simpa using this
    | false => simpa using lclo_e0 (c.kind.toNat : Int) ⟨c.name.toArray⟩ ⟨c.text.toArray⟩ c.num c.many w (by rw [hxl]; exact h0) h4
  | false =>
    cases hb : nameB c.name with
    | false =>
      rw [hb] at HN
      simpa using lclo_nb (c.kind.toNat : Int) ⟨c.name.toArray⟩ ⟨c.text.toArray⟩ c.num c.many w (by rw [hxl]; exact h0) (Lib.hid HN)
    | true =>
      rw [hb] at HN
      cases h4 : ((c.kind.toNat : Int) == ((4 : UInt8).toNat : Int)) with
      | true =>
        have := lclo_n4 (c.kind.toNat : Int) ⟨c.name.toArray⟩ ⟨c.text.toArray⟩ c.num c.many w (by rw [hxl]; exact h0) (Lib.hid HN) h4
        rw [hyl] at this
        simpa using this
      | false => simpa using lclo_n0 (c.kind.toNat : Int) ⟨c.name.toArray⟩ ⟨c.text.toArray⟩ c.num c.many w (by rw [hxl]; exact h0) (Lib.hid HN) h4
theorem lclo_ent : ∀ args w, (callFunc 74 args).run Tryz.prog w = .ok (.enter 74 args) w := enters_of Tryz.func74 (by kernel_rfl) rfl
set_option maxRecDepth 100000 in
theorem lliteral_any (V : List Cel) (v : Value) (w : World) (hv : CelSl v V w) (hs : SmallV V) (hE : EnvU w) :
    Calls Tryz.prog 49 #[v] w fun e w' => e = .returned (.bool (litB V)) ∧ Below w.heap.size w w' := by
  have H := Lib.hid (ccheck_any V v w hv hs hE)
  have HC : Hid (∀ W : World, Below w.heap.size w W → Calls Tryz.prog 73 #[v, .func (.func 74) #[] #[]] W fun e w' => e = .returned (.bool (V.any badL)) ∧ Below W.heap.size W w') := Lib.hid fun W hW =>
    ccontains_any _ #[] lclo_ent badL V v W (hv.below hW) hs.1 (Lib.hid fun W' k hk _ => by simpa using lclo_any V[k] W' (by have := (hs.2 V[k] (List.getElem_mem _)).1; omega))
  rw [litB_bad]
  clear hv hs hE
  generalize V.any badL = ev at *
  cases hm : mayB V with
  | false =>
    rw [hm] at H
    clear hm
    go_enter Tryz.func49, Tryz.ntmps49
    go_wp2_with fail
    refine H.out.mono ?_; rintro e w1 ⟨rfl, hb⟩
    go_wp2_with fail
    go_ret
    exact ⟨rfl, hb⟩
  | true =>
    rw [hm] at H
    clear hm
    go_enter Tryz.func49, Tryz.ntmps49
    go_wp2_with fail
    refine H.out.mono ?_; rintro e w1 ⟨rfl, hb⟩
    have HB := Lib.hid hb
    have hz := hb.size
    clear hb
    go_wp2_with fail
    refine (HC.out _ HB.out).mono ?_; rintro e w2 ⟨rfl, hb⟩
    have HB2 := Lib.hid (HB.out.trans (hb.mono hz))
    clear hb
    go_wp2_with fail
    go_ret
    exact ⟨ret_b (by cases ev <;> rfl), HB2.out⟩
/-- The tokens of a literal, and the error. -/
def toksE (V : List Cel) : Int := if litB V then 0 else 8
def toksL (V : List Cel) : List Tok := if litB V then tokK 16 V else []
set_option maxRecDepth 100000 in
theorem tokens_no (V : List Cel) (v : Value) (w : World) (hv : ∃ a n c, v = .slice a n c) (H : Hid (Calls Tryz.prog 49 #[v] w fun e w' => e = .returned (.bool false) ∧ Below w.heap.size w w')) :
    Calls Tryz.prog 22 #[v] w fun e w' => e = .returned (.tuple #[.slice none 0 0, .int .i64 8]) ∧ Below w.heap.size w w' := by
  obtain ⟨a, n, c, rfl⟩ := hv
  go_enter Tryz.func22, Tryz.ntmps22
  go_wp2_with fail
  refine H.out.mono ?_; rintro e w1 ⟨rfl, hb⟩
  go_wp2_with fail
  go_ret2
  exact ⟨rfl, hb⟩
set_option maxRecDepth 100000 in
theorem tokens_yes (V : List Cel) (b off cap : Nat) (w : World) (hrow : CelRow b off V w) (hpos : 0 < V.length) (hl : V.length ≤ 2048) (hs : NumV V) (hE : EnvT w) (hval : valN 16 V = some V.length)
    (H : Hid (Calls Tryz.prog 49 #[.slice (some ⟨b, off, none⟩) V.length cap] w fun e w' => e = .returned (.bool true) ∧ Below w.heap.size w w')) :
    Calls Tryz.prog 22 #[.slice (some ⟨b, off, none⟩) V.length cap] w fun e w' => (∃ u, e = .returned (.tuple #[u, .int .i64 0]) ∧ OwnT w.heap.size u (tokK 16 V) w') ∧ Below w.heap.size w w' := by
  have hbl := hrow.lt hpos
  have HROW := Lib.hid hrow
  have HS := Lib.hid hs
  have HEE := Lib.hid hE
  have HV := Lib.hid hval
  clear hrow hs hE hval
  go_enter Tryz.func22, Tryz.ntmps22
  go_wp2_with fail
  refine H.out.mono ?_; rintro e w1 ⟨rfl, hb⟩
  have hz := hb.size
  have hb2 : Below w.heap.size w (w1.alloc (.cells #[.slice none 0 0] 95 (0, 0))) := hb.alloc hz _
  have HB2 := Lib.hid hb2
  have HP : Hid (PutS w1.heap.size (.slice none 0 0) [] (w1.alloc (.cells #[.slice none 0 0] 95 (0, 0)))) := Lib.hid ⟨heap_new _ _ _ rfl, OwnT.nil _ _⟩
  have HR2 := Lib.hid (HROW.out.below hb2 hbl)
  have HUP := Lib.hid (up_any w1 V w1.heap.size b off cap HS.out hl (HEE.out.stays hb) (Nat.le_refl _) (by omega) 16 _ _ [] 0 V.length hpos HV.out (by simp; omega) HP.out HR2.out ((Below.refl _ _).alloc (Nat.le_refl _) _))
  clear hb hb2
  go_wp2_with fail
  refine HUP.out.mono ?_; rintro e w3 ⟨rfl, ⟨v3, h3⟩, hk3⟩
  have h3c := h3.cell
  have HP3 := Lib.hid h3
  have HB3 : Hid (Below w.heap.size w w3) := Lib.hid (HB2.out.trans (hk3.1.mono hz))
  obtain ⟨a3, n3, c3, rfl⟩ : ∃ a n c, v3 = .slice a n c := by
    rcases h3.2.2 with ⟨e1, _⟩ | ⟨g, cap, cur, e1, _⟩
    · exact ⟨_, _, _, e1⟩
    · exact ⟨_, _, _, e1⟩
  clear h3 hk3
  go_wp2_with fail
  go_ret2
  refine ⟨⟨_, rfl, ?_⟩, HB3.out⟩
  have := HP3.out.2.lessU (B' := w.heap.size) (by omega)
  simpa using this
theorem mayB_parts {V : List Cel} (h : mayB V = true) : 0 < V.length ∧ V.length ≤ 2048 ∧ valN 16 V = some V.length := by
  unfold mayB at h
  simp only [Bool.and_eq_true, decide_eq_true_eq, beq_iff_eq] at h
  exact ⟨h.1.1.1, h.1.1.2, h.2⟩
theorem tokens_any (V : List Cel) (v : Value) (w : World) (hv : CelSl v V w) (hs : SmallV V) (hE : EnvU w) (hT : EnvT w) :
    Calls Tryz.prog 22 #[v] w fun e w' => (∃ u, e = .returned (.tuple #[u, .int .i64 (toksE V)]) ∧ OwnT w.heap.size u (toksL V) w') ∧ Below w.heap.size w w' := by
  have HL := Lib.hid (lliteral_any V v w hv hs hE)
  unfold toksE toksL
  cases hb : litB V with
  | false =>
    rw [hb] at HL
    refine (tokens_no V v w (by
      rcases hv with ⟨a, c, rfl, _⟩ | ⟨b, off, cap, rfl, _⟩
      · exact ⟨_, _, _, rfl⟩
      · exact ⟨_, _, _, rfl⟩) HL).mono ?_
    rintro e w' ⟨rfl, hb⟩
    exact ⟨⟨_, rfl, OwnT.nil _ _⟩, hb⟩
  | true =>
    rw [hb] at HL
    have hm : mayB V = true := by unfold litB at hb; simp only [Bool.and_eq_true] at hb; exact hb.1
    obtain ⟨h1, h2, h3⟩ := mayB_parts hm
    rcases hv with ⟨a, c, rfl, rfl, _⟩ | ⟨b, off, cap, rfl, hrow, _⟩
    · simp at h1
    · exact tokens_yes V b off cap w hrow h1 h2 (fun c hc => (hs.2 c hc).2.2) hT h3 HL
end Go.Proofs.YtfagaflgdlomiaaGreatDoor
namespace Go.Proofs.YtfagaflgdlomiaaGreatDoor
open Go.RowKit Go.Lib
/-- The cells of names with slices behind them. -/
def xFlat {α : Type} : List (List UInt8 × α) → List Value → List Value
  | (n, _) :: r, u :: us => .string ⟨n.toArray⟩ :: u :: xFlat r us
  | _, _ => []
theorem xFlat_len {α : Type} : ∀ (L : List (List UInt8 × α)) (U : List Value), U.length = L.length → (xFlat L U).length = L.length * 2
  | [], U, h => by cases U <;> simp [xFlat]
  | (n, x) :: r, [], h => by simp at h
  | (n, x) :: r, u :: us, h => by
    have := xFlat_len r us (by simpa using h)
    simp only [xFlat, List.length_cons, this]; omega
/-- A row of names with slices behind them, the call's own; whatever is behind each is meant by Own. -/
def OwnX {α : Type} (T : TypeId) (Own : Value → α → World → Prop) (B : Nat) (v : Value) (L : List (List UInt8 × α)) (W : World) : Prop :=
  ∃ U : List Value, U.length = L.length ∧ W.ownsRow B T 2 v L.length (xFlat L U) ∧ ∀ (i : Nat) (h : i < L.length) (h' : i < U.length), (∃ a n c, U[i] = .slice a n c) ∧ Own U[i] L[i].2 W
section
variable {α : Type} {T : TypeId} {Own : Value → α → World → Prop} {B : Nat} {v : Value} {L : List (List UInt8 × α)} {W W' : World}
theorem OwnX.nil (W : World) : OwnX T Own B (.slice none 0 0) [] W := ⟨[], rfl, World.ownsRow_nil W B T 2, fun i h => by simp at h⟩
theorem OwnX.form (h : OwnX T Own B v L W) : ∃ a c, v = .slice a L.length c := by
  obtain ⟨U, h1, h2, h3⟩ := h
  rcases h2.2 with ⟨e, e2⟩ | ⟨g, cap, cur, e, _⟩
  · exact ⟨none, 0, by rw [e, e2]⟩
  · exact ⟨_, _, e⟩
/-- What is kept where all blocks from B on stay that were there. -/
def Kp (B : Nat) (W W' : World) : Prop := ∀ (k : Nat) (o : Obj), B ≤ k → W.heap[k]? = some o → W'.heap[k]? = some o
theorem Kp.rk {p : Nat} (h : RK p W W') (hp : p < B) : Kp B W W' := fun k o hk ho => h.2 k o ho (by omega)
theorem Kp.mk {p m : Nat} (h : MK p m W W') (hp : p < B) (hm : m < B) : Kp B W W' := fun k o hk ho => h.2 k o ho (by omega) (by omega)
theorem Kp.below (h : Below W.heap.size W W') : Kp B W W' := fun k o hk ho => (h.block k (heap_lt ho)).trans ho
theorem Kp.trans {W'' : World} (h : Kp B W W') (h' : Kp B W' W'') : Kp B W W'' := fun k o hk ho => h' k o hk (h k o hk ho)
end
abbrev OwnA (B : Nat) : Value → List (List UInt8 × List Cel) → World → Prop := OwnX 79 (OwnC B) B
abbrev OwnD (B : Nat) : Value → List (List UInt8 × List (List UInt8 × List Cel)) → World → Prop := OwnX 98 (OwnA B) B
end Go.Proofs.YtfagaflgdlomiaaGreatDoor
namespace Go.Proofs.YtfagaflgdlomiaaGreatDoor
open Go.RowKit Go.Lib
/-- Bytes in a row that the call made; none are in no row. -/
def BytW (B : Nat) (u : Value) (ws : List UInt8) (W : World) : Prop := Own B u ws W ∧ (ws = [] → u = .slice none 0 0)
theorem BytW.nil (B : Nat) (W : World) : BytW B (.slice none 0 0) [] W := ⟨Own.nil _ _, fun _ => rfl⟩
theorem BytW.form {B : Nat} {v : Value} {l : List UInt8} {W : World} (h : BytW B v l W) : ∃ a n c, v = .slice a n c := by
  rcases h.1.2 with ⟨e1, _⟩ | ⟨g, cap, cur, e1, _⟩
  · exact ⟨_, _, _, e1⟩
  · exact ⟨_, _, _, e1⟩
theorem ref_cells {A : Nat} {W : World} {x y : Value} (h : W.heap[A]? = some (.cells #[x, y] 35 (0, 0))) : W.cell? ⟨A, 0, none⟩ = some x ∧ W.cell? ⟨A, 1, none⟩ = some y ∧ W.frozen? ⟨A, 0, none⟩ = false ∧ W.frozen? ⟨A, 1, none⟩ = false := by
  refine ⟨?_, ?_, Lib.frozen_of_heap h 0, Lib.frozen_of_heap h 1⟩
  all_goals (rw [Lib.cell_of_heap h]; rfl)
end Go.Proofs.YtfagaflgdlomiaaGreatDoor
namespace Go.Proofs.YtfagaflgdlomiaaGreatDoor
open Go.RowKit Go.Lib
/-- A row of names with slices behind them, read. -/
def XRow {α : Type} (Sl : Value → α → World → Prop) (b off : Nat) (L : List (List UInt8 × α)) (W : World) : Prop := ∀ (i : Nat) (h : i < L.length), W.cell? ⟨b, off + i * 2, none⟩ = some (.string ⟨L[i].1.toArray⟩) ∧ ∃ a n c, W.cell? ⟨b, off + i * 2 + 1, none⟩ = some (.slice a n c) ∧ Sl (.slice a n c) L[i].2 W
theorem XRow.below {α : Type} {Sl : Value → α → World → Prop} {b off : Nat} {L : List (List UInt8 × α)} {w w' : World} (h : XRow Sl b off L w) (hS : ∀ u x, Sl u x w → Sl u x w') (hb : Below w.heap.size w w') : XRow Sl b off L w' := by
  intro i hi
  obtain ⟨h0, a, n, c, h1, h2⟩ := h i hi
  have hlt := lt_of_cell h0
  exact ⟨(hb.cell (p := ⟨b, _, none⟩) hlt).trans h0, a, n, c, (hb.cell (p := ⟨b, _, none⟩) hlt).trans h1, hS _ _ h2⟩
def XSl {α : Type} (Sl : Value → α → World → Prop) (v : Value) (L : List (List UInt8 × α)) (W : World) : Prop := (∃ a cap, v = .slice a 0 cap ∧ L = []) ∨ ∃ b off cap, v = .slice (some ⟨b, off, none⟩) L.length cap ∧ XRow Sl b off L W ∧ 0 < L.length
theorem XSl.below {α : Type} {Sl : Value → α → World → Prop} {v : Value} {L : List (List UInt8 × α)} {w w' : World} (h : XSl Sl v L w) (hS : ∀ u x, Sl u x w → Sl u x w') (hb : Below w.heap.size w w') : XSl Sl v L w' := by
  rcases h with h | ⟨b, off, cap, h1, h2, h3⟩
  · exact Or.inl h
  · exact Or.inr ⟨b, off, cap, h1, h2.below hS hb, h3⟩
abbrev ArgSl : Value → List (List UInt8 × List Cel) → World → Prop := XSl CelSl
abbrev DirSl : Value → List (List UInt8 × List (List UInt8 × List Cel)) → World → Prop := XSl ArgSl
theorem ArgSl.below {v : Value} {L : List (List UInt8 × List Cel)} {w w' : World} (h : ArgSl v L w) (hb : Below w.heap.size w w') : ArgSl v L w' := XSl.below h (fun _ _ h => h.below hb) hb
theorem DirSl.below {v : Value} {L : List (List UInt8 × List (List UInt8 × List Cel))} {w w' : World} (h : DirSl v L w) (hb : Below w.heap.size w w') : DirSl v L w' := XSl.below h (fun _ _ h => ArgSl.below h hb) hb
theorem xFlat_get {α : Type} : ∀ (L : List (List UInt8 × α)) (U : List Value) (i : Nat) (h : i < L.length) (h' : i < U.length), U.length = L.length → (xFlat L U)[i * 2]? = some (.string ⟨L[i].1.toArray⟩) ∧ (xFlat L U)[i * 2 + 1]? = some U[i]
  | [], U, i, h, h', _ => by simp at h
  | (n, x) :: r, [], i, h, h', _ => by simp at h'
  | (n, x) :: r, u :: us, 0, h, h', _ => by simp [xFlat]
  | (n, x) :: r, u :: us, i + 1, h, h', hl => by
    have ih := xFlat_get r us i (by simpa using h) (by simpa using h') (by simpa using hl)
    rw [show (i + 1) * 2 = i * 2 + 1 + 1 from by omega]
    simp only [xFlat, List.getElem?_cons_succ, List.getElem_cons_succ]
    exact ih
theorem OwnX.xsl {α : Type} {T : TypeId} {Own Sl : Value → α → World → Prop} {B : Nat} {v : Value} {L : List (List UInt8 × α)} {W : World} (h : OwnX T Own B v L W) (hS : ∀ u x, Own u x W → Sl u x W) : XSl Sl v L W := by
  obtain ⟨U, hU, h2, h3⟩ := h
  rcases h2.2 with ⟨rfl, hz⟩ | ⟨g, cap, cur, rfl, hB, hg, hn, hc, hcs, ht⟩
  · exact Or.inl ⟨_, _, rfl, List.eq_nil_of_length_eq_zero hz⟩
  · by_cases h0 : L = []
    · subst h0
      exact Or.inl ⟨_, _, rfl, rfl⟩
    refine Or.inr ⟨g, 0, cap, rfl, ?_, List.length_pos_iff.2 h0⟩
    intro i hi
    obtain ⟨g0, g1⟩ := xFlat_get L U i hi (by omega) hU
    have F : ∀ j u, (xFlat L U)[j]? = some u → W.cell? ⟨g, 0 + j, none⟩ = some u := by
      intro j u hj
      have hjl : j < L.length * 2 := by rw [← xFlat_len L U hU]; exact (List.getElem?_eq_some_iff.1 hj).1
      rw [← ht, List.getElem?_take, if_pos hjl] at hj
      rw [Nat.zero_add]
      refine (Lib.cell_of_heap hg j).trans ?_
      simpa using hj
    obtain ⟨⟨a, n, c, e⟩, hx⟩ := h3 i hi (by omega)
    have e1 := F _ _ g1
    rw [e] at e1 hx
    exact ⟨F _ _ g0, a, n, c, e1, hS _ _ hx⟩
theorem OwnA.sl {B : Nat} {v : Value} {L : List (List UInt8 × List Cel)} {W : World} (h : OwnA B v L W) : ArgSl v L W := OwnX.xsl h fun u x hx => hx.sl
theorem OwnD.sl {B : Nat} {v : Value} {L : List (List UInt8 × List (List UInt8 × List Cel))} {W : World} (h : OwnD B v L W) : DirSl v L W := OwnX.xsl h fun u x hx => OwnA.sl hx
end Go.Proofs.YtfagaflgdlomiaaGreatDoor
namespace Go.Proofs.YtfagaflgdlomiaaGreatDoor
open Go.RowKit
/-- An argument's tokens; arguments'. -/
def argK (x : List UInt8 × List Cel) : List Tok := nmT x.1 :: mkT [58] :: tokK 16 x.2
def argsK (A : List (List UInt8 × List Cel)) : List Tok := if A.isEmpty then [] else mkT [40] :: (A.flatMap argK ++ [mkT [41]])
def roomA : List (List UInt8 × List Cel) → Nat
  | [] => 0
  | x :: r => 4 * (x.2.length + 1) + 2 + roomA r
/-- Arguments whose values may be. -/
def ArgsOk (A : List (List UInt8 × List Cel)) : Prop := ∀ x ∈ A, 0 < x.2.length ∧ x.2.length ≤ 2048 ∧ NumV x.2 ∧ valN 16 x.2 = some x.2.length
theorem argK_len (x : List UInt8 × List Cel) (h : valN 16 x.2 = some x.2.length) : (argK x).length ≤ 4 * (x.2.length + 1) + 2 := by
  have := tokK_len 16 x.2 x.2.length h
  simp only [argK, List.length_cons]
  omega
theorem argsK_len : ∀ A : List (List UInt8 × List Cel), ArgsOk A → (A.flatMap argK).length ≤ roomA A
  | [], _ => Nat.le_refl _
  | x :: r, h => by
    have h1 := argK_len x (h x (by simp)).2.2.2
    have h2 := argsK_len r (fun y hy => h y (by simp [hy]))
    simp only [List.flatMap_cons, List.length_append, roomA]
    omega
set_option maxRecDepth 100000 in
theorem up_args_none (q : Nat) (a : Option Addr) (c : Nat) (W : World) :
    Calls Tryz.prog 43 #[.pointer (some ⟨q, 0, none⟩), .slice a 0 c] W fun e w' => e = .returned (.tuple #[]) ∧ W = w' := by
  go_enter Tryz.func43, Tryz.ntmps43
  go_wp2_with fail
  go_returns
  exact ⟨rfl, rfl⟩
set_option maxRecDepth 100000 in
set_option maxHeartbeats 4000000 in
theorem up_args_go (w0 : World) (A : List (List UInt8 × List Cel)) (q b off cap : Nat) (hA : XRow CelSl b off A w0) (hok : ArgsOk A) (hpos : 0 < A.length) (hl : A.length ≤ 100000) (hET : EnvT w0) (hq0 : w0.heap.size ≤ q) (W : World) (pv : Value) (L : List Tok) (hP : PutS q pv L W) (hW : Below w0.heap.size w0 W) (hroom : L.length + 1 + roomA A + 1 ≤ 90000) :
    Calls Tryz.prog 43 #[.pointer (some ⟨q, 0, none⟩), .slice (some ⟨b, off, none⟩) A.length cap] W fun e w' => e = .returned (.tuple #[]) ∧ (∃ v', PutS q v' (L ++ (mkT [40] :: (A.flatMap argK ++ [mkT [41]]))) w') ∧ RK q W w' := by
  have hq := hP.lt
  have HEL : Hid (∀ (i : Nat) (h : i < A.length), ∃ b' o' c', w0.cell? ⟨b, off + i * 2, none⟩ = some (.string ⟨A[i].1.toArray⟩) ∧ w0.cell? ⟨b, off + i * 2 + 1, none⟩ = some (.slice (some ⟨b', o', none⟩) A[i].2.length c') ∧ CelRow b' o' A[i].2 w0 ∧ b' < w0.heap.size) := Lib.hid fun i hi => by
    obtain ⟨e0, a, n, c, e1, hy⟩ := hA i hi
    have hp := (hok A[i] (List.getElem_mem hi)).1
    rcases hy with ⟨a2, c2, e2, e3, _⟩ | ⟨b', o', c', e2, e3, e4⟩
    · rw [e3] at hp; simp at hp
    · rw [e2] at e1
      exact ⟨b', o', c', e0, e1, e3, e3.lt e4⟩
  have HOK := Lib.hid hok
  have HBW := Lib.hid hW
  have HET := Lib.hid hET
  have HROOM := Lib.hid hroom
  have HLL : Hid (A.length = A.length) := Lib.hid rfl
  obtain ⟨R, hR⟩ : ∃ R, L ++ (mkT [40] :: (A.flatMap argK ++ [mkT [41]])) = R := ⟨_, rfl⟩
  have HR0 : Hid ((L ++ [mkT [40]]) ++ ((A.drop 0).flatMap argK ++ [mkT [41]]) = R) := Lib.hid (by rw [← hR]; simp)
  rw [hR]
  obtain ⟨n, hn⟩ : ∃ n, A.length = n := ⟨_, rfl⟩
  have HN := Lib.hid hn
  rw [hn]
  rw [hn] at hpos hl
  have hn0 : ((n : Int) == 0) = false := by rw [beq_eq_false_iff_ne]; omega
  have hn1 : ¬ (n : Int) = 0 := by omega
  obtain ⟨W1, hW1⟩ : ∃ W1, W.alloc (.cells #[.string ⟨#[40]⟩] 9 (0, 0)) = W1 := ⟨_, rfl⟩
  have hb1 : Below W.heap.size W W1 := by rw [← hW1]; exact (Below.refl _ _).alloc (Nat.le_refl _) _
  have HP1 := Lib.hid (hP.below hb1)
  have HK1 : Hid (RK q W W1) := Lib.hid (rk_below hb1 (Nat.le_of_lt hq))
  have hl1 : W1.cell? ⟨W.heap.size, 0, none⟩ = some (.string ⟨#[40]⟩) := by rw [← hW1]; exact new_cell0 _ _ _
  have hne : W.heap.size ≠ q := by omega
  have hLL : L.length ≤ 100000 := by omega
  have HW1 := Lib.hid hW1
  clear hA hok hET hW hR hn hP hb1 hW1 hroom
  go_enter Tryz.func43, Tryz.ntmps43
  go_wp2_with fail
  rw [HW1.out]
  refine (put_add q pv L 4 4 rfl ⟨#[40]⟩ _ 1 W1 HP1.out hl1 hne hLL).mono ?_; rintro e w1 ⟨rfl, ⟨pv1, hx1⟩, hx2⟩
  have HP2 : Hid (PutS q pv1 (L ++ [mkT [40]]) w1) := Lib.hid hx1
  have HK2 := Lib.hid (HK1.out.trans hx2)
  clear hx1 hx2 hl1 hne HP1 HK1 hLL
  go_wp2_with fail
  go_loopg [14] n (fun gk iv wr => ∃ (i : Nat) (L1 : List Tok) (pv1 : Value), iv = .int .i64 (i : Int) ∧ (gk + i ≤ n ∧ n ≤ gk + i) ∧ Hid (L1.length + roomA (A.drop i) + 1 ≤ 90000) ∧ Hid (L1 ++ ((A.drop i).flatMap argK ++ [mkT [41]]) = R) ∧ Hid (PutS q pv1 L1 wr) ∧ Hid (RK q W wr))
  case atStart => exact ⟨0, _, pv1, by go_num, ⟨by omega, by omega⟩, Lib.hid (by have := HROOM.out; simp only [List.length_append, List.length_cons, List.length_nil, List.drop_zero]; omega), HR0, HP2, HK2⟩
  case round =>
    clear HP2 HK2 HR0
    rename World => wr
    obtain ⟨i, L1, pv1, rfl, ⟨hj, hj'⟩, HLEN, HRR, HPr, HKr⟩ := hrel
    have hqr := HPr.out.lt
    have hL1 : L1.length ≤ 90000 := by have := HLEN.out; omega
    by_cases hg0 : gk = 0
    · subst hg0
      have hin : i = n := by omega
      have hlt : ¬ (i : Int) < (n : Int) := by omega
      have HF : Hid (L1 ++ [mkT [41]] = R) := Lib.hid (by have := HRR.out; rw [List.drop_of_length_le (by have := HN.out; omega)] at this; simpa using this)
      have hb5 : Below wr.heap.size wr (wr.alloc (.cells #[.string ⟨#[41]⟩] 9 (0, 0))) := (Below.refl _ _).alloc (Nat.le_refl _) _
      have HP5 := Lib.hid (HPr.out.below hb5)
      have HK5 : Hid (RK q W _) := Lib.hid (HKr.out.trans (rk_below hb5 (Nat.le_of_lt hqr)))
      have hne5 : wr.heap.size ≠ q := by omega
      clear hj hj' hb5 hin
      go_wp2_with fail
      refine (put_add q pv1 L1 4 4 rfl ⟨#[41]⟩ _ 1 _ HP5.out (new_cell0 _ _ _) hne5 (by omega)).mono ?_; rintro e wx ⟨rfl, ⟨pvx, hx1⟩, hx2⟩
      have HFIN : Hid ((∃ v', PutS q v' R wx) ∧ RK q W wx) := Lib.hid (by
        rw [← HF.out]
        exact ⟨⟨_, hx1⟩, HK5.out.trans hx2⟩)
      clear hx1 hx2
      go_wp2_with fail
      go_returns
      exact ⟨rfl, HFIN.out⟩
    · obtain ⟨g1, rfl⟩ : ∃ g1, gk = g1 + 1 := ⟨gk - 1, by omega⟩
      have hin : i < n := by omega
      have hil : i < A.length := by have := HN.out; omega
      clear hg0
      obtain ⟨b', o', c', e0, e1, hrow, hblt⟩ := HEL.out i hil
      obtain ⟨hm0, hm1, hm2, hm3⟩ := HOK.out A[i] (List.getElem_mem hil)
      have hbw : Below w0.heap.size w0 wr := HBW.out.trans (HKr.out.1.mono hq0)
      have r0 : wr.cell? ⟨b, off + i * 2, none⟩ = some (.string ⟨(A[i]'hil).1.toArray⟩) := (hbw.cell (p := ⟨b, _, none⟩) (lt_of_cell e0)).trans e0
      have r1 : wr.cell? ⟨b, off + i * 2 + 1, none⟩ = some (.slice (some ⟨b', o', none⟩) (A[i]'hil).2.length c') := (hbw.cell (p := ⟨b, _, none⟩) (lt_of_cell e0)).trans e1
      have hdrop : A.drop i = A[i] :: A.drop (i + 1) := List.drop_eq_getElem_cons hil
      have hrr := HRR.out
      have hln := HLEN.out
      have htl := tokK_len 16 (A[i]'hil).2 _ hm3
      rw [hdrop, List.flatMap_cons] at hrr
      rw [hdrop, roomA] at hln
      have HV : Hid (∀ (W' : World) (pv' : Value) (L' : List Tok), RK q W W' → L'.length + 4 * ((A[i]'hil).2.length + 1) ≤ 90000 → PutS q pv' L' W' → Calls Tryz.prog 50 #[.pointer (some ⟨q, 0, none⟩), .slice (some ⟨b', o', none⟩) (A[i]'hil).2.length c', .int .i64 0] W' fun e w' => (∃ z, e = .returned (.int .i64 z)) ∧ (∃ v', PutS q v' (L' ++ tokK 16 (A[i]'hil).2) w') ∧ RK q W' w') := Lib.hid fun W' pv' L' h0 h1 h2 => by
        have hw := HBW.out.trans (h0.1.mono hq0)
        refine (up_any w0 (A[i]'hil).2 q b' o' c' hm2 hm1 HET.out hq0 (by omega) 16 W' pv' L' 0 (A[i]'hil).2.length hm0 (by rw [List.drop_zero]; exact hm3) h1 h2 (hrow.below hw hblt) hw).mono ?_
        rintro e w' ⟨h3, h4, h5⟩
        rw [List.drop_zero] at h4
        exact ⟨⟨_, h3⟩, h4, h5⟩
      have HNX : Hid (L1.length + (2 + 4 * ((A[i]'hil).2.length + 1)) + roomA (A.drop (i + 1)) + 1 ≤ 90000 ∧ (tokK 16 (A[i]'hil).2).length + 2 ≤ 4 * (A[i]'hil).2.length) := Lib.hid ⟨by omega, htl⟩
      have HRX : Hid ((((L1 ++ [nmT (A[i]'hil).1]) ++ [mkT [58]]) ++ tokK 16 (A[i]'hil).2) ++ ((A.drop (i + 1)).flatMap argK ++ [mkT [41]]) = R) := Lib.hid (by rw [← hrr]; simp [argK])
      obtain ⟨nb, hnb⟩ : ∃ nb : ByteArray, (⟨(A[i]'hil).1.toArray⟩ : ByteArray) = nb := ⟨_, rfl⟩
      have hnm : nmT (A[i]'hil).1 = ⟨1, nb.data.toList, 0⟩ := by rw [← hnb]; rfl
      rw [hnm] at HRX
      rw [hnb] at r0
      clear e0 e1 hrow hblt hm0 hm1 hm2 hm3 hdrop hrr hln htl hnb hnm hbw
      generalize (A[i]'hil).2.length = vn at *
      generalize tokK 16 (A[i]'hil).2 = tj at *
      have i1 : (i : Int).toNat = i := by omega
      have i2 : (0 : Int) ≤ (i : Int) := by omega
      have i3 : (i : Int) < (n : Int) := by omega
      have i4 : IntKind.i64.wrap ((i : Int) + 1) = ((i + 1 : Nat) : Int) := by rw [IntWalk.i64_in _ (by omega)]; omega
      obtain ⟨w2, hw2⟩ : ∃ w2, (wr.alloc (.cells #[.string nb, .slice (some ⟨b', o', none⟩) vn c'] 79 (0, 0))).alloc (.cells #[.string nb] 9 (0, 0)) = w2 := ⟨_, rfl⟩
      have hb2 : Below wr.heap.size wr w2 := by rw [← hw2]; exact ((Below.refl _ _).alloc (Nat.le_refl _) _).alloc (by simp) _
      have HP2 := Lib.hid (HPr.out.below hb2)
      have HK2 : Hid (RK q W w2) := Lib.hid (HKr.out.trans (rk_below hb2 (Nat.le_of_lt hqr)))
      have HC2 : Hid (w2.heap[wr.heap.size]? = some (.cells #[.string nb, .slice (some ⟨b', o', none⟩) vn c'] 79 (0, 0))) := Lib.hid (by rw [← hw2]; exact heap_old (heap_new _ _ _ rfl))
      have hl2 : w2.cell? ⟨wr.heap.size + 1, 0, none⟩ = some (.string nb) := by rw [← hw2]; exact Lib.cell_of_heap (heap_new _ _ _ (by simp)) 0
      have hne2 : wr.heap.size + 1 ≠ q := by omega
      have hcq : wr.heap.size ≠ q := by omega
      have HW2 := Lib.hid hw2
      have HJJ := Lib.hid (And.intro hj hj')
      clear hb2 hw2 hj hj' hil
      go_wp2_with fail
      rw [HW2.out]
      refine (put_add q pv1 L1 1 1 rfl nb _ 1 w2 HP2.out hl2 hne2 (by omega)).mono ?_; rintro e w3 ⟨rfl, ⟨pv3, hx1⟩, hx2⟩
      have HP3 := Lib.hid hx1
      have HK3 := Lib.hid (HK2.out.trans hx2)
      have HC3 := Lib.hid (hx2.2 _ _ HC2.out hcq)
      clear hx1 hx2 hl2 hne2 HP2 HK2 HC2 r0 r1 HW2
      generalize wr.heap.size = cb at *
      have hq3 := HP3.out.lt
      have hb4 : Below w3.heap.size w3 (w3.alloc (.cells #[.string ⟨#[58]⟩] 9 (0, 0))) := (Below.refl _ _).alloc (Nat.le_refl _) _
      have HP4 := Lib.hid (HP3.out.below hb4)
      have HK4 := Lib.hid (HK3.out.trans (rk_below hb4 (Nat.le_of_lt hq3)))
      have HC4 := Lib.hid ((hb4.block cb (heap_lt HC3.out)).trans HC3.out)
      have hne4 : w3.heap.size ≠ q := by omega
      clear hb4
      go_wp2_with fail
      refine (put_add q pv3 _ 4 4 rfl ⟨#[58]⟩ _ 1 _ HP4.out (new_cell0 _ _ _) hne4 (by simp only [List.length_append, List.length_cons, List.length_nil]; omega)).mono ?_; rintro e w5 ⟨rfl, ⟨pv5, hx1⟩, hx2⟩
      have HP5 : Hid (PutS q pv5 ((L1 ++ [⟨1, nb.data.toList, 0⟩]) ++ [mkT [58]]) w5) := Lib.hid hx1
      have HK5 := Lib.hid (HK4.out.trans hx2)
      have HC5 := Lib.hid (hx2.2 _ _ HC4.out hcq)
      have d1 : w5.cell? ⟨cb, 1, none⟩ = some (.slice (some ⟨b', o', none⟩) vn c') := by rw [Lib.cell_of_heap HC5.out]; rfl
      clear hx1 hx2 hne4 HP4 HK4 HC4 HP3 HK3 HC3
      go_wp2_with fail
      refine (HV.out w5 pv5 _ HK5.out (by have := HNX.out.1; simp only [List.length_append, List.length_cons, List.length_nil]; omega) HP5.out).mono ?_; rintro e w8 ⟨⟨z, rfl⟩, ⟨pv8, hx1⟩, hx2⟩
      have HP8 := Lib.hid hx1
      have HK8 := Lib.hid (HK5.out.trans hx2)
      clear hx1 hx2
      go_wp2_with fail
      obtain ⟨hj, hj'⟩ := HJJ.out
      go_roundg g1
      case measure => omega
      case rel => exact ⟨i + 1, _, pv8, by first | rfl | go_num, ⟨by omega, by omega⟩, Lib.hid (by have := HNX.out; simp only [List.length_append, List.length_cons, List.length_nil]; omega), HRX, HP8, HK8⟩
theorem up_args (w0 : World) (A : List (List UInt8 × List Cel)) (q : Nat) (u : Value) (hA : ArgSl u A w0) (hok : ArgsOk A) (hl : A.length ≤ 100000) (hET : EnvT w0) (hq0 : w0.heap.size ≤ q) (W : World) (pv : Value) (L : List Tok) (hP : PutS q pv L W) (hW : Below w0.heap.size w0 W) (hroom : L.length + 1 + roomA A + 1 ≤ 90000) :
    Calls Tryz.prog 43 #[.pointer (some ⟨q, 0, none⟩), u] W fun e w' => e = .returned (.tuple #[]) ∧ (∃ v', PutS q v' (L ++ argsK A) w') ∧ RK q W w' := by
  rcases hA with ⟨a, c, rfl, rfl⟩ | ⟨b, off, cap, rfl, hrow, hpos⟩
  · refine (up_args_none q a c W).mono ?_
    rintro e w' ⟨h1, rfl⟩
    exact ⟨h1, ⟨pv, by simpa [argsK] using hP⟩, RK.refl _ _⟩
  · have he : A.isEmpty = false := by cases A with
      | nil => simp at hpos
      | cons x r => rfl
    unfold argsK
    rw [he]
    exact up_args_go w0 A q b off cap hrow hok hpos hl hET hq0 W pv L hP hW hroom
end Go.Proofs.YtfagaflgdlomiaaGreatDoor
namespace Go.Proofs.YtfagaflgdlomiaaGreatDoor
open Go.RowKit
/-- Arguments that may be, behind names. -/
def namedB : List (List UInt8) → List (List UInt8 × List Cel) → Bool
  | _, [] => true
  | nm, x :: r => !nm.contains x.1 && nameB x.1 && litB x.2 && namedB (x.1 :: nm) r
def ArgsSm (A : List (List UInt8 × List Cel)) : Prop := A.length ≤ 100000 ∧ ∀ x ∈ A, x.1.length ≤ 1000000 ∧ SmallV x.2
set_option maxRecDepth 100000 in
theorem lnamed_none (a : Option Addr) (c : Nat) (w : World) :
    Calls Tryz.prog 41 #[.slice a 0 c] w fun e w' => e = .returned (.bool true) ∧ Below w.heap.size w w' := by
  have hmm := @run_makeMap Tryz.prog
  have HB : Hid (Below w.heap.size w (w.alloc (.map #[] 0))) := Lib.hid ((Below.refl _ _).alloc (Nat.le_refl _) _)
  go_enter Tryz.func41, Tryz.ntmps41
  go_wp2_with fail
  refine wp_loop_rounds 1 ?_; rw [rounds_succ]
  go_wp2_with fail
  go_ret
  exact ⟨rfl, HB.out⟩
set_option maxRecDepth 100000 in
set_option maxHeartbeats 4000000 in
theorem lnamed_go (A : List (List UInt8 × List Cel)) (b off cap : Nat) (w : World) (hA : XRow CelSl b off A w) (hpos : 0 < A.length) (hs : ArgsSm A) (hE : EnvU w) :
    Calls Tryz.prog 41 #[.slice (some ⟨b, off, none⟩) A.length cap] w fun e w' => e = .returned (.bool (namedB [] A)) ∧ Below w.heap.size w w' := by
  have HA := Lib.hid hA
  have HS := Lib.hid hs.2
  have hl := hs.1
  have HE := Lib.hid hE
  obtain ⟨Z, hZ⟩ : ∃ Z, namedB [] A = Z := ⟨_, rfl⟩
  have HZ0 : Hid (namedB [] (A.drop 0) = Z) := Lib.hid hZ
  rw [hZ]
  obtain ⟨n, hn⟩ : ∃ n, A.length = n := ⟨_, rfl⟩
  have HN := Lib.hid hn
  rw [hn]
  rw [hn] at hl hpos
  have hmm := @run_makeMap Tryz.prog
  obtain ⟨bm, hbm⟩ : ∃ bm, w.heap.size = bm := ⟨_, rfl⟩
  obtain ⟨w1, hw1⟩ : ∃ w1, w.alloc (.map #[] 0) = w1 := ⟨_, rfl⟩
  have HB1 : Hid (Below w.heap.size w w1) := Lib.hid (by rw [← hw1]; exact (Below.refl _ _).alloc (Nat.le_refl _) _)
  have HM1 : Hid (NamesM bm [] w1) := Lib.hid (by rw [← hw1, ← hbm]; exact NamesM.made w)
  have HW1 := Lib.hid hw1
  have HBM := Lib.hid hbm
  clear hA hs hE hZ hn hbm hw1
  go_enter Tryz.func41, Tryz.ntmps41
  go_wp2_with fail
  try rw [HW1.out]
  try simp only [HBM.out]
  go_loopg [9] n (fun gk iv wr => ∃ (i : Nat) (nm : List (List UInt8)), iv = .int .i64 (i : Int) ∧ (gk + i ≤ n ∧ n ≤ gk + i) ∧ nm.length ≤ i ∧ Hid (NamesM bm nm wr) ∧ Hid (Below w.heap.size w wr) ∧ Hid (namedB nm (A.drop i) = Z))
  case atStart => exact ⟨0, [], by go_num, ⟨by omega, by omega⟩, Nat.le_refl _, HM1, HB1, HZ0⟩
  case round =>
    clear HM1 HB1 HZ0 HW1 hmm
    rename World => wr
    obtain ⟨i, nm, rfl, ⟨hj, hj'⟩, hnm, HM, HB, HQ⟩ := hrel
    by_cases hg0 : gk = 0
    · subst hg0
      have hlt : ¬ (i : Int) < (n : Int) := by omega
      have HF : Hid (true = Z) := Lib.hid (by have := HQ.out; rw [List.drop_of_length_le (by have := HN.out; omega)] at this; exact this)
      clear hj hj'
      go_wp2_with fail
      go_ret
      exact ⟨ret_b HF.out, HB.out⟩
    · obtain ⟨g1, rfl⟩ : ∃ g1, gk = g1 + 1 := ⟨gk - 1, by omega⟩
      have hil : i < A.length := by have := HN.out; omega
      clear hg0
      have hbw := HB.out
      obtain ⟨e0, a, vn, c, e1, hy⟩ := HA.out i hil
      obtain ⟨hx1, hx2⟩ := HS.out A[i] (List.getElem_mem hil)
      have r0 : wr.cell? ⟨b, off + i * 2, none⟩ = some (.string ⟨(A[i]'hil).1.toArray⟩) := (hbw.cell (p := ⟨b, _, none⟩) (lt_of_cell e0)).trans e0
      have r1 : wr.cell? ⟨b, off + i * 2 + 1, none⟩ = some (.slice a vn c) := (hbw.cell (p := ⟨b, _, none⟩) (lt_of_cell e0)).trans e1
      have hq := HQ.out
      rw [List.drop_eq_getElem_cons hil, namedB] at hq
      have HLT : Hid (∀ W, Below w.heap.size w W → Calls Tryz.prog 49 #[.slice a vn c] W fun e w' => e = .returned (.bool (litB (A[i]'hil).2)) ∧ Below W.heap.size W w') := Lib.hid fun W hW => lliteral_any _ _ W (hy.below hW) hx2 (HE.out.below hW)
      obtain ⟨nb, hnb⟩ : ∃ nb : ByteArray, (⟨(A[i]'hil).1.toArray⟩ : ByteArray) = nb := ⟨_, rfl⟩
      have hnd : (A[i]'hil).1 = nb.data.toList := by rw [← hnb]
      have hnz : nb.size ≤ 1000000 := by rw [← bsz, ← hnd]; exact hx1
      rw [hnb] at r0
      rw [hnd] at hq
      have HNM : Hid (∀ W, Calls Tryz.prog 31 #[.string nb] W fun e w' => e = .returned (.bool (nameB nb.data.toList)) ∧ W = w') := Lib.hid fun W => lname_any nb hnz W
      have HLK : Hid (∀ W, NamesM bm nm W → (Instr.lookup 126 (.map (some bm)) (.string nb) false).run Tryz.prog W = .ok (.int .i64 (if nm.contains nb.data.toList then 1 else 0)) W) := Lib.hid fun W hW => by
        have := hW.lookup nb (by unfold maxLen; omega)
        rw [among_contains] at this; exact this
      have HUP : Hid (∀ W, NamesM bm nm W → ∃ W', (Instr.mapUpdate 126 (.map (some bm)) (.string nb) (.int .i64 1)).run Tryz.prog W = .ok () W' ∧ NamesM bm (nb.data.toList :: nm) W' ∧ W.grownBy W' (some bm)) := Lib.hid fun W hW => hW.update nb (by unfold maxLen; omega) (by omega)
      have HQ2 := Lib.hid hq
      clear e0 e1 hy hx1 hx2 hnb hnd hq hbw
      generalize litB (A[i]'hil).2 = lb at *
      generalize nameB nb.data.toList = nbb at *
      have i1 : (i : Int).toNat = i := by omega
      have i2 : (0 : Int) ≤ (i : Int) := by omega
      have i3 : (i : Int) < (n : Int) := by omega
      have i4 : IntKind.i64.wrap ((i : Int) + 1) = ((i + 1 : Nat) : Int) := by rw [IntWalk.i64_in _ (by omega)]; omega
      have HZb := HB.out.size
      obtain ⟨w2, hw2⟩ : ∃ w2, wr.alloc (.cells #[.string nb, .slice a vn c] 79 (0, 0)) = w2 := ⟨_, rfl⟩
      have hb2 : Below wr.heap.size wr w2 := by rw [← hw2]; exact (Below.refl _ _).alloc (Nat.le_refl _) _
      have HB2 : Hid (Below w.heap.size w w2) := Lib.hid (HB.out.trans (hb2.mono HZb))
      have HM2 := Lib.hid (HM.out.below hb2)
      have HC2 : Hid (w2.heap[wr.heap.size]? = some (.cells #[.string nb, .slice a vn c] 79 (0, 0))) := Lib.hid (by rw [← hw2]; exact heap_new _ _ _ rfl)
      have d0 : w2.cell? ⟨wr.heap.size, 0, none⟩ = some (.string nb) := by rw [Lib.cell_of_heap HC2.out]; rfl
      have d1 : w2.cell? ⟨wr.heap.size, 1, none⟩ = some (.slice a vn c) := by rw [Lib.cell_of_heap HC2.out]; rfl
      have hlk := HLK.out w2 HM2.out
      have hbmne : wr.heap.size ≠ bm := by have := HM.out.lt; omega
      have HW2 := Lib.hid hw2
      have HJJ := Lib.hid (And.intro hj hj')
      clear hb2 hw2 hj hj' hil
      cases hc : nm.contains nb.data.toList with
      | true =>
        rw [hc] at hlk
        rw [if_pos rfl] at hlk
        have HF : Hid (false = Z) := Lib.hid (by have := HQ2.out; rw [hc] at this; simpa using this)
        clear hc
        go_upto_region 5 with fail
        rw [HW2.out]
        go_wp2_with fail
        go_ret
        exact ⟨ret_b HF.out, HB2.out⟩
      | false =>
        rw [hc] at hlk
        rw [if_neg (by simp)] at hlk
        cases nbb with
        | false =>
          have HF : Hid (false = Z) := Lib.hid (by have := HQ2.out; simpa using this)
          clear hc
          go_upto_region 5 with fail
          rw [HW2.out]
          go_wp2_with fail
          refine (HNM.out w2).mono ?_; rintro e w3 ⟨rfl, rfl⟩
          go_wp2_with fail
          go_ret
          exact ⟨ret_b HF.out, HB2.out⟩
        | true =>
          cases lb with
          | false =>
            have HF : Hid (false = Z) := Lib.hid (by have := HQ2.out; simpa using this)
            clear hc
            go_upto_region 5 with fail
            rw [HW2.out]
            go_wp2_with fail
            refine (HNM.out w2).mono ?_; rintro e w3 ⟨rfl, rfl⟩
            go_wp2_with fail
            refine (HLT.out w2 HB2.out).mono ?_; rintro e w3 ⟨rfl, hb⟩
            have HB3 := Lib.hid (HB2.out.trans (hb.mono HB2.out.size))
            clear hb
            go_wp2_with fail
            go_ret
            exact ⟨ret_b HF.out, HB3.out⟩
          | true =>
            have HF : Hid (namedB (nb.data.toList :: nm) (A.drop (i + 1)) = Z) := Lib.hid (by have := HQ2.out; rw [hc] at this; simpa using this)
            clear hc
            go_upto_region 5 with fail
            rw [HW2.out]
            go_wp2_with fail
            refine (HNM.out w2).mono ?_; rintro e w3 ⟨rfl, rfl⟩
            go_wp2_with fail
            refine (HLT.out w2 HB2.out).mono ?_; rintro e w3 ⟨rfl, hb⟩
            have HB3 := Lib.hid (HB2.out.trans (hb.mono HB2.out.size))
            have HM3 := Lib.hid (HM2.out.below hb)
            have HC3 := Lib.hid ((hb.block _ (heap_lt HC2.out)).trans HC2.out)
            have d3 : w3.cell? ⟨wr.heap.size, 0, none⟩ = some (.string nb) := by rw [Lib.cell_of_heap HC3.out]; rfl
            obtain ⟨W4, hu, hM4, hg4⟩ := HUP.out w3 HM3.out
            have HM4 := Lib.hid hM4
            have HB4 : Hid (Below w.heap.size w W4) := Lib.hid (HB3.out.grown hg4 HB3.out.size (fun k hk => by injection hk with hk; have := HBM.out; omega))
            clear hb hM4 hg4 d0 d1 hlk
            go_wp2_with fail
            obtain ⟨hj, hj'⟩ := HJJ.out
            go_roundg g1
            case measure => omega
            case rel => exact ⟨i + 1, _, by first | rfl | go_num, ⟨by omega, by omega⟩, by simp only [List.length_cons]; omega, HM4, HB4, HF⟩
theorem lnamed_any (A : List (List UInt8 × List Cel)) (u : Value) (w : World) (hA : ArgSl u A w) (hs : ArgsSm A) (hE : EnvU w) :
    Calls Tryz.prog 41 #[u] w fun e w' => e = .returned (.bool (namedB [] A)) ∧ Below w.heap.size w w' := by
  rcases hA with ⟨a, c, rfl, rfl⟩ | ⟨b, off, cap, rfl, hrow, hpos⟩
  · exact lnamed_none a c w
  · exact lnamed_go A b off cap w hrow hpos hs hE
end Go.Proofs.YtfagaflgdlomiaaGreatDoor
namespace Go.Proofs.YtfagaflgdlomiaaGreatDoor
open Go.RowKit
theorem namedB_ok : ∀ (nm : List (List UInt8)) (A : List (List UInt8 × List Cel)), namedB nm A = true → (∀ x ∈ A, SmallV x.2) → ArgsOk A
  | _, [], _, _ => fun x h => by cases h
  | nm, x :: r, h, hs => by
    rw [namedB] at h
    simp only [Bool.and_eq_true] at h
    have hm : mayB x.2 = true := by have := h.1.2; unfold litB at this; simp only [Bool.and_eq_true] at this; exact this.1
    obtain ⟨h1, h2, h3⟩ := mayB_parts hm
    have ih := namedB_ok _ r h.2 (fun y hy => hs y (by simp [hy]))
    intro y hy
    rcases List.mem_cons.1 hy with rfl | hy
    · exact ⟨h1, h2, fun c hc => ((hs y (by simp)).2 c hc).2.2, h3⟩
    · exact ih y hy
def atoksE (A : List (List UInt8 × List Cel)) : Int := if namedB [] A then 0 else 8
def atoksL (A : List (List UInt8 × List Cel)) : List Tok := if namedB [] A then argsK A else []
theorem OwnT.slf {B : Nat} {v : Value} {L : List Tok} {W : World} (h : OwnT B v L W) : ∃ a n c, v = .slice a n c := by
  rcases h.2 with ⟨e1, _⟩ | ⟨g, cap, cur, e1, _⟩
  · exact ⟨_, _, _, e1⟩
  · exact ⟨_, _, _, e1⟩
set_option maxRecDepth 100000 in
theorem argtoks_any (A : List (List UInt8 × List Cel)) (u : Value) (w : World) (hA : ArgSl u A w) (hu : ∃ a n c, u = .slice a n c) (hs : ArgsSm A) (hroom : roomA A ≤ 80000) (hE : EnvU w) (hT : EnvT w) :
    Calls Tryz.prog 55 #[u] w fun e w' => (∃ v, e = .returned (.tuple #[v, .int .i64 (atoksE A)]) ∧ OwnT w.heap.size v (atoksL A) w') ∧ Below w.heap.size w w' := by
  have HNM := Lib.hid (lnamed_any A u w hA hs hE)
  obtain ⟨a, n, c, rfl⟩ := hu
  unfold atoksE atoksL
  have HS := Lib.hid hs
  have HA := Lib.hid hA
  have HT := Lib.hid hT
  cases hb : namedB [] A with
  | false =>
    rw [hb] at HNM
    clear hA hs hE hT hb hroom
    go_enter Tryz.func55, Tryz.ntmps55
    go_wp2_with fail
    refine HNM.out.mono ?_; rintro e w1 ⟨rfl, hb⟩
    have HB := Lib.hid hb
    clear hb
    go_wp2_with fail
    go_ret2
    exact ⟨⟨_, rfl, OwnT.nil _ _⟩, HB.out⟩
  | true =>
    rw [hb] at HNM
    have HOK := Lib.hid (namedB_ok [] A hb fun x hx => (hs.2 x hx).2)
    have hal := hs.1
    clear hA hs hE hT hb
    go_enter Tryz.func55, Tryz.ntmps55
    go_wp2_with fail
    refine HNM.out.mono ?_; rintro e w1 ⟨rfl, hb⟩
    have hz := hb.size
    have hb2 : Below w.heap.size w (w1.alloc (.cells #[.slice none 0 0] 95 (0, 0))) := hb.alloc hz _
    have HB2 := Lib.hid hb2
    have HP : Hid (PutS w1.heap.size (.slice none 0 0) [] (w1.alloc (.cells #[.slice none 0 0] 95 (0, 0)))) := Lib.hid ⟨heap_new _ _ _ rfl, OwnT.nil _ _⟩
    have HUP := Lib.hid (up_args w1 A w1.heap.size _ (ArgSl.below HA.out hb) HOK.out hal (HT.out.stays hb) (Nat.le_refl _) _ _ [] HP.out ((Below.refl _ _).alloc (Nat.le_refl _) _) (by simp; omega))
    clear hb hb2
    go_wp2_with fail
    refine HUP.out.mono ?_; rintro e w3 ⟨rfl, ⟨v3, h3⟩, hk3⟩
    have h3c := h3.cell
    have HP3 := Lib.hid h3
    have HB3 : Hid (Below w.heap.size w w3) := Lib.hid (HB2.out.trans (hk3.1.mono hz))
    obtain ⟨a3, n3, c3, rfl⟩ := h3.2.slf
    clear h3 hk3
    go_wp2_with fail
    go_ret2
    refine ⟨⟨_, rfl, ?_⟩, HB3.out⟩
    have := HP3.out.2.lessU (B' := w.heap.size) (by omega)
    simpa using this
/-- A directive's tokens; directives'. -/
def dirK (x : List UInt8 × List (List UInt8 × List Cel)) : List Tok := mkT [64] :: nmT x.1 :: argsK x.2
def dirB (x : List UInt8 × List (List UInt8 × List Cel)) : Bool := nameB x.1 && namedB [] x.2
def dtoksE (D : List (List UInt8 × List (List UInt8 × List Cel))) : Int := if D.all dirB then 0 else 8
def dtoksL (D : List (List UInt8 × List (List UInt8 × List Cel))) : List Tok := if D.all dirB then D.flatMap dirK else []
def roomD : List (List UInt8 × List (List UInt8 × List Cel)) → Nat
  | [] => 0
  | x :: r => 4 + roomA x.2 + roomD r
theorem argsK_le (A : List (List UInt8 × List Cel)) (h : ArgsOk A) : (argsK A).length ≤ roomA A + 2 := by
  unfold argsK
  have := argsK_len A h
  split
  · simp
  · simp only [List.length_cons, List.length_append, List.length_nil]; omega
def DirsSm (D : List (List UInt8 × List (List UInt8 × List Cel))) : Prop := D.length ≤ 100000 ∧ ∀ x ∈ D, x.1.length ≤ 1000000 ∧ ArgsSm x.2
set_option maxRecDepth 100000 in
theorem dirtoks_none (a : Option Addr) (c : Nat) (w : World) :
    Calls Tryz.prog 12 #[.slice a 0 c] w fun e w' => e = .returned (.tuple #[.slice none 0 0, .int .i64 0]) ∧ Below w.heap.size w w' := by
  have HB : Hid (Below w.heap.size w (w.alloc (.cells #[.slice none 0 0] 95 (0, 0)))) := Lib.hid ((Below.refl _ _).alloc (Nat.le_refl _) _)
  go_enter Tryz.func12, Tryz.ntmps12
  go_wp2_with fail
  refine wp_loop_rounds 1 ?_; rw [rounds_succ]
  go_wp2_with fail
  go_ret2
  exact ⟨rfl, HB.out⟩
set_option maxRecDepth 100000 in
set_option maxHeartbeats 4000000 in
theorem dirtoks_go (D : List (List UInt8 × List (List UInt8 × List Cel))) (b off cap : Nat) (w : World) (hA : XRow ArgSl b off D w) (hpos : 0 < D.length) (hs : DirsSm D) (hroom : roomD D ≤ 80000) (hE : EnvU w) (hT : EnvT w) :
    Calls Tryz.prog 12 #[.slice (some ⟨b, off, none⟩) D.length cap] w fun e w' => (∃ v, e = .returned (.tuple #[v, .int .i64 (dtoksE D)]) ∧ OwnT w.heap.size v (dtoksL D) w') ∧ Below w.heap.size w w' := by
  have HA := Lib.hid hA
  have HS := Lib.hid hs.2
  have hl := hs.1
  have HE := Lib.hid hE
  have HT := Lib.hid hT
  obtain ⟨ZE, hZE⟩ : ∃ ZE, dtoksE D = ZE := ⟨_, rfl⟩
  obtain ⟨ZL, hZL⟩ : ∃ ZL, dtoksL D = ZL := ⟨_, rfl⟩
  rw [hZE, hZL]
  -- what is still to come, told from where it is
  have HQ0 : Hid ((D.drop 0).all dirB = true → ZE = 0 ∧ ([] : List Tok) ++ (D.drop 0).flatMap dirK = ZL) := Lib.hid fun h => by
    rw [List.drop_zero] at h ⊢
    unfold dtoksE at hZE
    unfold dtoksL at hZL
    rw [h] at hZE hZL
    exact ⟨hZE.symm, by rw [← hZL]; simp⟩
  have HN0 : Hid ((D.drop 0).all dirB = false → ZE = 8 ∧ ZL = []) := Lib.hid fun h => by
    rw [List.drop_zero] at h
    unfold dtoksE at hZE
    unfold dtoksL at hZL
    rw [h] at hZE hZL
    exact ⟨hZE.symm, hZL.symm⟩
  have HR0 : Hid (([] : List Tok).length + roomD (D.drop 0) ≤ 80000) := Lib.hid (by simpa using hroom)
  obtain ⟨n, hn⟩ : ∃ n, D.length = n := ⟨_, rfl⟩
  have HN := Lib.hid hn
  rw [hn]
  rw [hn] at hl hpos
  obtain ⟨q, hq⟩ : ∃ q, w.heap.size = q := ⟨_, rfl⟩
  obtain ⟨w1, hw1⟩ : ∃ w1, w.alloc (.cells #[.slice none 0 0] 95 (0, 0)) = w1 := ⟨_, rfl⟩
  have HB1 : Hid (Below w.heap.size w w1) := Lib.hid (by rw [← hw1]; exact (Below.refl _ _).alloc (Nat.le_refl _) _)
  have HP1 : Hid (PutS q (.slice none 0 0) [] w1) := Lib.hid ⟨by rw [← hw1, ← hq]; exact heap_new _ _ _ rfl, OwnT.nil _ _⟩
  have HW1 := Lib.hid hw1
  have HQQ := Lib.hid hq
  clear hA hs hE hT hZE hZL hn hq hw1 hroom
  go_enter Tryz.func12, Tryz.ntmps12
  go_wp2_with fail
  try rw [HW1.out]
  try simp only [HQQ.out]
  go_loopg [11] n (fun gk iv wr => ∃ (i : Nat) (L1 : List Tok) (pv : Value), iv = .int .i64 (i : Int) ∧ (gk + i ≤ n ∧ n ≤ gk + i) ∧ Hid (PutS q pv L1 wr) ∧ Hid (Below w.heap.size w wr) ∧ Hid (L1.length + roomD (D.drop i) ≤ 80000) ∧ Hid ((D.drop i).all dirB = true → ZE = 0 ∧ L1 ++ (D.drop i).flatMap dirK = ZL) ∧ Hid ((D.drop i).all dirB = false → ZE = 8 ∧ ZL = []))
  case atStart => exact ⟨0, [], _, by go_num, ⟨by omega, by omega⟩, HP1, HB1, HR0, HQ0, HN0⟩
  case round =>
    clear HP1 HB1 HR0 HQ0 HN0 HW1
    rename World => wr
    obtain ⟨i, L1, pv, rfl, ⟨hj, hj'⟩, HP, HB, HRM, HQ, HNO⟩ := hrel
    have hL1 : L1.length ≤ 80000 := by have := HRM.out; omega
    by_cases hg0 : gk = 0
    · subst hg0
      have hlt : ¬ (i : Int) < (n : Int) := by omega
      have hdn : D.drop i = [] := List.drop_of_length_le (by have := HN.out; omega)
      have HF : Hid (ZE = 0 ∧ L1 = ZL) := Lib.hid (by have := HQ.out (by rw [hdn]; rfl); rw [hdn] at this; simpa using this)
      have h3c := HP.out.cell
      obtain ⟨a3, n3, c3, rfl⟩ := HP.out.2.slf
      clear hj hj' hdn
      go_wp2_with fail
      go_ret2
      refine ⟨⟨.slice a3 n3 c3, by rw [HF.out.1]; rfl, ?_⟩, HB.out⟩
      rw [← HF.out.2]
      exact HP.out.2.lessU (by have := HQQ.out; omega)
    · obtain ⟨g1, rfl⟩ : ∃ g1, gk = g1 + 1 := ⟨gk - 1, by omega⟩
      have hil : i < D.length := by have := HN.out; omega
      clear hg0
      have hbw := HB.out
      obtain ⟨e0, a, vn, c, e1, hy⟩ := HA.out i hil
      obtain ⟨hx1, hx2⟩ := HS.out D[i] (List.getElem_mem hil)
      have r0 : wr.cell? ⟨b, off + i * 2, none⟩ = some (.string ⟨(D[i]'hil).1.toArray⟩) := (hbw.cell (p := ⟨b, _, none⟩) (lt_of_cell e0)).trans e0
      have r1 : wr.cell? ⟨b, off + i * 2 + 1, none⟩ = some (.slice a vn c) := (hbw.cell (p := ⟨b, _, none⟩) (lt_of_cell e0)).trans e1
      have hq1 := HQ.out
      have hq2 := HNO.out
      have hrm := HRM.out
      rw [List.drop_eq_getElem_cons hil] at hq1 hq2 hrm
      rw [roomD] at hrm
      simp only [List.all_cons, List.flatMap_cons] at hq1 hq2
      have HNA : Hid (∀ W, Below w.heap.size w W → Calls Tryz.prog 41 #[.slice a vn c] W fun e w' => e = .returned (.bool (namedB [] (D[i]'hil).2)) ∧ Below W.heap.size W w') := Lib.hid fun W hW => lnamed_any _ _ W (ArgSl.below hy hW) hx2 (HE.out.below hW)
      have HPA : Hid (namedB [] (D[i]'hil).2 = true → (argsK (D[i]'hil).2).length ≤ roomA (D[i]'hil).2 + 2 ∧ ∀ (W : World) (pv : Value) (L : List Tok), Below w.heap.size w W → PutS q pv L W → L.length + 2 + roomA (D[i]'hil).2 ≤ 90000 → Calls Tryz.prog 43 #[.pointer (some ⟨q, 0, none⟩), .slice a vn c] W fun e w' => e = .returned (.tuple #[]) ∧ (∃ v', PutS q v' (L ++ argsK (D[i]'hil).2) w') ∧ RK q W w') := Lib.hid fun hb => by
        have hok := namedB_ok [] _ hb fun x hx => (hx2.2 x hx).2
        exact ⟨argsK_le _ hok, fun W pv L hW hP hr => up_args w (D[i]'hil).2 q _ hy hok hx2.1 HT.out (by have := HQQ.out; omega) W pv L hP hW (by omega)⟩
      obtain ⟨nb, hnb⟩ : ∃ nb : ByteArray, (⟨(D[i]'hil).1.toArray⟩ : ByteArray) = nb := ⟨_, rfl⟩
      have hnd : (D[i]'hil).1 = nb.data.toList := by rw [← hnb]
      have hnz : nb.size ≤ 1000000 := by rw [← bsz, ← hnd]; exact hx1
      rw [hnb] at r0
      have HNM : Hid (∀ W, Calls Tryz.prog 31 #[.string nb] W fun e w' => e = .returned (.bool (nameB nb.data.toList)) ∧ W = w') := Lib.hid fun W => lname_any nb hnz W
      have hdb : dirB (D[i]'hil) = (nameB nb.data.toList && namedB [] (D[i]'hil).2) := by unfold dirB; rw [hnd]
      have hdk : dirK (D[i]'hil) = mkT [64] :: ⟨1, nb.data.toList, 0⟩ :: argsK (D[i]'hil).2 := by unfold dirK; rw [hnd]; rfl
      rw [hdb] at hq1 hq2
      rw [hdk] at hq1
      have HQ1 := Lib.hid hq1
      have HQ2 := Lib.hid hq2
      have HRM2 := Lib.hid hrm
      clear e0 e1 hy hx1 hx2 hnb hnd hq1 hq2 hbw hdb hdk hrm
      generalize argsK (D[i]'hil).2 = ak at *
      generalize roomA (D[i]'hil).2 = ra at *
      generalize namedB [] (D[i]'hil).2 = lb at *
      generalize nameB nb.data.toList = nbb at *
      have i1 : (i : Int).toNat = i := by omega
      have i2 : (0 : Int) ≤ (i : Int) := by omega
      have i3 : (i : Int) < (n : Int) := by omega
      have i4 : IntKind.i64.wrap ((i : Int) + 1) = ((i + 1 : Nat) : Int) := by rw [IntWalk.i64_in _ (by omega)]; omega
      have HZb := HB.out.size
      have hqr := HP.out.lt
      obtain ⟨w2, hw2⟩ : ∃ w2, wr.alloc (.cells #[.string nb, .slice a vn c] 98 (0, 0)) = w2 := ⟨_, rfl⟩
      have hb2 : Below wr.heap.size wr w2 := by rw [← hw2]; exact (Below.refl _ _).alloc (Nat.le_refl _) _
      have HB2 : Hid (Below w.heap.size w w2) := Lib.hid (HB.out.trans (hb2.mono HZb))
      have HP2 := Lib.hid (HP.out.below hb2)
      have HC2 : Hid (w2.heap[wr.heap.size]? = some (.cells #[.string nb, .slice a vn c] 98 (0, 0))) := Lib.hid (by rw [← hw2]; exact heap_new _ _ _ rfl)
      have d0 : w2.cell? ⟨wr.heap.size, 0, none⟩ = some (.string nb) := by rw [Lib.cell_of_heap HC2.out]; rfl
      have d1 : w2.cell? ⟨wr.heap.size, 1, none⟩ = some (.slice a vn c) := by rw [Lib.cell_of_heap HC2.out]; rfl
      have hcq : wr.heap.size ≠ q := by omega
      have HW2 := Lib.hid hw2
      have HJJ := Lib.hid (And.intro hj hj')
      clear hb2 hw2 hj hj' hil
      cases nbb with
      | false =>
        have HF : Hid (ZE = 8 ∧ ZL = []) := Lib.hid (HQ2.out (by simp))
        go_upto_region 5 with fail
        rw [HW2.out]
        go_wp2_with fail
        refine (HNM.out w2).mono ?_; rintro e w3 ⟨rfl, rfl⟩
        go_wp2_with fail
        go_ret2
        exact ⟨⟨.slice none 0 0, by rw [HF.out.1]; rfl, by rw [HF.out.2]; exact OwnT.nil _ _⟩, HB2.out⟩
      | true =>
        cases lb with
        | false =>
          have HF : Hid (ZE = 8 ∧ ZL = []) := Lib.hid (HQ2.out (by simp))
          go_upto_region 5 with fail
          rw [HW2.out]
          go_wp2_with fail
          refine (HNM.out w2).mono ?_; rintro e w3 ⟨rfl, rfl⟩
          go_wp2_with fail
          refine (HNA.out w2 HB2.out).mono ?_; rintro e w3 ⟨rfl, hb⟩
          have HB3 := Lib.hid (HB2.out.trans (hb.mono HB2.out.size))
          clear hb
          go_wp2_with fail
          go_ret2
          exact ⟨⟨.slice none 0 0, by rw [HF.out.1]; rfl, by rw [HF.out.2]; exact OwnT.nil _ _⟩, HB3.out⟩
        | true =>
          obtain ⟨hak, hpa⟩ := HPA.out rfl
          have HPX := Lib.hid hpa
          have HRN : Hid (L1.length + 2 + ak.length + roomD (D.drop (i + 1)) ≤ 80000 ∧ L1.length + 4 + ra ≤ 80000) := Lib.hid ⟨by have := HRM2.out; omega, by have := HRM2.out; omega⟩
          have HFY : Hid ((D.drop (i + 1)).all dirB = true → ZE = 0 ∧ (((L1 ++ [mkT [64]]) ++ [⟨1, nb.data.toList, 0⟩]) ++ ak) ++ (D.drop (i + 1)).flatMap dirK = ZL) := Lib.hid fun h => by
            have := HQ1.out (by simp [h])
            exact ⟨this.1, by rw [← this.2]; simp⟩
          have HFN : Hid ((D.drop (i + 1)).all dirB = false → ZE = 8 ∧ ZL = []) := Lib.hid fun h => HQ2.out (by simp [h])
          clear hpa
          go_upto_region 5 with fail
          rw [HW2.out]
          go_wp2_with fail
          refine (HNM.out w2).mono ?_; rintro e w3 ⟨rfl, rfl⟩
          go_wp2_with fail
          refine (HNA.out w2 HB2.out).mono ?_; rintro e w3 ⟨rfl, hb⟩
          have HB3 := Lib.hid (HB2.out.trans (hb.mono HB2.out.size))
          have HP3 := Lib.hid (HP2.out.below hb)
          have HC3 := Lib.hid ((hb.block _ (heap_lt HC2.out)).trans HC2.out)
          clear hb d0 d1
          generalize wr.heap.size = cb at *
          have hq3 := HP3.out.lt
          have hz3 := HB3.out.size
          have hb4 : Below w3.heap.size w3 (w3.alloc (.cells #[.string ⟨#[64]⟩] 9 (0, 0))) := (Below.refl _ _).alloc (Nat.le_refl _) _
          have HP4 := Lib.hid (HP3.out.below hb4)
          have HB4 := Lib.hid (HB3.out.trans (hb4.mono hz3))
          have HC4 := Lib.hid ((hb4.block cb (heap_lt HC3.out)).trans HC3.out)
          have hne4 : w3.heap.size ≠ q := by omega
          clear hb4
          go_wp2_with fail
          refine (put_add q pv L1 4 4 rfl ⟨#[64]⟩ _ 1 _ HP4.out (new_cell0 _ _ _) hne4 (by omega)).mono ?_; rintro e w5 ⟨rfl, ⟨pv5, hx1⟩, hx2⟩
          have HP5 : Hid (PutS q pv5 (L1 ++ [mkT [64]]) w5) := Lib.hid hx1
          have HB5 : Hid (Below w.heap.size w w5) := Lib.hid (HB4.out.trans (hx2.1.mono (by have := HQQ.out; omega)))
          have HC5 := Lib.hid (hx2.2 _ _ HC4.out hcq)
          have d0 : w5.cell? ⟨cb, 0, none⟩ = some (.string nb) := by rw [Lib.cell_of_heap HC5.out]; rfl
          have hz5 := HB5.out.size
          have hq5 := HP5.out.lt
          clear hx1 hx2 HP4 HB4 HC4 hne4 hz3 hq3
          have hb6 : Below w5.heap.size w5 (w5.alloc (.cells #[.string nb] 9 (0, 0))) := (Below.refl _ _).alloc (Nat.le_refl _) _
          have HP6 := Lib.hid (HP5.out.below hb6)
          have HB6 := Lib.hid (HB5.out.trans (hb6.mono hz5))
          have HC6 := Lib.hid ((hb6.block cb (heap_lt HC5.out)).trans HC5.out)
          have hne6 : w5.heap.size ≠ q := by omega
          clear hb6
          go_wp2_with fail
          refine (put_add q pv5 _ 1 1 rfl nb _ 1 _ HP6.out (new_cell0 _ _ _) hne6 (by simp only [List.length_append, List.length_cons, List.length_nil]; omega)).mono ?_; rintro e w7 ⟨rfl, ⟨pv7, hx1⟩, hx2⟩
          have HP7 : Hid (PutS q pv7 ((L1 ++ [mkT [64]]) ++ [⟨1, nb.data.toList, 0⟩]) w7) := Lib.hid hx1
          have HB7 : Hid (Below w.heap.size w w7) := Lib.hid (HB6.out.trans (hx2.1.mono (by have := HQQ.out; omega)))
          have HC7 := Lib.hid (hx2.2 _ _ HC6.out hcq)
          have d1 : w7.cell? ⟨cb, 1, none⟩ = some (.slice a vn c) := by rw [Lib.cell_of_heap HC7.out]; rfl
          clear hx1 hx2 HP6 HB6 HC6 hne6 d0
          go_wp2_with fail
          refine (HPX.out w7 pv7 _ HB7.out HP7.out (by have := HRN.out; simp only [List.length_append, List.length_cons, List.length_nil]; omega)).mono ?_; rintro e w8 ⟨rfl, ⟨pv8, hx1⟩, hx2⟩
          have HP8 := Lib.hid hx1
          have HB8 : Hid (Below w.heap.size w w8) := Lib.hid (HB7.out.trans (hx2.1.mono (by have := HQQ.out; omega)))
          clear hx1 hx2
          go_wp2_with fail
          obtain ⟨hj, hj'⟩ := HJJ.out
          go_roundg g1
          case measure => omega
          case rel => exact ⟨i + 1, _, pv8, by first | rfl | go_num, ⟨by omega, by omega⟩, HP8, HB8, Lib.hid (by have := HRN.out; simp only [List.length_append, List.length_cons, List.length_nil]; omega), HFY, HFN⟩
theorem dirtoks_any (D : List (List UInt8 × List (List UInt8 × List Cel))) (u : Value) (w : World) (hA : DirSl u D w) (hs : DirsSm D) (hroom : roomD D ≤ 80000) (hE : EnvU w) (hT : EnvT w) :
    Calls Tryz.prog 12 #[u] w fun e w' => (∃ v, e = .returned (.tuple #[v, .int .i64 (dtoksE D)]) ∧ OwnT w.heap.size v (dtoksL D) w') ∧ Below w.heap.size w w' := by
  rcases hA with ⟨a, c, rfl, rfl⟩ | ⟨b, off, cap, rfl, hrow, hpos⟩
  · refine (dirtoks_none a c w).mono ?_
    rintro e w' ⟨rfl, hb⟩
    exact ⟨⟨_, rfl, OwnT.nil _ _⟩, hb⟩
  · exact dirtoks_go D b off cap w hrow hpos hs hroom hE hT
end Go.Proofs.YtfagaflgdlomiaaGreatDoor
namespace Go.Proofs.YtfagaflgdlomiaaGreatDoor
open Go.Lib
/-- May wrappers be, behind one? -/
def typB : UInt8 → List UInt8 → Bool
  | _, [] => true
  | last, w :: r => (w == 1 || w == 2) && !(w == 1 && last == 1) && typB w r
/-- A type's tokens. -/
def typK (nm : List UInt8) : List UInt8 → List Tok
  | [] => [nmT nm]
  | w :: r => if w = 2 then mkT [91] :: (typK nm r ++ [mkT [93]]) else typK nm r ++ [mkT [33]]
end Go.Proofs.YtfagaflgdlomiaaGreatDoor
namespace Go.Proofs.YtfagaflgdlomiaaGreatDoor
open Go.RowKit Go.Shelf
attribute [local go_sem] Oper.semAt_some
/-- Wrappers as bits. -/
def wz (b : Bool) : UInt8 := if b then 2 else 1
/-- Every cell but one block's is kept. -/
def KC (p : Nat) (W W' : World) : Prop := ∀ (a : Addr) (v : Value), a.block ≠ p → W.cell? a = some v → W'.cell? a = some v
theorem KC.refl (p : Nat) (W : World) : KC p W W := fun _ _ _ h => h
theorem KC.trans {p : Nat} {A B C : World} (h : KC p A B) (k : KC p B C) : KC p A C := fun a v ha hc => k a v ha (h a v ha hc)
theorem KC.book {p : Nat} (W : World) (l : Nat) (o o' : Obj) (hl : W.heap[l]? = some o) (ho : o.isCells = false) : KC p W (W.putObj l o') := fun a v _ hc => cell_kept hc (grownBy_putObj' W l o') (fun r e => by cases e; exact ⟨o, hl, ho⟩)
theorem KC.of_rk {p : Nat} {W W' : World} (h : RK p W W') : KC p W W' := fun a v ha hc => by
  obtain ⟨o, ho, _⟩ := cells_of_cell hc
  exact (World.cell?_of_block (w := W) ((h.2 _ o ho ha).trans ho.symm)).trans hc
theorem KC.of_below {p : Nat} {W W' : World} (h : Below W.heap.size W W') : KC p W W' := fun a v ha hc => by
  obtain ⟨o, ho, _⟩ := cells_of_cell hc
  exact (h.cell (p := a) (heap_lt ho)).trans hc
theorem backward_c (a : Option Addr) (len cap : Nat) (w : World) :
    Calls Tryz.prog 48 #[.slice a len cap] w fun e w' => e = .returned (.func (.func 71) #[] #[.pointer (some ⟨w.heap.size, 0, none⟩)]) ∧ w' = w.alloc (.cells #[.slice a len cap] 33) := by
  go_enter Tryz.func48, Tryz.ntmps48
  go_wp2_with fail
  go_ret
  exact ⟨rfl, rfl⟩
/-- What has come when k rounds are over. -/
def bk (bs : List Bool) (k : Nat) : List (Nat × Bool) := (List.range k).map fun j => (bs.length - 1 - j, bs[bs.length - 1 - j]?.getD false)
theorem bk_succ (bs : List Bool) (k : Nat) : bk bs (k + 1) = bk bs k ++ [(bs.length - 1 - k, bs[bs.length - 1 - k]?.getD false)] := by simp [bk, List.range_succ]
theorem bk_length (bs : List Bool) (k : Nat) : (bk bs k).length = k := by simp [bk]
theorem bk_all (bs : List Bool) : (bk bs bs.length).map (·.2) = bs.reverse := by
  apply List.ext_getElem
  · simp [bk]
  · intro i h1 h2
    have hi : i < bs.length := by simpa using h2
    have hj : bs.length - 1 - i < bs.length := by omega
    simp [bk, hj]
set_option maxRecDepth 100000 in
set_option maxHeartbeats 2000000 in
theorem back1_in (F : Fence) (n : Nat) (h7 : F.fn 71) (hro : F.round = none) (hn : 1 ≤ n) (l Bs p m cap : Nat) (ao : Option Addr) (bs : List Bool) (hm : m = bs.length) (hsz : m ≤ 1000000) (hBp : Bs ≠ p) (J Jx : List (Nat × Bool) → World → Prop)
    (hY : ∀ pre x W, J pre W → pre.length < m → YieldAt F (n - 1) Tryz.prog l #[.int .i64 (x.1 : Int), .int .u8 ((wz x.2).toNat : Int)] W fun e W' =>
      (e = .returned (.bool true) ∧ J (pre ++ [x]) W' ∧ KC p W W') ∨ (e = .returned (.bool false) ∧ Jx (pre ++ [x]) W'))
    (W : World) (hBs : W.cell? ⟨Bs, 0, none⟩ = some (.slice ao m cap)) (hao : 0 < m → ∃ b off, ao = some ⟨b, off, none⟩ ∧ b ≠ p ∧ ∀ j, j < m → W.cell? ⟨b, off + j, none⟩ = some (.int .u8 ((wz (bs[j]?.getD false)).toNat : Int))) (h0 : J [] W) :
    CallsIn F n Tryz.prog 71 #[.func (.yield l) #[] #[], .pointer (some ⟨Bs, 0, none⟩)] W fun e W' => (∃ v, e = .returned v) ∧
      ((∃ ys, ys = bk bs m ∧ J ys W') ∨ (∃ pre, (∃ k, k ≤ m ∧ pre = bk bs k) ∧ Jx pre W')) := by
  have HY := Lib.hid hY
  have HA := Lib.hid hao
  have HM := Lib.hid hm
  have HB := Lib.hid hBp
  have HBS := Lib.hid hBs
  have i0 : IntKind.i64.wrap ((m : Int) - 1) = (m : Int) - 1 := IntWalk.i64_in _ (by omega)
  clear hY hao hm hBp
  refine callsIn_of_wp Tryz.func71 rfl h7 ?_ hro
  simp only [Tryz.ntmps71, List.size_toArray, List.length_cons, List.length_nil, Nat.reduceAdd, Nat.reduceSub, Array.replicate_succ, Array.replicate_zero, List.push_toArray, List.append_toArray, List.nil_append, List.cons_append]
  gi_wp2
  clear hBs
  gi_loopw [3] (fun i wr => ∃ (k : Nat) (iv : Int), k ≤ m ∧ i = .int .i64 iv ∧ Hid (iv = (m : Int) - 1 - (k : Int)) ∧ Hid (J (bk bs k) wr) ∧ Hid (KC p W wr))
    (fun i _ => (intOf i + 1).toNat)
  case atStart => exact ⟨0, _, Nat.zero_le _, rfl, Lib.hid (by simp), Lib.hid h0, Lib.hid (KC.refl _ _)⟩
  case round =>
    clear h0 i0
    obtain ⟨k, iv, hk, rfl, HI, HJ, HK⟩ := hrel
    have hcx : wr.cell? ⟨Bs, 0, none⟩ = some (.slice ao m cap) := HK.out _ _ HB.out HBS.out
    by_cases hlt : k < m
    · obtain ⟨b, off, rfl, hbp, hcs⟩ := HA.out (by omega)
      obtain ⟨q, hq⟩ : ∃ q, q = m - 1 - k := ⟨_, rfl⟩
      have hiv : iv = (q : Int) := by have := HI.out; omega
      subst hiv
      have hqm : q < m := by omega
      have hrow := HK.out ⟨b, off + q, none⟩ _ hbp (hcs q hqm)
      have HQ : Hid (bk bs (k + 1) = bk bs k ++ [(q, bs[q]?.getD false)]) := Lib.hid (by rw [bk_succ, ← HM.out, ← hq])
      generalize bs[q]?.getD false = bb at hrow HQ
      obtain ⟨fn, tmps, assign, body, hy, hR⟩ := HY.out _ (q, bb) wr HJ.out (by rw [bk_length]; exact hlt)
      dsimp only at hy
      obtain ⟨ui, hui⟩ : ∃ ui : Int, ((wz bb).toNat : Int) = ui := ⟨_, rfl⟩
      rw [hui] at hy hrow
      have i1 : (q : Int).toNat = q := by omega
      have i2 : (0 : Int) ≤ (q : Int) := by omega
      have i3 : (q : Int) < (m : Int) := by omega
      have i4 : IntKind.i64.wrap ((q : Int) - 1) = (q : Int) - 1 := IntWalk.i64_in _ (by omega)
      have HQK := Lib.hid hq
      clear hcs hui hq
      gi_wp2
      refine hR.mono ?_
      rintro e W3 (⟨rfl, hJ3, hk3⟩ | ⟨rfl, hJx3⟩)
      · have HJ3 : Hid (J (bk bs (k + 1)) W3) := Lib.hid (by rw [HQ.out]; exact hJ3)
        have HK3 : Hid (KC p W W3) := Lib.hid (HK.out.trans hk3)
        clear hJ3 hk3 hR
        gi_wp2
        go_roundw
        case rel => exact ⟨k + 1, _, by omega, rfl, Lib.hid (by have := HQK.out; omega), HJ3, HK3⟩
        case measure => first | (simp [intOf]; done) | (simp [intOf]; omega)
      · have HX3 : Hid (Jx (bk bs (k + 1)) W3) := Lib.hid (by rw [HQ.out]; exact hJx3)
        clear hJx3 hR
        gi_wp2
        refine bodyPost_ret (results_none rfl _ _ _) rfl ?_
        exact ⟨⟨_, rfl⟩, .inr ⟨_, ⟨k + 1, by omega, rfl⟩, HX3.out⟩⟩
    · obtain rfl : k = m := by omega
      have hiv : iv = -1 := by have := HI.out; omega
      subst hiv
      gi_wp2
      go_end0
      exact ⟨⟨_, rfl⟩, .inl ⟨_, rfl, HJ.out⟩⟩
theorem back_stops (F : Fence) (n : Nat) (h7 : F.fn 71) (hro : F.round = none) (hn : 1 ≤ n) (Bs p : Nat) (ao : Option Addr) (m cap : Nat) (bs : List Bool) (hm : m = bs.length) (hsz : m ≤ 1000000) (hBp : Bs ≠ p) (w : World) (hBs : w.cell? ⟨Bs, 0, none⟩ = some (.slice ao m cap))
    (hao : 0 < m → ∃ b off, ao = some ⟨b, off, none⟩ ∧ b ≠ p ∧ ∀ j, j < m → w.cell? ⟨b, off + j, none⟩ = some (.int .u8 ((wz (bs[j]?.getD false)).toNat : Int))) :
    SeqStopsK F n Tryz.prog 71 #[.pointer (some ⟨Bs, 0, none⟩)] (fun x : Nat × Bool => #[Value.int .i64 (x.1 : Int), Value.int .u8 ((wz x.2).toNat : Int)]) (KC p) (fun ys => ys = bk bs m) (fun pre => ∃ k, k ≤ m ∧ pre = bk bs k) m w := fun l J Jx W hW _ _ hY h0 =>
  back1_in F n h7 hro hn l Bs p m cap ao bs hm hsz hBp J Jx hY W (KC.of_below (p := Bs + 1) hW _ _ (by simp) hBs) (fun h => by
    obtain ⟨b, off, h1, h2, h3⟩ := hao h
    exact ⟨b, off, h1, h2, fun j hj => KC.of_below (p := b + 1) hW _ _ (by simp) (h3 j hj)⟩) h0
end Go.Proofs.YtfagaflgdlomiaaGreatDoor
namespace Go.Proofs.YtfagaflgdlomiaaGreatDoor
def wmk (b : Bool) : Tok := if b then mkT [93] else mkT [33]
def wop (b : Bool) : List Tok := if b then [mkT [91]] else []
theorem typB_bits : ∀ (ws : List UInt8) (last : UInt8), typB last ws = true → ∃ bs : List Bool, ws = bs.map wz
  | [], _, _ => ⟨[], rfl⟩
  | w :: r, last, h => by
    unfold typB at h
    simp only [Bool.and_eq_true, Bool.or_eq_true, beq_iff_eq] at h
    obtain ⟨⟨hw, _⟩, hr⟩ := h
    obtain ⟨bs, hb⟩ := typB_bits r w hr
    rcases hw with rfl | rfl
    · exact ⟨false :: bs, by rw [hb]; rfl⟩
    · exact ⟨true :: bs, by rw [hb]; rfl⟩
theorem typK_bits (nm : List UInt8) : ∀ bs : List Bool, typK nm (bs.map wz) = bs.flatMap wop ++ nmT nm :: bs.reverse.map wmk
  | [] => rfl
  | true :: r => by
    have e : typK nm ((true :: r).map wz) = mkT [91] :: (typK nm (r.map wz) ++ [mkT [93]]) := rfl
    rw [e, typK_bits nm r]
    simp [wop, wmk]
  | false :: r => by
    have e : typK nm ((false :: r).map wz) = typK nm (r.map wz) ++ [mkT [33]] := rfl
    rw [e, typK_bits nm r]
    simp [wop, wmk]
/-- What TypeTokens answers. -/
def ttB (nm ws : List UInt8) : Bool := nameB nm && (decide (ws.length ≤ 8) && typB 2 ws)
def ttE (nm ws : List UInt8) : Int := if ttB nm ws then 0 else 8
def ttL (nm ws : List UInt8) : List Tok := if ttB nm ws then typK nm ws else []
end Go.Proofs.YtfagaflgdlomiaaGreatDoor
namespace Go.Proofs.YtfagaflgdlomiaaGreatDoor
open Go.RowKit
def TxS (L : List Tok) : Prop := ∀ t ∈ L, t.text.length ≤ 100000
theorem TxS.nil : TxS [] := fun t h => by cases h
theorem TxS.cons {t : Tok} {L : List Tok} (h : t.text.length ≤ 100000) (hL : TxS L) : TxS (t :: L) := fun x hx => by
  rcases List.mem_cons.1 hx with rfl | hx
  · exact h
  · exact hL x hx
end Go.Proofs.YtfagaflgdlomiaaGreatDoor
namespace Go.Proofs.YtfagaflgdlomiaaGreatDoor
open Go.RowKit Go.WideShapes Go.ChangeShapes Go.Joins Go.Deep
/-- Bytes in a row, read. -/
def BRow (b off : Nat) (L : List UInt8) (W : World) : Prop := ∀ (i : Nat) (h : i < L.length), W.cell? ⟨b, off + i, none⟩ = some (.int .u8 (L[i].toNat : Int))
def BSl (v : Value) (L : List UInt8) (W : World) : Prop := (∃ a cap, v = .slice a 0 cap ∧ L = []) ∨ ∃ b off cap, v = .slice (some ⟨b, off, none⟩) L.length cap ∧ BRow b off L W ∧ 0 < L.length
theorem BRow.below {b off : Nat} {L : List UInt8} {w w' : World} (h : BRow b off L w) (hb : Below w.heap.size w w') : BRow b off L w' := fun i hi => (hb.cell (p := ⟨b, _, none⟩) (lt_of_cell (h i hi))).trans (h i hi)
theorem addr_addB (b off j : Nat) : (⟨b, off, none⟩ : Addr).add j = ⟨b, off + j, none⟩ := by
  unfold Addr.add
  split
  · rename_i hz; rw [hz]; rfl
  · rfl
theorem BSl.below {v : Value} {L : List UInt8} {w w' : World} (h : BSl v L w) (hb : Below w.heap.size w w') : BSl v L w' := by
  rcases h with h | ⟨b, off, cap, h1, h2, h3⟩
  · exact Or.inl h
  · exact Or.inr ⟨b, off, cap, h1, h2.below hb, h3⟩
theorem BSl.form {v : Value} {L : List UInt8} {w : World} (h : BSl v L w) : ∃ a c, v = .slice a L.length c := by
  rcases h with ⟨a, cap, rfl, rfl⟩ | ⟨b, off, cap, rfl, h2, h3⟩
  · exact ⟨_, _, rfl⟩
  · exact ⟨_, _, rfl⟩
section
variable {H : Type} {enc : TypeId × Value → H} {w : World} {base : Nat} {spare : Nat → Bool} {held : Bool}
end
end Go.Proofs.YtfagaflgdlomiaaGreatDoor
namespace Go.Proofs.YtfagaflgdlomiaaGreatDoor
open Go.RowKit
theorem OwnT.grow {B0 B : Nat} {v : Value} {L : List Tok} {W W' : World} (h : OwnT B v L W) (hg : W.grownBy W' v.ownBlock) (hB : B0 ≤ B) (hz : B0 ≤ W.heap.size) : Below B0 W W' := (Below.refl B0 W).grown hg hz (fun k hk => Nat.le_trans hB (h.lt k hk))
end Go.Proofs.YtfagaflgdlomiaaGreatDoor
namespace Go.Proofs.YtfagaflgdlomiaaGreatDoor
open Go.RowKit
set_option maxRecDepth 100000 in
set_option maxHeartbeats 1000000 in
theorem front_big (s ms : ByteArray) (hs : s.size ≤ 9223372036854775807) (w : World) :
    Calls Tryz.prog 58 #[.string s, .string ms] w fun e w' => e = .returned (.string ⟨(fr ms.data.toList s.data.toList).toArray⟩) ∧ w = w' := by
  obtain ⟨R, hR⟩ : ∃ R, (fr ms.data.toList s.data.toList).length = R := ⟨_, rfl⟩
  have ht := fr_take ms.data.toList s.data.toList
  rw [hR] at ht
  have HT := Lib.hid ht
  have HR : Hid (0 + (fr ms.data.toList (s.data.toList.drop 0)).length = R) := Lib.hid (by rw [List.drop_zero, Nat.zero_add]; exact hR)
  rw [← ht]
  clear hR ht
  go_enter Tryz.func58, Tryz.ntmps58
  go_wp2_with fail
  go_loop [8] (fun i => ∃ k : Nat, k ≤ s.size ∧ i = .int .i64 k ∧ Hid (k + (fr ms.data.toList (s.data.toList.drop k)).length = R)) (fun i => s.size - (intOf i).toNat)
  case atStart => exact ⟨0, Nat.zero_le _, rfl, HR⟩
  case round =>
    obtain ⟨k, hk, rfl, HK⟩ := hrel
    by_cases hlt : k < s.size
    · have hd := drop_at s k hlt
      have H1 : ∀ w, Calls Tryz.prog 57 #[.string ms, .int .u8 (s[k].toNat : Int)] w fun e w' => e = .returned (.int .i64 (Lib.indexByte ms.data.toList s[k])) ∧ w = w' := fun w => by
        have := Tryz.strings_IndexByte ms (s[k].toNat : Int) w
        rw [show ((s[k].toNat : Int)).toNat.toUInt8 = s[k] by simp] at this
        exact this.mono fun e w' ⟨h1, h2⟩ => ⟨h1, h2.symm⟩
      have hf : fr ms.data.toList (s.data.toList.drop k) = if ms.data.toList.contains s[k] then s[k] :: fr ms.data.toList (s.data.toList.drop (k + 1)) else [] := by
        rw [hd]; unfold fr; rw [List.takeWhile_cons]
      rcases ib_cases s[k] ms.data.toList with ⟨g1, n, g2⟩ | ⟨g1, g2⟩
      · rw [g1] at hf
        rw [g2] at H1
        have HK2 : Hid (k + 1 + (fr ms.data.toList (s.data.toList.drop (k + 1))).length = R) := Lib.hid (by have := HK.out; rw [hf] at this; simp at this; omega)
        have HI := Lib.hid H1
        have hn : ¬ (n : Int) < 0 := by omega
        clear hf H1 g1 g2 hd
        go_wp2_with fail
        refine (HI.out _).mono ?_; rintro e w1 ⟨rfl, rfl⟩
        go_wp2_with fail
        go_round
        case rel => exact ⟨k + 1, by omega, by go_num, HK2⟩
        case measure => simp [intOf]; omega
      · rw [g1] at hf
        rw [g2] at H1
        have HK2 : Hid (k = R) := Lib.hid (by have := HK.out; rw [hf] at this; simpa using this)
        have HI := Lib.hid H1
        have b1 : (k : Int) ≤ s.size := by omega
        have b2 : (0 : Int) ≤ k := by omega
        have HX : Hid (s.extract 0 k = ⟨(s.data.toList.take R).toArray⟩) := Lib.hid (by
          rw [← HK2.out]
          apply ByteArray.ext
          apply Array.ext'
          rw [ByteArray.data_extract, Array.toList_extract, List.extract_eq_take_drop]
          simp)
        clear hf H1 g1 g2 hd
        go_wp2_with fail
        refine (HI.out _).mono ?_; rintro e w1 ⟨rfl, rfl⟩
        go_wp2_with fail
        go_ret
        exact ⟨congrArg (fun z : ByteArray => Ending.returned (Value.string z)) HX.out, rfl⟩
    · have HX : Hid (s = ⟨(s.data.toList.take R).toArray⟩) := Lib.hid (by
        have := HK.out
        rw [List.drop_of_length_le (by rw [Array.length_toList]; exact Nat.le_of_not_lt hlt)] at this
        have hRs : s.size ≤ R := by simp [fr] at this; omega
        rw [List.take_of_length_le (by rw [Array.length_toList]; exact hRs)])
      go_wp2_with fail
      go_ret
      exact ⟨congrArg (fun z : ByteArray => Ending.returned (Value.string z)) HX.out, rfl⟩
set_option maxRecDepth 100000 in
set_option maxHeartbeats 1000000 in
theorem lname_big (s : ByteArray) (hs : s.size ≤ 9223372036854775807) (w : World) :
    Calls Tryz.prog 31 #[.string s] w fun e w' => e = .returned (.bool (nameB s.data.toList)) ∧ w = w' := by
  rcases empty_z s with ⟨h0, h1, h2, h3⟩ | ⟨h0, h1, h2, h3⟩
  · have hr : nameB s.data.toList = (!isDig s[0] && (fr nameMs s.data.toList == s.data.toList)) := by
      rw [fr_all, show (nameMs.contains ·) = nameC from funext name_ms]
      have := head_z s h0
      rw [this]; rfl
    have H1 : ∀ w, Calls Tryz.prog 57 #[.string ⟨#[48, 49, 50, 51, 52, 53, 54, 55, 56, 57]⟩, .int .u8 (s[0].toNat : Int)] w fun e w' => e = .returned (.int .i64 (if isDig s[0] then ((s[0].toNat - 48 : Nat) : Int) else -1)) ∧ w = w' := fun w => by
      have := Tryz.strings_IndexByte ⟨#[48, 49, 50, 51, 52, 53, 54, 55, 56, 57]⟩ (s[0].toNat : Int) w
      rw [show ((s[0].toNat : Int)).toNat.toUInt8 = s[0] by simp, ib_dig] at this
      exact this.mono fun e w' ⟨h1, h2⟩ => ⟨h1, h2.symm⟩
    have H2 := Lib.hid (fun w => front_big s ⟨nameMs.toArray⟩ hs w)
    obtain ⟨r, hr2⟩ : ∃ r, nameB s.data.toList = r := ⟨_, rfl⟩
    rw [hr2]
    rw [hr2] at hr
    obtain ⟨F, hF⟩ : ∃ F : ByteArray, (⟨(fr (⟨nameMs.toArray⟩ : ByteArray).data.toList s.data.toList).toArray⟩ : ByteArray) = F := ⟨_, rfl⟩
    rw [hF] at H2
    have hc : (F.toList == s.toList) = (fr nameMs s.data.toList == s.data.toList) := by rw [← hF, ByteArray.toList_eq, ByteArray.toList_eq]
    rw [← hc] at hr
    have HR := Lib.hid hr
    unfold nameMs at H2
    clear hr hr2 hF hc
    cases hd : isDig s[0] with
    | true =>
      rw [hd] at H1 HR
      simp only [if_true] at H1
      have HI := Lib.hid H1
      have HF : Hid (false = r) := Lib.hid (by rw [HR.out]; rfl)
      clear H1 HR hd
      generalize s[0].toNat - 48 = n at *
      have hn : ¬ (n : Int) < 0 := by omega
      go_enter Tryz.func31, Tryz.ntmps31
      go_wp2_with fail
      refine (HI.out _).mono ?_; rintro e w1 ⟨rfl, rfl⟩
      go_wp2_with fail
      go_ret
      exact ⟨ret_b HF.out, rfl⟩
    | false =>
      rw [hd] at H1 HR
      simp only [Bool.false_eq_true, if_false] at H1
      have HI := Lib.hid H1
      have HF : Hid ((F.toList == s.toList) = r) := Lib.hid (by rw [HR.out]; rfl)
      clear H1 HR hd
      go_enter Tryz.func31, Tryz.ntmps31
      go_wp2_with fail
      refine (HI.out _).mono ?_; rintro e w1 ⟨rfl, rfl⟩
      go_wp2_with fail
      refine (H2.out _).mono ?_; rintro e w1 ⟨rfl, rfl⟩
      go_wp2_with fail
      go_ret
      exact ⟨ret_b HF.out, rfl⟩
  · have hr : nameB s.data.toList = false := by rw [h3]; rfl
    rw [hr]
    clear h0 h3 hr
    go_enter Tryz.func31, Tryz.ntmps31
    go_wp2_with fail
    go_ret
    exact ⟨rfl, rfl⟩
theorem calls_below {f : Nat} {args : Array Value} {w : World} {b : Bool} (h : Calls Tryz.prog f args w fun e w' => e = .returned (.bool b) ∧ w = w') : Calls Tryz.prog f args w fun e w' => e = .returned (.bool b) ∧ Below w.heap.size w w' :=
  h.mono (by rintro e w' ⟨h1, rfl⟩; exact ⟨h1, Below.refl _ _⟩)
def isV (c : Cel) : Bool := c.kind == 5
end Go.Proofs.YtfagaflgdlomiaaGreatDoor
namespace Go.Proofs.YtfagaflgdlomiaaGreatDoor
open Go.RowKit Go.Shelf
attribute [local go_sem] Oper.semAt_some
def wo (x : UInt8) : List Tok := if x = 2 then [mkT [91]] else []
theorem wo_bits (bs : List Bool) : (bs.map wz).flatMap wo = bs.flatMap wop := by
  induction bs with
  | nil => rfl
  | cons b r ih =>
    rw [List.map_cons, List.flatMap_cons, List.flatMap_cons, ih]
    cases b <;> rfl
theorem postM_ret {F : Fence} {n : Nat} {P : Program} {fn : Func} {R : Ending → World → Prop} {a : Act} {w : World} {v : Value} (hr : (results fn a.tmps).run P w = .ok v w) (hd : a.defers = []) (h : R (.returned v) w) : bodyPostM F n P fn R .ret a w := by
  show LeavesInM F n P fn a.tmps R a.defers .returning w
  rw [hd]
  exact ⟨v, hr, h⟩
theorem OwnT.kept {B : Nat} {v : Value} {L : List Tok} {W W' : World} {row : Option Nat} (h : OwnT B v L W) (hg : W.grownBy W' row) (hr : ∀ r, row = some r → ∃ o : Obj, W.heap[r]? = some o ∧ o.isCells = false) : OwnT B v L W' := by
  obtain ⟨h1, h2⟩ := h
  refine ⟨h1, ?_⟩
  rcases h2 with h2 | ⟨g, cap, cur, hv, hB, hg', hrest⟩
  · exact Or.inl h2
  · exact Or.inr ⟨g, cap, cur, hv, hB, (grownBy_keeps_cells hg hr hg' rfl).trans hg', hrest⟩
theorem PutS.kept {p : Nat} {v : Value} {L : List Tok} {W W' : World} {row : Option Nat} (h : PutS p v L W) (hg : W.grownBy W' row) (hr : ∀ r, row = some r → ∃ o : Obj, W.heap[r]? = some o ∧ o.isCells = false) : PutS p v L W' :=
  ⟨(grownBy_keeps_cells hg hr h.1 rfl).trans h.1, h.2.kept hg hr⟩
/-- A range over a function of two loop variables, whose body goes on. -/
theorem rangeF2 {P : Program} {g : Operand} {p1 p2 ps : Tmp} {assign body : Code} {Q : Exit → Act → World → Prop} {a : Act} {w : World} {gf : Nat} {lb : Array Value} (hg : a.eval g = .func (.func gf) #[] lb) (eg : ∀ args w, (callFunc gf args).run P w = .ok (.enter gf args) w)
    {p : Nat} {S Sp : List (Nat × Bool) → Prop} {N : Nat} {w0 : World} (hseq : SeqStopsK Fence.wide (3 - 1) P gf lb (fun x : Nat × Bool => #[Value.int .i64 (x.1 : Int), Value.int .u8 ((wz x.2).toNat : Int)]) (KC p) S Sp N w0) (hb0 : Below w0.heap.size w0 w)
    (I : List (Nat × Bool) → World → Prop) (hI : OwnFrom w.heap.size I) (h0 : I [] w)
    (hassign : ∀ (l : Nat) (x : Nat × Bool) (W : World) (K : Act → World → Prop), K { tmps := ((a.tmps.setIfInBounds p1 (Value.int .i64 (x.1 : Int))).setIfInBounds p2 (Value.int .u8 ((wz x.2).toNat : Int))).setIfInBounds ps (Value.int .u8 ((wz x.2).toNat : Int)), defers := [] } W →
      assign.wpIn (Fence.wide.inRound l) (3 - 1 - 1) P (Exit.then K (fun _ _ _ => False)) { tmps := (a.tmps.setIfInBounds p1 (Value.int .i64 (x.1 : Int))).setIfInBounds p2 (Value.int .u8 ((wz x.2).toNat : Int)), defers := [] } W)
    (hbody : ∀ (l : Nat) (pre : List (Nat × Bool)) (x : Nat × Bool) (W : World), I pre W → pre.length < N → body.wpIn (Fence.wide.inRound l) (3 - 1 - 1) P (ownPostG w.heap.size (KC p) I (fun _ _ _ => False) (pre ++ [x]) W) { tmps := ((a.tmps.setIfInBounds p1 (Value.int .i64 (x.1 : Int))).setIfInBounds p2 (Value.int .u8 ((wz x.2).toNat : Int))).setIfInBounds ps (Value.int .u8 ((wz x.2).toNat : Int)), defers := [] } W)
    (hdone : ∀ (D : Nat) (xs : List (Nat × Bool)) (W : World), w.heap.size ≤ D → S xs → I xs W → W.heap[D]? = some (.deferred (some [])) → Q .normal { a with defers := { target := .collected D, args := #[] } :: a.defers } W) :
    (Code.rangeFunc g #[p1, p2] assign body).wp P Q a w := by
  refine wpIn_wide.1 (wpIn_rangeFunc_ownG (F := Fence.wide) (n := 3) rfl (by decide) hg trivial eg hseq (fun h k => KC.trans h k) (fun W l o o' _ h ho _ => KC.book W l o o' h ho) hb0 (fun _ => rfl) I (fun _ _ _ => False) hI (fun _ _ _ _ _ hs _ _ => hs) h0
    (fun x => { tmps := ((a.tmps.setIfInBounds p1 (Value.int .i64 (x.1 : Int))).setIfInBounds p2 (Value.int .u8 ((wz x.2).toNat : Int))).setIfInBounds ps (Value.int .u8 ((wz x.2).toNat : Int)), defers := [] }) ?_ ?_ ?_ ?_)
  · intro l x W K hK
    simpa using hassign l x W K hK
  · intro l pre x W hi hp
    exact hbody l pre x W hi hp
  · exact hdone
  · intro D c pre W _ _ h _
    exact h.elim
theorem typB_step {lst x : UInt8} {r : List UInt8} : typB lst (x :: r) = ((x == 1 || x == 2) && !(x == 1 && lst == 1) && typB x r) := rfl
set_option maxRecDepth 100000 in
set_option maxHeartbeats 8000000 in
theorem tt_go (nm : ByteArray) (hnm : nameB nm.data.toList = true) (hnz : nm.size ≤ 9223372036854775807) (ws : List UInt8) (hl : ws.length ≤ 8) (a : Option Addr) (c : Nat) (w : World) (hu : BSl (.slice a ws.length c) ws w) :
    Calls Tryz.prog 21 #[.agg #[.string nm, .slice a ws.length c]] w fun e w' => (∃ v, e = .returned (.tuple #[v, .int .i64 (ttE nm.data.toList ws)]) ∧ OwnT w.heap.size v (ttL nm.data.toList ws) w') ∧ Below w.heap.size w w' := by
  obtain ⟨ZE, hZE⟩ : ∃ ZE, ttE nm.data.toList ws = ZE := ⟨_, rfl⟩
  obtain ⟨ZL, hZL⟩ : ∃ ZL, ttL nm.data.toList ws = ZL := ⟨_, rfl⟩
  obtain ⟨Z, hZ⟩ : ∃ Z, typB 2 ws = Z := ⟨_, rfl⟩
  have htt : ttB nm.data.toList ws = Z := by unfold ttB; rw [hnm, hZ, decide_eq_true hl]; simp
  rw [hZE, hZL]
  have HQ : Hid (Z = true → ZE = 0 ∧ typK nm.data.toList ws = ZL) := Lib.hid fun h => by
    unfold ttE at hZE; unfold ttL at hZL; rw [htt, h] at hZE hZL; exact ⟨hZE.symm, hZL⟩
  have HNO : Hid (Z = false → ZE = 8 ∧ ZL = []) := Lib.hid fun h => by
    unfold ttE at hZE; unfold ttL at hZL; rw [htt, h] at hZE hZL; exact ⟨hZE.symm, hZL.symm⟩
  have HRW : Hid (0 < ws.length → ∃ b off, a = some ⟨b, off, none⟩ ∧ b < w.heap.size ∧ BRow b off ws w) := Lib.hid fun h => by
    rcases hu with ⟨a2, c2, e, rfl⟩ | ⟨b, off, cap, e, h2, h3⟩
    · simp at h
    · injection e with e1 e2 e3
      exact ⟨b, off, e1, lt_of_cell (h2 0 h3), h2⟩
  have HNM : Hid (∀ W, Calls Tryz.prog 31 #[.string nm] W fun e w' => e = .returned (.bool true) ∧ W = w') := Lib.hid fun W => by
    have := lname_big nm hnz W
    rw [hnm] at this
    exact this
  have HT0 : Hid (typB 2 (ws.drop 0) = Z) := Lib.hid hZ
  have HO0 : Hid (([] : List Tok) = (ws.take 0).flatMap wo) := Lib.hid rfl
  obtain ⟨n, hn⟩ : ∃ n, ws.length = n := ⟨_, rfl⟩
  have HN := Lib.hid hn
  rw [hn]
  rw [hn] at hl
  have hl8 : ¬ (8 : Int) < (n : Int) := by omega
  clear hZE hZL hZ htt hu hnm hnz hn
  refine (callsIn_wide (n := 3)).1 ?_
  refine callsIn_of_wp_marks Tryz.func21 rfl trivial ?_ rfl
  simp only [Tryz.ntmps21, List.size_toArray, List.length_cons, List.length_nil, Nat.reduceAdd, Nat.reduceSub, Array.replicate_succ, Array.replicate_zero, List.push_toArray, List.append_toArray, List.nil_append, List.cons_append]
  refine wpIn_wide.2 ?_
  go_upto_region 1 with fail
  obtain ⟨w1, hw1⟩ : ∃ w1, w.alloc (.cells #[.string nm, .slice a n c] 35 (0, 0)) = w1 := ⟨_, rfl⟩
  have hb1 : Below w.heap.size w w1 := by rw [← hw1]; exact (Below.refl _ _).alloc (Nat.le_refl _) _
  have hz1 : w1.heap.size = w.heap.size + 1 := by rw [← hw1]; simp
  have k1 : w1.heap[w.heap.size]? = some (.cells #[.string nm, .slice a n c] 35 (0, 0)) := by rw [← hw1]; exact heap_new _ _ _ rfl
  obtain ⟨d0, d1, _, _⟩ := ref_cells k1
  rw [hw1]
  go_wp2_with fail
  refine (HNM.out w1).mono ?_; rintro e w2 ⟨rfl, rfl⟩
  go_upto_region 4 with fail
  obtain ⟨w2, hw2⟩ : ∃ w2, (w1.alloc (.cells #[.slice none 0 0] 95)).alloc (.cells #[.pointer (some ⟨w.heap.size + 1, 0, none⟩)] 93) = w2 := ⟨_, rfl⟩
  have HB2 : Hid (Below w.heap.size w w2) := Lib.hid (by rw [← hw2]; exact (hb1.alloc (by omega) _).alloc (by simp; omega) _)
  have HP2 : Hid (PutS (w.heap.size + 1) (.slice none 0 0) [] w2) := Lib.hid ⟨by rw [← hw2]; exact heap_old (heap_new _ _ _ (by omega)), OwnT.nil _ _⟩
  have HX2 : Hid (w2.heap[w.heap.size]? = some (.cells #[.string nm, .slice a n c] 35 (0, 0)) ∧ w2.heap[w.heap.size + 1 + 1]? = some (.cells #[.pointer (some ⟨w.heap.size + 1, 0, none⟩)] 93 (0, 0))) := Lib.hid ⟨by rw [← hw2]; exact heap_old (heap_old k1), by rw [← hw2]; exact heap_new _ _ _ (by simp; omega)⟩
  rw [hw2]
  clear hw1 hw2 hb1 hz1 k1 d0 d1
  obtain ⟨d0, d1, _, _⟩ := ref_cells HX2.out.1
  go_wp2_with fail
  go_loopg [5, 25] n (fun gk lv iv wr => ∃ (i : Nat) (lst : UInt8) (li : Int) (L1 : List Tok) (pv : Value), lv = .int .u8 li ∧ iv = .int .i64 (i : Int) ∧ (gk + i ≤ n ∧ n ≤ gk + i) ∧ Hid ((lst.toNat : Int) = li) ∧ Hid (PutS (w.heap.size + 1) pv L1 wr) ∧ Hid (Below w.heap.size w wr) ∧ Hid (wr.heap[w.heap.size]? = some (.cells #[.string nm, .slice a n c] 35 (0, 0)) ∧ wr.heap[w.heap.size + 1 + 1]? = some (.cells #[.pointer (some ⟨w.heap.size + 1, 0, none⟩)] 93 (0, 0))) ∧ Hid (typB lst (ws.drop i) = Z) ∧ Hid (L1 = (ws.take i).flatMap wo))
  case atStart => exact ⟨0, 2, 2, [], _, rfl, by go_num, ⟨by omega, by omega⟩, Lib.hid rfl, HP2, HB2, HX2, HT0, HO0⟩
  case round =>
    clear HP2 HB2 HX2 HO0 d0 d1
    rename World => wr
    obtain ⟨i, lst, li, L1, pv, rfl, rfl, ⟨hj, hj'⟩, HLI, HP, HB, HX, HTB, HL1⟩ := hrel
    have hLL : L1.length ≤ 8 := by
      rw [HL1.out]
      have key : ∀ l : List UInt8, (l.flatMap wo).length ≤ l.length := by
        intro l
        induction l with
        | nil => simp
        | cons x r ih =>
          rw [List.flatMap_cons, List.length_append, List.length_cons]
          have : (wo x).length ≤ 1 := by unfold wo; split <;> simp
          omega
      have := key (ws.take i)
      have h2 : (ws.take i).length ≤ ws.length := by rw [List.length_take]; omega
      have := HN.out
      omega
    by_cases hg0 : gk = 0
    · subst hg0
      have hin : i = n := by omega
      subst hin
      have hlt : ¬ (i : Int) < (i : Int) := by omega
      have hz : Z = true := by
        have := HTB.out
        rw [List.drop_of_length_le (by have := HN.out; omega)] at this
        exact this.symm
      obtain ⟨hZE, hZL⟩ := HQ.out hz
      obtain ⟨bs, hbs⟩ := typB_bits ws 2 (by have := HT0.out; rw [List.drop_zero, hz] at this; exact this)
      have hbl : i = bs.length := by have := HN.out; rw [hbs, List.length_map] at this; exact this.symm
      have HLF : Hid (ZE = 0 ∧ ZL = (L1 ++ [⟨1, nm.data.toList, 0⟩]) ++ bs.reverse.map wmk) := Lib.hid ⟨hZE, by
        rw [← hZL, HL1.out, List.take_of_length_le (by have := HN.out; omega), hbs, typK_bits, wo_bits]
        simp [nmT]⟩
      have HAO : Hid (0 < i → ∃ b off, a = some ⟨b, off, none⟩ ∧ b < w.heap.size ∧ ∀ j, j < i → w.cell? ⟨b, off + j, none⟩ = some (.int .u8 ((wz (bs[j]?.getD false)).toNat : Int))) := Lib.hid fun h => by
        obtain ⟨b, off, h1, h2, h3⟩ := HRW.out (by have := HN.out; omega)
        refine ⟨b, off, h1, h2, fun j hj => ?_⟩
        have hjw : j < ws.length := by have := HN.out; omega
        rw [h3 j hjw]
        have : ws[j] = wz (bs[j]?.getD false) := by
          have hjb : j < bs.length := by omega
          subst hbs
          simp [hjb]
        rw [this]
      have HBL := Lib.hid hbl
      clear hj hj' hz hZE hZL hbs hbl HRW HQ HNO HT0 HTB HL1
      obtain ⟨d0, d1, _, _⟩ := ref_cells HX.out.1
      have c4 : wr.cell? ⟨w.heap.size + 1 + 1, 0, none⟩ = some (.pointer (some ⟨w.heap.size + 1, 0, none⟩)) := by rw [Lib.cell_of_heap HX.out.2]; rfl
      have hzr := HB.out.size
      have hqr := HP.out.lt
      have hb4 : Below wr.heap.size wr (wr.alloc (.cells #[.string nm] 9 (0, 0))) := (Below.refl _ _).alloc (Nat.le_refl _) _
      have HP4 := Lib.hid (HP.out.below hb4)
      have HB4 := Lib.hid (HB.out.trans (hb4.mono hzr))
      have HX4 := Lib.hid (And.intro ((hb4.block _ (heap_lt HX.out.1)).trans HX.out.1) ((hb4.block _ (heap_lt HX.out.2)).trans HX.out.2))
      have hne4 : wr.heap.size ≠ w.heap.size + 1 := by omega
      clear hb4
      go_wp2_with fail
      refine (put_add (w.heap.size + 1) pv L1 1 1 rfl nm _ 1 _ HP4.out (new_cell0 _ _ _) hne4 (by omega)).mono ?_; rintro e w5 ⟨rfl, ⟨pv5, hx1⟩, hx2⟩
      have HP5 : Hid (PutS (w.heap.size + 1) pv5 (L1 ++ [⟨1, nm.data.toList, 0⟩]) w5) := Lib.hid hx1
      have HB5 : Hid (Below w.heap.size w w5) := Lib.hid (HB4.out.trans (hx2.1.mono (by omega)))
      have HX5 := Lib.hid (And.intro (hx2.2 _ _ HX4.out.1 (by omega)) (hx2.2 _ _ HX4.out.2 (by omega)))
      clear hx1 hx2 HP4 HB4 HX4 hne4 d0 d1 c4 hzr hqr HP HB HX
      obtain ⟨d0, d1, _, _⟩ := ref_cells HX5.out.1
      go_wp2_with fail
      refine (backward_c a i c w5).mono ?_; rintro e w6 ⟨rfl, hw6⟩
      have hb6 : Below w5.heap.size w5 w6 := by rw [hw6]; exact (Below.refl _ _).alloc (Nat.le_refl _) _
      have HBS : Hid (w6.cell? ⟨w5.heap.size, 0, none⟩ = some (.slice a i c)) := Lib.hid (by rw [hw6]; exact new_cell0 _ _ _)
      have HB6 : Hid (Below w.heap.size w w6) := Lib.hid (HB5.out.trans (hb6.mono HB5.out.size))
      have HP6 := Lib.hid (HP5.out.below hb6)
      have HX6 := Lib.hid ((hb6.block _ (heap_lt HX5.out.2)).trans HX5.out.2)
      have hqr := HP5.out.lt
      have hzr := HB5.out.size
      have hz56 := hb6.size
      clear hw6 hb6
      go_wp2_with fail
      have hz6 := HB6.out.size
      have hiz : i ≤ 1000000 := by omega
      have hne6 : w5.heap.size ≠ w.heap.size + 1 := by omega
      have hlen5 : (L1 ++ [(Tok.mk 1 nm.data.toList 0)]).length ≤ 9 := by simp; omega
      generalize L1 ++ [(Tok.mk 1 nm.data.toList 0)] = L5 at *
      refine rangeF2 (gf := 71) (lb := #[.pointer (some ⟨w5.heap.size, 0, none⟩)]) (ps := 9) (p := w.heap.size + 1) rfl (enters_of Tryz.func71 (by kernel_rfl) rfl)
        (back_stops Fence.wide (3 - 1) trivial rfl (by decide) w5.heap.size (w.heap.size + 1) a i c bs HBL.out hiz hne6 w6 HBS.out (fun h => by
          obtain ⟨b, off, h1, h2, h3⟩ := HAO.out h
          exact ⟨b, off, h1, by omega, fun j hj => (HB6.out.cell (p := ⟨b, off + j, none⟩) h2).trans (h3 j hj)⟩)) (Below.refl _ _)
        (fun pre W => (∃ v, PutS (w.heap.size + 1) v (L5 ++ pre.map (fun x => wmk x.2)) W) ∧ W.heap[w.heap.size + 1 + 1]? = some (.cells #[.pointer (some ⟨w.heap.size + 1, 0, none⟩)] 93 (0, 0)) ∧ Below w.heap.size w W)
        (fun s A B row hs hg hr => ⟨by obtain ⟨v, hv⟩ := hs.1; exact ⟨v, hv.kept hg (fun r e => (hr r e).2)⟩, (grownBy_keeps_cells hg (fun r e => (hr r e).2) hs.2.1 rfl).trans hs.2.1, (ownFrom_below (β := List (Nat × Bool)) (Nat.le_refl _) hz6) s A B row hs.2.2 hg hr⟩)
        ⟨⟨pv5, by simpa using HP6.out⟩, HX6.out, HB6.out⟩ ?assign ?body ?done
      case assign =>
        intro l x W K hK
        simp only [List.setIfInBounds_toArray, List.set_cons_zero, List.set_cons_succ] at hK ⊢
        gi_wp2
        exact hK
      case body =>
        rintro l pre ⟨q, bb⟩ W ⟨⟨v, hP⟩, hc4, hB⟩ hpl
        have HA : ∀ s : ByteArray, Hid (∀ (X : World) (lb cl : Nat), Below W.heap.size W X → X.cell? ⟨lb, 0, none⟩ = some (.string s) → W.heap.size ≤ lb → Calls Tryz.prog 42 #[.pointer (some ⟨w.heap.size + 1, 0, none⟩), .int .u8 4, .slice (some ⟨lb, 0, none⟩) 1 cl] X fun e w' => e = .returned (.tuple #[]) ∧ (∃ v', PutS (w.heap.size + 1) v' ((L5 ++ pre.map (fun x => wmk x.2)) ++ [⟨4, s.data.toList, 0⟩]) w') ∧ RK (w.heap.size + 1) W w') := fun s => Lib.hid fun X lb cl hX hl hlb => by
          have hq := hP.lt
          refine (put_add (w.heap.size + 1) v _ 4 4 rfl s lb cl X (hP.below hX) hl (by omega) (by rw [List.length_append, List.length_map]; omega)).mono ?_
          rintro e w' ⟨rfl, h1, h2⟩
          exact ⟨rfl, h1, (RK.of_below hX hq).trans h2⟩
        have HF : Hid (∀ w' : World, (∃ v', PutS (w.heap.size + 1) v' ((L5 ++ pre.map (fun x => wmk x.2)) ++ [wmk bb]) w') → RK (w.heap.size + 1) W w' → ownPostG w6.heap.size (KC (w.heap.size + 1)) (fun pre W => (∃ v, PutS (w.heap.size + 1) v (L5 ++ pre.map (fun x => wmk x.2)) W) ∧ W.heap[w.heap.size + 1 + 1]? = some (.cells #[.pointer (some ⟨w.heap.size + 1, 0, none⟩)] 93 (0, 0)) ∧ Below w.heap.size w W) (fun _ _ _ => False) (pre ++ [(q, bb)]) W .normal { tmps := #[], defers := [] } w') := Lib.hid fun w' h1 h2 => by
          refine ⟨⟨h2.1.size, fun k o hk ho hc => h2.2 k o ho (by omega)⟩, KC.of_rk h2, ?_, h2.2 _ _ hc4 (by omega), hB.trans (h2.1.mono (by omega))⟩
          · obtain ⟨v', h⟩ := h1
            exact ⟨v', by simpa using h⟩
        have c4 : W.cell? ⟨w.heap.size + 1 + 1, 0, none⟩ = some (.pointer (some ⟨w.heap.size + 1, 0, none⟩)) := by rw [Lib.cell_of_heap hc4]; rfl
        have hlt4 : w.heap.size + 1 + 1 < W.heap.size := heap_lt hc4
        have c4a : ∀ o, (W.alloc o).cell? ⟨w.heap.size + 1 + 1, 0, none⟩ = some (.pointer (some ⟨w.heap.size + 1, 0, none⟩)) := fun o => by
          rw [World.cell?_alloc_lt _ _ _ (by exact hlt4)]; exact c4
        simp only [List.setIfInBounds_toArray, List.set_cons_zero, List.set_cons_succ]
        have hd : 1 ≤ 3 - 1 - 1 := by decide
        have hmx : Tryz.prog.follows .mixedOrders = true := by kernel_rfl
        cases bb
        · have e1 : ((wz false).toNat : Int) = 1 := rfl
          simp only [e1]
          have HB := HA ⟨#[33]⟩
          have ix := fun w : World => (show (Instr.index 106 (.agg #[.string ⟨#[]⟩, .string ⟨#[33]⟩, .string ⟨#[93]⟩]) (.int .u8 1)).run Tryz.prog w = .ok (.string ⟨#[33]⟩) w by kernel_rfl)
          clear HA hP hc4 hB
          gi_wp2
          gi_region_with_o (refine ⟨trivial, ?_⟩; gi_at_call 42; refine (CallsIn.inRound l (callsIn_wide.2 (HB.out _ _ _ (below_dN 1 ((Below.refl _ _).alloc (Nat.le_refl _) _)) (new_cell0 _ _ _) (Nat.le_refl _)))).mono ?_; rintro e w7 ⟨rfl, h1, h2⟩)
          all_goals gi_wp2
          all_goals exact HF.out _ h1 h2
        · have e1 : ((wz true).toNat : Int) = 2 := rfl
          simp only [e1]
          have HB := HA ⟨#[93]⟩
          have ix := fun w : World => (show (Instr.index 106 (.agg #[.string ⟨#[]⟩, .string ⟨#[33]⟩, .string ⟨#[93]⟩]) (.int .u8 2)).run Tryz.prog w = .ok (.string ⟨#[93]⟩) w by kernel_rfl)
          clear HA hP hc4 hB
          gi_wp2
          gi_region_with_o (refine ⟨trivial, ?_⟩; gi_at_call 42; refine (CallsIn.inRound l (callsIn_wide.2 (HB.out _ _ _ (below_dN 1 ((Below.refl _ _).alloc (Nat.le_refl _) _)) (new_cell0 _ _ _) (Nat.le_refl _)))).mono ?_; rintro e w7 ⟨rfl, h1, h2⟩)
          all_goals gi_wp2
          all_goals exact HF.out _ h1 h2
      case done =>
        rintro D xs W hD rfl ⟨⟨v, hP⟩, hc4, hB⟩ hKD
        obtain ⟨a3, n3, c3, rfl⟩ := hP.2.slf
        have c4 : W.cell? ⟨w.heap.size + 1 + 1, 0, none⟩ = some (.pointer (some ⟨w.heap.size + 1, 0, none⟩)) := by rw [Lib.cell_of_heap hc4]; rfl
        have c5 := hP.cell
        have HPD := Lib.hid hP
        have HBD := Lib.hid hB
        have HBK := Lib.hid (bk_all bs)
        clear hP hB hc4
        go_wp2_with fail
        refine ⟨by simp, .inl ⟨_, _, rfl, run_takeDeferred hKD, ?_⟩⟩
        refine ⟨_, results_tmp2 rfl _ _ _, ⟨.slice a3 n3 c3, by rw [HLF.out.1]; rfl, ?_⟩, ?_⟩
        · rw [HLF.out.2]
          have h := (HPD.out.2.kept (grownBy_putObj' W D (.deferred none)) (fun r e => by cases e; exact ⟨_, hKD, rfl⟩)).lessU (B' := w.heap.size) (by omega)
          have e : (bk bs i).map (fun x => wmk x.2) = bs.reverse.map wmk := by
            rw [← HBK.out, HBL.out, List.map_map]; rfl
          rw [e] at h
          exact h
        · exact HBD.out.trans (belowK_b (w := w6) hz6 W D _ _ hD hKD rfl rfl)
    · obtain ⟨g1, rfl⟩ : ∃ g1, gk = g1 + 1 := ⟨gk - 1, by omega⟩
      have hil : i < ws.length := by have := HN.out; omega
      obtain ⟨b, off, rfl, hbw, hrow⟩ := HRW.out (by omega)
      have hx := (HB.out.cell (p := ⟨b, off + i, none⟩) hbw).trans (hrow i hil)
      have htb := HTB.out
      have hli := HLI.out
      rw [List.drop_eq_getElem_cons hil, typB_step] at htb
      have hl1 : L1 ++ wo (ws[i]'hil) = (ws.take (i + 1)).flatMap wo := by
        rw [List.take_succ_eq_append_getElem hil, List.flatMap_append, ← HL1.out]; simp
      generalize ws[i]'hil = x at hx htb hl1
      obtain ⟨xi, hxi⟩ : ∃ xi : Int, (x.toNat : Int) = xi := ⟨_, rfl⟩
      rw [hxi] at hx
      have i1 : (i : Int).toNat = i := by omega
      have i2 : (0 : Int) ≤ (i : Int) := by omega
      have i3 : (i : Int) < (n : Int) := by omega
      have i4 : IntKind.i64.wrap ((i : Int) + 1) = ((i + 1 : Nat) : Int) := by rw [IntWalk.i64_in _ (by omega)]; omega
      have HJJ := Lib.hid (And.intro hj hj')
      have c4 : wr.cell? ⟨w.heap.size + 1 + 1, 0, none⟩ = some (.pointer (some ⟨w.heap.size + 1, 0, none⟩)) := by rw [Lib.cell_of_heap HX.out.2]; rfl
      have hzr := HB.out.size
      have hqr := HP.out.lt
      clear hg0 hj hj' hrow hbw hil HRW HTB HL1 HLI
      by_cases hx2 : x = 2
      · subst hx2
        have hx3 : xi = 2 := by rw [← hxi]; rfl
        subst hx3
        have HTN : Hid (typB 2 (ws.drop (i + 1)) = Z) := Lib.hid (by rw [← htb]; rfl)
        have HLN : Hid (L1 ++ [⟨4, (⟨#[91]⟩ : ByteArray).data.toList, 0⟩] = (ws.take (i + 1)).flatMap wo) := Lib.hid hl1
        have hb4 : Below wr.heap.size wr (wr.alloc (.cells #[.string ⟨#[91]⟩] 9 (0, 0))) := (Below.refl _ _).alloc (Nat.le_refl _) _
        have HP4 := Lib.hid (HP.out.below hb4)
        have HB4 := Lib.hid (HB.out.trans (hb4.mono hzr))
        have HX4 := Lib.hid (And.intro ((hb4.block _ (heap_lt HX.out.1)).trans HX.out.1) ((hb4.block _ (heap_lt HX.out.2)).trans HX.out.2))
        have hne4 : wr.heap.size ≠ w.heap.size + 1 := by omega
        clear hb4 htb hl1 hxi hli
        go_wp2_with fail
        refine (put_add (w.heap.size + 1) pv L1 4 4 rfl ⟨#[91]⟩ _ 1 _ HP4.out (new_cell0 _ _ _) hne4 (by omega)).mono ?_; rintro e w5 ⟨rfl, ⟨pv5, hx1⟩, hx2⟩
        have HP5 := Lib.hid hx1
        have HB5 : Hid (Below w.heap.size w w5) := Lib.hid (HB4.out.trans (hx2.1.mono (by omega)))
        have HX5 := Lib.hid (And.intro (hx2.2 _ _ HX4.out.1 (by omega)) (hx2.2 _ _ HX4.out.2 (by omega)))
        clear hx1 hx2 HP4 HB4 HX4 hne4 c4
        go_wp2_with fail
        obtain ⟨hj, hj'⟩ := HJJ.out
        go_roundg g1
        case measure => omega
        case rel => exact ⟨i + 1, 2, 2, _, pv5, rfl, by first | rfl | go_num, ⟨by omega, by omega⟩, Lib.hid rfl, HP5, HB5, HX5, HTN, HLN⟩
      · by_cases hx1 : x = 1
        · subst hx1
          have hx3 : xi = 1 := by rw [← hxi]; rfl
          subst hx3
          by_cases hls : lst = 1
          · subst hls
            have hl3 : li = 1 := by rw [← hli]; rfl
            subst hl3
            have HF : Hid (ZE = 8 ∧ ZL = []) := Lib.hid (HNO.out (by rw [← htb]; rfl))
            clear htb hl1 hxi hli
            go_wp2_with fail
            (try simp only [Exit.inBlock, Exit.then])
            refine postM_ret (results_tmp2 rfl _ _ _) rfl ?_
            exact ⟨⟨.slice none 0 0, by rw [HF.out.1]; rfl, by rw [HF.out.2]; exact OwnT.nil _ _⟩, HB.out⟩
          · have hl3 : ¬ li = 1 := fun h => hls (UInt8.toNat_inj.1 (by have : ((1 : UInt8).toNat : Int) = 1 := rfl; omega))
            have hl4 : (li == 1) = false := by simpa using hl3
            have hlb : (lst == 1) = false := by simpa using hls
            have HTN : Hid (typB 1 (ws.drop (i + 1)) = Z) := Lib.hid (by rw [← htb, hlb]; rfl)
            have HLN : Hid (L1 = (ws.take (i + 1)).flatMap wo) := Lib.hid (by rw [← hl1]; simp [wo])
            clear htb hl1 hxi hli hls hlb
            go_wp2_with fail
            obtain ⟨hj, hj'⟩ := HJJ.out
            go_roundg g1
            case measure => omega
            case rel => exact ⟨i + 1, 1, 1, _, pv, rfl, by first | rfl | go_num, ⟨by omega, by omega⟩, Lib.hid rfl, HP, HB, HX, HTN, HLN⟩
        · have h1 : ¬ xi = 1 := fun h => hx1 (UInt8.toNat_inj.1 (by have : ((1 : UInt8).toNat : Int) = 1 := rfl; omega))
          have h2 : ¬ xi = 2 := fun h => hx2 (UInt8.toNat_inj.1 (by have : ((2 : UInt8).toNat : Int) = 2 := rfl; omega))
          have h1b : (xi == 1) = false := by simpa using h1
          have h2b : (xi == 2) = false := by simpa using h2
          have HF : Hid (ZE = 8 ∧ ZL = []) := Lib.hid (HNO.out (by
            rw [← htb, (by simpa using hx1 : (x == 1) = false), (by simpa using hx2 : (x == 2) = false)]; rfl))
          clear htb hl1 hxi hli hx1 hx2
          go_wp2_with fail
          (try simp only [Exit.inBlock, Exit.then])
          refine postM_ret (results_tmp2 rfl _ _ _) rfl ?_
          exact ⟨⟨.slice none 0 0, by rw [HF.out.1]; rfl, by rw [HF.out.2]; exact OwnT.nil _ _⟩, HB.out⟩
set_option maxRecDepth 100000 in
theorem tt_name (nm : ByteArray) (u : Value) (w : World) (HNM : Hid (∀ W, Calls Tryz.prog 31 #[.string nm] W fun e w' => e = .returned (.bool false) ∧ W = w')) :
    Calls Tryz.prog 21 #[.agg #[.string nm, u]] w fun e w' => e = .returned (.tuple #[.slice none 0 0, .int .i64 8]) ∧ Below w.heap.size w w' := by
  have HB : Hid (Below w.heap.size w (w.alloc (.cells #[.string nm, u] 35 (0, 0)))) := Lib.hid ((Below.refl _ _).alloc (Nat.le_refl _) _)
  refine (callsIn_wide (n := 3)).1 ?_
  refine callsIn_of_wp_marks Tryz.func21 rfl trivial ?_ rfl
  simp only [Tryz.ntmps21, List.size_toArray, List.length_cons, List.length_nil, Nat.reduceAdd, Nat.reduceSub, Array.replicate_succ, Array.replicate_zero, List.push_toArray, List.append_toArray, List.nil_append, List.cons_append]
  refine wpIn_wide.2 ?_
  go_wp2_with fail
  refine (HNM.out _).mono ?_; rintro e w2 ⟨rfl, rfl⟩
  go_wp2_with fail
  (try simp only [Exit.inBlock, Exit.then])
  refine postM_ret (results_tmp2 rfl _ _ _) rfl ?_
  exact ⟨rfl, HB.out⟩
set_option maxRecDepth 100000 in
theorem tt_long (nm : ByteArray) (a : Option Addr) (n c : Nat) (hn : (8 : Int) < (n : Int)) (w : World) (HNM : Hid (∀ W, Calls Tryz.prog 31 #[.string nm] W fun e w' => e = .returned (.bool true) ∧ W = w')) :
    Calls Tryz.prog 21 #[.agg #[.string nm, .slice a n c]] w fun e w' => e = .returned (.tuple #[.slice none 0 0, .int .i64 8]) ∧ Below w.heap.size w w' := by
  have HB : Hid (Below w.heap.size w (w.alloc (.cells #[.string nm, .slice a n c] 35 (0, 0)))) := Lib.hid ((Below.refl _ _).alloc (Nat.le_refl _) _)
  refine (callsIn_wide (n := 3)).1 ?_
  refine callsIn_of_wp_marks Tryz.func21 rfl trivial ?_ rfl
  simp only [Tryz.ntmps21, List.size_toArray, List.length_cons, List.length_nil, Nat.reduceAdd, Nat.reduceSub, Array.replicate_succ, Array.replicate_zero, List.push_toArray, List.append_toArray, List.nil_append, List.cons_append]
  refine wpIn_wide.2 ?_
  go_wp2_with fail
  refine (HNM.out _).mono ?_; rintro e w2 ⟨rfl, rfl⟩
  go_wp2_with fail
  (try simp only [Exit.inBlock, Exit.then])
  refine postM_ret (results_tmp2 rfl _ _ _) rfl ?_
  exact ⟨rfl, HB.out⟩
theorem tt_any (nm : ByteArray) (ws : List UInt8) (u : Value) (w : World) (hu : BSl u ws w) (hn : nm.size ≤ 9223372036854775807) (hw : ws.length ≤ 1000000) :
    Calls Tryz.prog 21 #[.agg #[.string nm, u]] w fun e w' => (∃ v, e = .returned (.tuple #[v, .int .i64 (ttE nm.data.toList ws)]) ∧ OwnT w.heap.size v (ttL nm.data.toList ws) w') ∧ Below w.heap.size w w' := by
  obtain ⟨a, c, rfl⟩ := hu.form
  have no : ttB nm.data.toList ws = false → ∀ e w', (e = Ending.returned (.tuple #[.slice none 0 0, .int .i64 8]) ∧ Below w.heap.size w w') → (∃ v, e = .returned (.tuple #[v, .int .i64 (ttE nm.data.toList ws)]) ∧ OwnT w.heap.size v (ttL nm.data.toList ws) w') ∧ Below w.heap.size w w' := by
    rintro h e w' ⟨rfl, hb⟩
    unfold ttE ttL
    rw [h]
    exact ⟨⟨_, rfl, OwnT.nil _ _⟩, hb⟩
  cases hnb : nameB nm.data.toList with
  | false =>
    refine (tt_name nm _ w (Lib.hid fun W => ?_)).mono (no (by unfold ttB; rw [hnb]; rfl))
    have := lname_big nm hn W
    rw [hnb] at this
    exact this
  | true =>
    by_cases hl : ws.length ≤ 8
    · exact tt_go nm hnb hn ws hl a c w hu
    · refine (tt_long nm a _ c (by omega) w (Lib.hid fun W => ?_)).mono (no (by unfold ttB; rw [hnb, decide_eq_false hl]; rfl))
      have := lname_big nm hn W
      rw [hnb] at this
      exact this
end Go.Proofs.YtfagaflgdlomiaaGreatDoor
namespace Go.Proofs.YtfagaflgdlomiaaGreatDoor
open Go.RowKit
theorem OwnI.form {B : Nat} {v : Value} {l : List Nat} {w : World} (h : OwnI B v l w) : ∃ a c, v = .slice a l.length c ∧ (0 < l.length → ∃ g, a = some ⟨g, 0, none⟩ ∧ ∀ (i : Nat) (hi : i < l.length), w.cell? ⟨g, 0 + i, none⟩ = some (.int .i64 (l[i] : Int))) := by
  obtain ⟨h1, h2⟩ := h
  rcases h2 with ⟨rfl, h3⟩ | ⟨g, cap, cur, hv, hB, hg, hn, hc, hcs, ht⟩
  · exact ⟨none, 0, by rw [h3], fun h => by omega⟩
  · refine ⟨_, cap, hv, fun _ => ⟨g, rfl, fun i hi => ?_⟩⟩
    rw [Nat.mul_one] at ht
    have e : cur.toList[i]? = some (.int .i64 (l[i] : Int)) := by
      have : (cur.toList.take l.length)[i]? = some (.int .i64 (l[i] : Int)) := by rw [ht]; unfold natCells; simp [hi]
      rw [List.getElem?_take] at this
      simpa [hi] using this
    rw [Nat.zero_add]
    refine (Lib.cell_of_heap hg i).trans ?_
    simpa using e
end Go.Proofs.YtfagaflgdlomiaaGreatDoor
namespace Go.Proofs.YtfagaflgdlomiaaGreatDoor
open Go.RowKit
/-- Tokens that were just laid. -/
theorem OwnT.freshN {L : List Tok} {C : Array Value} {k : Nat} (hk : k = L.length) (hC : C.toList = tokCells L) (hl : L.length ≤ 1000000) (W : World) : OwnT W.heap.size (.slice (some ⟨W.heap.size, 0, none⟩) k k) L (W.alloc (.cells C 123)) := by
  have hs : C.size = L.length * 3 := by
    have := congrArg List.length hC
    rw [tokCells_len] at this
    simpa using this
  refine ⟨tokCells_len L, Or.inr ⟨W.heap.size, k, C, by rw [hk], Nat.le_refl _, heap_new W _ _ rfl, by omega, by unfold maxLen; omega, by omega, ?_⟩⟩
  rw [List.take_of_length_le (by simp; omega)]
  exact hC
theorem tok_cells1 (k : UInt8) (kd : Int) (hk : (k.toNat : Int) = kd) (s : ByteArray) : (#[Value.int .u8 kd, .string s, .int .i64 0] : Array Value).toList = tokCells [⟨k, s.data.toList, 0⟩] := by
  subst hk
  simp [tokCells]
theorem OwnT.one (k : UInt8) (kd : Int) (hk : (k.toNat : Int) = kd) (s : ByteArray) (W : World) : OwnT W.heap.size (.slice (some ⟨W.heap.size, 0, none⟩) 1 1) [⟨k, s.data.toList, 0⟩] (W.alloc (.cells #[.int .u8 kd, .string s, .int .i64 0] 123)) := OwnT.freshN rfl (tok_cells1 k kd hk s) (by simp) W
end Go.Proofs.YtfagaflgdlomiaaGreatDoor
namespace Go.Proofs.YtfagaflgdlomiaaGreatDoor
open Go.RowKit
/-- A row of places, in a block. -/
def PB (a : Option Addr) (P : List Nat) (W : World) : Prop := 0 < P.length → ∃ g cur, a = some ⟨g, 0, none⟩ ∧ W.heap[g]? = some (.cells cur 3 (0, 0)) ∧ ∀ (i : Nat) (hi : i < P.length), cur[i]? = some (.int .i64 (P[i] : Int))
theorem PB.below {a : Option Addr} {P : List Nat} {W W' : World} (h : PB a P W) (hb : Below W.heap.size W W') : PB a P W' := fun h0 => by
  obtain ⟨g, cur, h1, h2, h3⟩ := h h0
  exact ⟨g, cur, h1, (hb.block g (heap_lt h2)).trans h2, h3⟩
theorem PB.grown {a : Option Addr} {P : List Nat} {W W' : World} {B : Nat} {v : Value} {L : List Tok} (h : PB a P W) (ho : OwnT B v L W) (hg : W.grownBy W' v.ownBlock) : PB a P W' := fun h0 => by
  obtain ⟨g, cur, h1, h2, h3⟩ := h h0
  refine ⟨g, cur, h1, (hg.block g (heap_lt h2) ?_).trans h2, h3⟩
  intro e
  rcases ho.2 with ⟨e1, _⟩ | ⟨g2, cap2, cur2, e1, _, hg2, _⟩
  · rw [e1] at e; cases e
  · rw [e1] at e
    injection e with e
    have e3 : g = g2 := e
    rw [e3, hg2] at h2
    injection h2 with h2
    injection h2 with _ h4 _
    exact absurd h4 (by decide)
theorem PB.cell {a : Option Addr} {P : List Nat} {W : World} (h : PB a P W) (i : Nat) (hi : i < P.length) : ∃ g, a = some ⟨g, 0, none⟩ ∧ W.cell? ⟨g, i, none⟩ = some (.int .i64 (P[i] : Int)) := by
  obtain ⟨g, cur, h1, h2, h3⟩ := h (by omega)
  exact ⟨g, h1, (Lib.cell_of_heap h2 i).trans (h3 i hi)⟩
end Go.Proofs.YtfagaflgdlomiaaGreatDoor
namespace Go.Proofs.YtfagaflgdlomiaaGreatDoor
open Go.RowKit
def okC (c : Cel) : Bool := (c.name.isEmpty || nameB c.name) && !(c.kind == 4 && wordsK.contains c.text)
theorem litB_okC (V : List Cel) : litB V = (mayB V && V.all okC) := rfl
end Go.Proofs.YtfagaflgdlomiaaGreatDoor
namespace Go.Proofs.YtfagaflgdlomiaaGreatDoor
open Go.RowKit
theorem namedB_step (nm : List (List UInt8)) (x : List UInt8 × List Cel) (r : List (List UInt8 × List Cel)) : namedB nm (x :: r) = (!nm.contains x.1 && nameB x.1 && litB x.2 && namedB (x.1 :: nm) r) := rfl
end Go.Proofs.YtfagaflgdlomiaaGreatDoor
namespace Go.Proofs.YtfagaflgdlomiaaGreatDoor
open Go.RowKit
def prvB (ws : List UInt8) (i : Nat) : UInt8 := if i = 0 then 2 else ws.getD (i - 1) 2
end Go.Proofs.YtfagaflgdlomiaaGreatDoor
namespace Go.Proofs.YtfagaflgdlomiaaGreatDoor
open Go.RowKit Go.WideShapes Go.ChangeShapes Go.Joins Go.Deep
abbrev ArgD := List UInt8 × List Cel
abbrev DirD := List UInt8 × List ArgD
/-- Arguments whose room is no less than their number; directives of such arguments. -/
def capA (u : Value) : Prop := ∃ a n c, u = .slice a n c ∧ n ≤ c
def ArgSlc (v : Value) (L : List ArgD) (W : World) : Prop := ArgSl v L W ∧ capA v
abbrev DirSlc : Value → List DirD → World → Prop := XSl ArgSlc
theorem ArgSlc.below {v : Value} {L : List ArgD} {w w' : World} (h : ArgSlc v L w) (hb : Below w.heap.size w w') : ArgSlc v L w' := ⟨ArgSl.below h.1 hb, h.2⟩
theorem DirSlc.below {v : Value} {L : List DirD} {w w' : World} (h : DirSlc v L w) (hb : Below w.heap.size w w') : DirSlc v L w' := XSl.below h (fun _ _ h => ArgSlc.below h hb) hb
theorem DirSlc.dir {v : Value} {L : List DirD} {w : World} (h : DirSlc v L w) : DirSl v L w := by
  rcases h with h | ⟨b, off, cap, h1, h2, h3⟩
  · exact Or.inl h
  · refine Or.inr ⟨b, off, cap, h1, fun i hi => ?_, h3⟩
    obtain ⟨g0, a, n, c, g1, g2⟩ := h2 i hi
    exact ⟨g0, a, n, c, g1, g2.1⟩
structure Inp where
  name : List UInt8
  tnm : List UInt8
  wr : List UInt8
  has : Bool
  dflt : List Cel
  dirs : List DirD
structure Fld where
  name : List UInt8
  args : List Inp
  tnm : List UInt8
  wr : List UInt8
  dirs : List DirD
structure Dfn where
  kind : UInt8
  name : List UInt8
  dirs : List DirD
  names : List (List UInt8)
  inputs : List Inp
  fields : List Fld
/-- A slice's element that is a slice: what it holds. -/
def SlC {α : Type} (Sl : Value → α → World → Prop) (a : Addr) (x : α) (W : World) : Prop := ∃ b l c, W.cell? a = some (.slice b l c) ∧ Sl (.slice b l c) x W
def StrC (a : Addr) (x : List UInt8) (W : World) : Prop := W.cell? a = some (.string ⟨x.toArray⟩)
/-- Elements of so many cells in a row. -/
def RowG {α : Type} (k : Nat) (E : Addr → α → World → Prop) (a : Addr) (L : List α) (W : World) : Prop := ∀ (i : Nat) (h : i < L.length), E (a.add (i * k)) L[i] W
def SlG {α : Type} (k : Nat) (E : Addr → α → World → Prop) (v : Value) (L : List α) (W : World) : Prop := (∃ a cap, v = .slice a 0 cap ∧ L = []) ∨ ∃ b off cap, v = .slice (some ⟨b, off, none⟩) L.length cap ∧ RowG k E ⟨b, off, none⟩ L W ∧ 0 < L.length
def InpE (a : Addr) (x : Inp) (W : World) : Prop := StrC (a.add 0) x.name W ∧ StrC (a.add 1) x.tnm W ∧ SlC BSl (a.add 2) x.wr W ∧ W.cell? (a.add 3) = some (.bool x.has) ∧ SlC CelSl (a.add 4) x.dflt W ∧ SlC DirSlc (a.add 5) x.dirs W
abbrev InpSl : Value → List Inp → World → Prop := SlG 6 InpE
def FldE (a : Addr) (x : Fld) (W : World) : Prop := StrC (a.add 0) x.name W ∧ SlC InpSl (a.add 1) x.args W ∧ StrC (a.add 2) x.tnm W ∧ SlC BSl (a.add 3) x.wr W ∧ SlC DirSlc (a.add 4) x.dirs W
abbrev FldSl : Value → List Fld → World → Prop := SlG 5 FldE
abbrev NmsSl : Value → List (List UInt8) → World → Prop := SlG 1 StrC
def DfnE (a : Addr) (x : Dfn) (W : World) : Prop := W.cell? (a.add 0) = some (.int .u8 (x.kind.toNat : Int)) ∧ StrC (a.add 1) x.name W ∧ SlC DirSlc (a.add 2) x.dirs W ∧ SlC NmsSl (a.add 3) x.names W ∧ SlC InpSl (a.add 4) x.inputs W ∧ SlC FldSl (a.add 5) x.fields W
abbrev DfnSl : Value → List Dfn → World → Prop := SlG 6 DfnE
theorem cellA_below {w w' : World} {a : Addr} {v : Value} (h : w.cell? a = some v) (hb : Below w.heap.size w w') : w'.cell? a = some v := by
  obtain ⟨o, ho, _⟩ := cells_of_cell h
  exact (hb.cell (p := a) (heap_lt ho)).trans h
theorem SlC.below {α : Type} {Sl : Value → α → World → Prop} {a : Addr} {x : α} {w w' : World} (h : SlC Sl a x w) (hS : ∀ u x, Sl u x w → Sl u x w') (hb : Below w.heap.size w w') : SlC Sl a x w' := by
  obtain ⟨b, l, c, h1, h2⟩ := h
  exact ⟨b, l, c, cellA_below h1 hb, hS _ _ h2⟩
theorem StrC.below {a : Addr} {x : List UInt8} {w w' : World} (h : StrC a x w) (hb : Below w.heap.size w w') : StrC a x w' := cellA_below h hb
theorem SlG.below {α : Type} {k : Nat} {E : Addr → α → World → Prop} {v : Value} {L : List α} {w w' : World} (h : SlG k E v L w) (hE : ∀ a x, E a x w → E a x w') : SlG k E v L w' := by
  rcases h with h | ⟨b, off, cap, h1, h2, h3⟩
  · exact Or.inl h
  · exact Or.inr ⟨b, off, cap, h1, fun i hi => hE _ _ (h2 i hi), h3⟩
theorem InpE.below {a : Addr} {x : Inp} {w w' : World} (h : InpE a x w) (hb : Below w.heap.size w w') : InpE a x w' := by
  obtain ⟨h0, h1, h2, h3, h4, h5⟩ := h
  exact ⟨h0.below hb, h1.below hb, h2.below (fun _ _ h => h.below hb) hb, cellA_below h3 hb, h4.below (fun _ _ h => h.below hb) hb, h5.below (fun _ _ h => DirSlc.below h hb) hb⟩
theorem InpSl.below {v : Value} {L : List Inp} {w w' : World} (h : InpSl v L w) (hb : Below w.heap.size w w') : InpSl v L w' := SlG.below h fun _ _ h => h.below hb
theorem FldE.below {a : Addr} {x : Fld} {w w' : World} (h : FldE a x w) (hb : Below w.heap.size w w') : FldE a x w' := by
  obtain ⟨h0, h1, h2, h3, h4⟩ := h
  exact ⟨h0.below hb, h1.below (fun _ _ h => InpSl.below h hb) hb, h2.below hb, h3.below (fun _ _ h => h.below hb) hb, h4.below (fun _ _ h => DirSlc.below h hb) hb⟩
theorem FldSl.below {v : Value} {L : List Fld} {w w' : World} (h : FldSl v L w) (hb : Below w.heap.size w w') : FldSl v L w' := SlG.below h fun _ _ h => h.below hb
theorem NmsSl.below {v : Value} {L : List (List UInt8)} {w w' : World} (h : NmsSl v L w) (hb : Below w.heap.size w w') : NmsSl v L w' := SlG.below h fun _ _ h => h.below hb
theorem DfnE.below {a : Addr} {x : Dfn} {w w' : World} (h : DfnE a x w) (hb : Below w.heap.size w w') : DfnE a x w' := by
  obtain ⟨h0, h1, h2, h3, h4, h5⟩ := h
  exact ⟨cellA_below h0 hb, h1.below hb, h2.below (fun _ _ h => DirSlc.below h hb) hb, h3.below (fun _ _ h => NmsSl.below h hb) hb, h4.below (fun _ _ h => InpSl.below h hb) hb, h5.below (fun _ _ h => FldSl.below h hb) hb⟩
theorem DfnSl.below {v : Value} {L : List Dfn} {w w' : World} (h : DfnSl v L w) (hb : Below w.heap.size w w') : DfnSl v L w' := SlG.below h fun _ _ h => h.below hb
section
variable {H : Type} {enc : TypeId × Value → H} {w : World} {base : Nat} {spare : Nat → Bool} {held : Bool}
end
end Go.Proofs.YtfagaflgdlomiaaGreatDoor
namespace Go.Proofs.YtfagaflgdlomiaaGreatDoor
open Go.RowKit
noncomputable def eqB {α : Type} (a b : α) : Bool := @decide (a = b) (Classical.propDecidable _)
theorem eqB_iff {α : Type} {a b : α} : eqB a b = true ↔ a = b := by
  unfold eqB
  exact @decide_eq_true_iff (a = b) (Classical.propDecidable _)
theorem eqB_of {α : Type} {a b : α} {x : Bool} (h : x = true ↔ a = b) : x = eqB a b := by rw [Bool.eq_iff_iff, eqB_iff, h]
theorem eqB_str (l m : List UInt8) : ((⟨l.toArray⟩ : ByteArray).toList == (⟨m.toArray⟩ : ByteArray).toList) = eqB l m := by
  rw [ByteArray.toList_eq, ByteArray.toList_eq]
  exact eqB_of (by rw [beq_iff_eq])
def NmV (v : Value) (x : List UInt8) (W : World) : Prop := v = .string ⟨x.toArray⟩
def XV {α : Type} (Sl : Value → α → World → Prop) (v : Value) (x : List UInt8 × α) (W : World) : Prop := ∃ a n c, v = .agg #[.string ⟨x.1.toArray⟩, .slice a n c] ∧ Sl (.slice a n c) x.2 W
abbrev ArgV : Value → ArgD → World → Prop := XV CelSl
abbrev DirV : Value → DirD → World → Prop := XV ArgSlc
def InpV (v : Value) (x : Inp) (W : World) : Prop := ∃ wa wn wc da dn dc ea en ec, v = .agg #[.string ⟨x.name.toArray⟩, .string ⟨x.tnm.toArray⟩, .slice wa wn wc, .bool x.has, .slice da dn dc, .slice ea en ec] ∧ BSl (.slice wa wn wc) x.wr W ∧ CelSl (.slice da dn dc) x.dflt W ∧ DirSlc (.slice ea en ec) x.dirs W
def FldV (v : Value) (x : Fld) (W : World) : Prop := ∃ aa an ac wa wn wc ea en ec, v = .agg #[.string ⟨x.name.toArray⟩, .slice aa an ac, .string ⟨x.tnm.toArray⟩, .slice wa wn wc, .slice ea en ec] ∧ InpSl (.slice aa an ac) x.args W ∧ BSl (.slice wa wn wc) x.wr W ∧ DirSlc (.slice ea en ec) x.dirs W
def DfnV (v : Value) (x : Dfn) (W : World) : Prop := ∃ da dn dc na nn nc ia in_ ic fa fn fc, v = .agg #[.int .u8 (x.kind.toNat : Int), .string ⟨x.name.toArray⟩, .slice da dn dc, .slice na nn nc, .slice ia in_ ic, .slice fa fn fc] ∧ DirSlc (.slice da dn dc) x.dirs W ∧ NmsSl (.slice na nn nc) x.names W ∧ InpSl (.slice ia in_ ic) x.inputs W ∧ FldSl (.slice fa fn fc) x.fields W
theorem ArgV.below {v : Value} {x : ArgD} {w w' : World} (h : ArgV v x w) (hb : Below w.heap.size w w') : ArgV v x w' := by
  obtain ⟨a, n, c, e, h1⟩ := h
  exact ⟨a, n, c, e, CelSl.below h1 hb⟩
theorem DirV.below {v : Value} {x : DirD} {w w' : World} (h : DirV v x w) (hb : Below w.heap.size w w') : DirV v x w' := by
  obtain ⟨a, n, c, e, h1⟩ := h
  exact ⟨a, n, c, e, ArgSlc.below h1 hb⟩
theorem InpV.below {v : Value} {x : Inp} {w w' : World} (h : InpV v x w) (hb : Below w.heap.size w w') : InpV v x w' := by
  obtain ⟨_, _, _, _, _, _, _, _, _, e, h1, h2, h3⟩ := h
  exact ⟨_, _, _, _, _, _, _, _, _, e, h1.below hb, h2.below hb, DirSlc.below h3 hb⟩
theorem FldV.below {v : Value} {x : Fld} {w w' : World} (h : FldV v x w) (hb : Below w.heap.size w w') : FldV v x w' := by
  obtain ⟨_, _, _, _, _, _, _, _, _, e, h1, h2, h3⟩ := h
  exact ⟨_, _, _, _, _, _, _, _, _, e, InpSl.below h1 hb, h2.below hb, DirSlc.below h3 hb⟩
theorem DfnV.below {v : Value} {x : Dfn} {w w' : World} (h : DfnV v x w) (hb : Below w.heap.size w w') : DfnV v x w' := by
  obtain ⟨_, _, _, _, _, _, _, _, _, _, _, _, e, h1, h2, h3, h4⟩ := h
  exact ⟨_, _, _, _, _, _, _, _, _, _, _, _, e, DirSlc.below h1 hb, NmsSl.below h2 hb, InpSl.below h3 hb, FldSl.below h4 hb⟩
theorem inp_at {b off : Nat} {L : List Inp} {W : World} (h : RowG 6 InpE ⟨b, off, none⟩ L W) (i : Nat) (hi : i < L.length) : ∃ wa wn wc da dn dc ea en ec,
    W.cell? ⟨b, off + i * 6, none⟩ = some (.string ⟨L[i].name.toArray⟩) ∧ W.cell? ⟨b, off + i * 6 + 1, none⟩ = some (.string ⟨L[i].tnm.toArray⟩) ∧ W.cell? ⟨b, off + i * 6 + 2, none⟩ = some (.slice wa wn wc) ∧ W.cell? ⟨b, off + i * 6 + 3, none⟩ = some (.bool L[i].has) ∧ W.cell? ⟨b, off + i * 6 + 4, none⟩ = some (.slice da dn dc) ∧ W.cell? ⟨b, off + i * 6 + 5, none⟩ = some (.slice ea en ec) ∧
    BSl (.slice wa wn wc) L[i].wr W ∧ CelSl (.slice da dn dc) L[i].dflt W ∧ DirSlc (.slice ea en ec) L[i].dirs W := by
  have h := h i hi
  unfold InpE at h
  simp only [StrC, SlC, addr_addB, Nat.add_zero] at h
  obtain ⟨h0, h1, ⟨wa, wn, wc, h2, g2⟩, h3, ⟨da, dn, dc, h4, g4⟩, ⟨ea, en, ec, h5, g5⟩⟩ := h
  exact ⟨wa, wn, wc, da, dn, dc, ea, en, ec, h0, h1, h2, h3, h4, h5, g2, g4, g5⟩
theorem fld_at {b off : Nat} {L : List Fld} {W : World} (h : RowG 5 FldE ⟨b, off, none⟩ L W) (i : Nat) (hi : i < L.length) : ∃ aa an ac wa wn wc ea en ec,
    W.cell? ⟨b, off + i * 5, none⟩ = some (.string ⟨L[i].name.toArray⟩) ∧ W.cell? ⟨b, off + i * 5 + 1, none⟩ = some (.slice aa an ac) ∧ W.cell? ⟨b, off + i * 5 + 2, none⟩ = some (.string ⟨L[i].tnm.toArray⟩) ∧ W.cell? ⟨b, off + i * 5 + 3, none⟩ = some (.slice wa wn wc) ∧ W.cell? ⟨b, off + i * 5 + 4, none⟩ = some (.slice ea en ec) ∧
    InpSl (.slice aa an ac) L[i].args W ∧ BSl (.slice wa wn wc) L[i].wr W ∧ DirSlc (.slice ea en ec) L[i].dirs W := by
  have h := h i hi
  unfold FldE at h
  simp only [StrC, SlC, addr_addB, Nat.add_zero] at h
  obtain ⟨h0, ⟨aa, an, ac, h1, g1⟩, h2, ⟨wa, wn, wc, h3, g3⟩, ⟨ea, en, ec, h4, g4⟩⟩ := h
  exact ⟨aa, an, ac, wa, wn, wc, ea, en, ec, h0, h1, h2, h3, h4, g1, g3, g4⟩
theorem dfn_at {b off : Nat} {L : List Dfn} {W : World} (h : RowG 6 DfnE ⟨b, off, none⟩ L W) (i : Nat) (hi : i < L.length) : ∃ da dn dc na nn nc ia in_ ic fa fn fc,
    W.cell? ⟨b, off + i * 6, none⟩ = some (.int .u8 (L[i].kind.toNat : Int)) ∧ W.cell? ⟨b, off + i * 6 + 1, none⟩ = some (.string ⟨L[i].name.toArray⟩) ∧ W.cell? ⟨b, off + i * 6 + 2, none⟩ = some (.slice da dn dc) ∧ W.cell? ⟨b, off + i * 6 + 3, none⟩ = some (.slice na nn nc) ∧ W.cell? ⟨b, off + i * 6 + 4, none⟩ = some (.slice ia in_ ic) ∧ W.cell? ⟨b, off + i * 6 + 5, none⟩ = some (.slice fa fn fc) ∧
    DirSlc (.slice da dn dc) L[i].dirs W ∧ NmsSl (.slice na nn nc) L[i].names W ∧ InpSl (.slice ia in_ ic) L[i].inputs W ∧ FldSl (.slice fa fn fc) L[i].fields W := by
  have h := h i hi
  unfold DfnE at h
  simp only [StrC, SlC, addr_addB, Nat.add_zero] at h
  obtain ⟨h0, h1, ⟨da, dn, dc, h2, g2⟩, ⟨na, nn, nc, h3, g3⟩, ⟨ia, in_, ic, h4, g4⟩, ⟨fa, fn, fc, h5, g5⟩⟩ := h
  exact ⟨da, dn, dc, na, nn, nc, ia, in_, ic, fa, fn, fc, h0, h1, h2, h3, h4, h5, g2, g3, g4, g5⟩
theorem nm_at {b off : Nat} {L : List (List UInt8)} {W : World} (h : RowG 1 StrC ⟨b, off, none⟩ L W) (i : Nat) (hi : i < L.length) : W.cell? ⟨b, off + i, none⟩ = some (.string ⟨L[i].toArray⟩) := by
  have h := h i hi
  rw [Nat.mul_one, addr_addB] at h
  exact h
theorem RowG.below {α : Type} {k : Nat} {E : Addr → α → World → Prop} {a : Addr} {L : List α} {w w' : World} (h : RowG k E a L w) (hE : ∀ a x, E a x w → E a x w') : RowG k E a L w' := fun i hi => hE _ _ (h i hi)
end Go.Proofs.YtfagaflgdlomiaaGreatDoor
namespace Go.Proofs.YtfagaflgdlomiaaGreatDoor
open Go.RowKit Go.WideShapes Go.ChangeShapes Go.Joins Go.Deep
structure SelD where
  kind : UInt8
  als : List UInt8
  name : List UInt8
  args : List ArgD
  dirs : List DirD
  many : Int
def SelE (a : Addr) (x : SelD) (W : World) : Prop := W.cell? (a.add 0) = some (.int .u8 (x.kind.toNat : Int)) ∧ StrC (a.add 1) x.als W ∧ StrC (a.add 2) x.name W ∧ SlC ArgSl (a.add 3) x.args W ∧ SlC DirSlc (a.add 4) x.dirs W ∧ W.cell? (a.add 5) = some (.int .i64 x.many)
abbrev SelSl : Value → List SelD → World → Prop := SlG 6 SelE
theorem SelE.below {a : Addr} {x : SelD} {w w' : World} (h : SelE a x w) (hb : Below w.heap.size w w') : SelE a x w' := by
  obtain ⟨h0, h1, h2, h3, h4, h5⟩ := h
  exact ⟨cellA_below h0 hb, h1.below hb, h2.below hb, h3.below (fun _ _ h => ArgSl.below h hb) hb, h4.below (fun _ _ h => DirSlc.below h hb) hb, cellA_below h5 hb⟩
theorem SelSl.below {v : Value} {L : List SelD} {w w' : World} (h : SelSl v L w) (hb : Below w.heap.size w w') : SelSl v L w' := SlG.below h fun _ _ h => h.below hb
section
variable {H : Type} {enc : TypeId × Value → H} {w : World} {base : Nat} {spare : Nat → Bool} {held : Bool}
end
def SelV (v : Value) (x : SelD) (W : World) : Prop := ∃ a3 n3 c3 a4 n4 c4, v = .agg #[.int .u8 (x.kind.toNat : Int), .string ⟨x.als.toArray⟩, .string ⟨x.name.toArray⟩, .slice a3 n3 c3, .slice a4 n4 c4, .int .i64 x.many] ∧ ArgSl (.slice a3 n3 c3) x.args W ∧ DirSlc (.slice a4 n4 c4) x.dirs W
theorem SelV.below {v : Value} {x : SelD} {w w' : World} (h : SelV v x w) (hb : Below w.heap.size w w') : SelV v x w' := by
  obtain ⟨_, _, _, _, _, _, e, h3, h4⟩ := h
  exact ⟨_, _, _, _, _, _, e, ArgSl.below h3 hb, DirSlc.below h4 hb⟩
theorem Sel_at {b off : Nat} {L : List SelD} {W : World} (h : RowG 6 SelE ⟨b, off, none⟩ L W) (i : Nat) (hi : i < L.length) : ∃ a3 n3 c3 a4 n4 c4,
    W.cell? ⟨b, off + i * 6, none⟩ = some (.int .u8 (L[i].kind.toNat : Int)) ∧ W.cell? ⟨b, off + i * 6 + 1, none⟩ = some (.string ⟨L[i].als.toArray⟩) ∧ W.cell? ⟨b, off + i * 6 + 2, none⟩ = some (.string ⟨L[i].name.toArray⟩) ∧ W.cell? ⟨b, off + i * 6 + 3, none⟩ = some (.slice a3 n3 c3) ∧ W.cell? ⟨b, off + i * 6 + 4, none⟩ = some (.slice a4 n4 c4) ∧ W.cell? ⟨b, off + i * 6 + 5, none⟩ = some (.int .i64 L[i].many) ∧
    ArgSl (.slice a3 n3 c3) L[i].args W ∧ DirSlc (.slice a4 n4 c4) L[i].dirs W := by
  have h := h i hi
  unfold SelE at h
  simp only [StrC, SlC, addr_addB, Nat.add_zero] at h
  obtain ⟨h0, h1, h2, ⟨a3, n3, c3, h3, g3⟩, ⟨a4, n4, c4, h4, g4⟩, h5⟩ := h
  exact ⟨a3, n3, c3, a4, n4, c4, h0, h1, h2, h3, h4, h5, g3, g4⟩
structure OpD where
  kind : UInt8
  name : List UInt8
  vars : List Inp
  many : Int
  sels : List SelD
def OprE (a : Addr) (x : OpD) (W : World) : Prop := W.cell? (a.add 0) = some (.int .u8 (x.kind.toNat : Int)) ∧ StrC (a.add 1) x.name W ∧ SlC InpSl (a.add 2) x.vars W ∧ W.cell? (a.add 3) = some (.int .i64 x.many) ∧ SlC SelSl (a.add 4) x.sels W
abbrev OprSl : Value → List OpD → World → Prop := SlG 5 OprE
theorem OprE.below {a : Addr} {x : OpD} {w w' : World} (h : OprE a x w) (hb : Below w.heap.size w w') : OprE a x w' := by
  obtain ⟨h0, h1, h2, h3, h4⟩ := h
  exact ⟨cellA_below h0 hb, h1.below hb, h2.below (fun _ _ h => InpSl.below h hb) hb, cellA_below h3 hb, h4.below (fun _ _ h => SelSl.below h hb) hb⟩
theorem OprSl.below {v : Value} {L : List OpD} {w w' : World} (h : OprSl v L w) (hb : Below w.heap.size w w') : OprSl v L w' := SlG.below h fun _ _ h => h.below hb
section
variable {H : Type} {enc : TypeId × Value → H} {w : World} {base : Nat} {spare : Nat → Bool} {held : Bool}
end
def OprV (v : Value) (x : OpD) (W : World) : Prop := ∃ a2 n2 c2 a4 n4 c4, v = .agg #[.int .u8 (x.kind.toNat : Int), .string ⟨x.name.toArray⟩, .slice a2 n2 c2, .int .i64 x.many, .slice a4 n4 c4] ∧ InpSl (.slice a2 n2 c2) x.vars W ∧ SelSl (.slice a4 n4 c4) x.sels W
theorem OprV.below {v : Value} {x : OpD} {w w' : World} (h : OprV v x w) (hb : Below w.heap.size w w') : OprV v x w' := by
  obtain ⟨_, _, _, _, _, _, e, h2, h4⟩ := h
  exact ⟨_, _, _, _, _, _, e, InpSl.below h2 hb, SelSl.below h4 hb⟩
theorem Opr_at {b off : Nat} {L : List OpD} {W : World} (h : RowG 5 OprE ⟨b, off, none⟩ L W) (i : Nat) (hi : i < L.length) : ∃ a2 n2 c2 a4 n4 c4,
    W.cell? ⟨b, off + i * 5, none⟩ = some (.int .u8 (L[i].kind.toNat : Int)) ∧ W.cell? ⟨b, off + i * 5 + 1, none⟩ = some (.string ⟨L[i].name.toArray⟩) ∧ W.cell? ⟨b, off + i * 5 + 2, none⟩ = some (.slice a2 n2 c2) ∧ W.cell? ⟨b, off + i * 5 + 3, none⟩ = some (.int .i64 L[i].many) ∧ W.cell? ⟨b, off + i * 5 + 4, none⟩ = some (.slice a4 n4 c4) ∧
    InpSl (.slice a2 n2 c2) L[i].vars W ∧ SelSl (.slice a4 n4 c4) L[i].sels W := by
  have h := h i hi
  unfold OprE at h
  simp only [StrC, SlC, addr_addB, Nat.add_zero] at h
  obtain ⟨h0, h1, ⟨a2, n2, c2, h2, g2⟩, h3, ⟨a4, n4, c4, h4, g4⟩⟩ := h
  exact ⟨a2, n2, c2, a4, n4, c4, h0, h1, h2, h3, h4, g2, g4⟩
structure FrgD where
  name : List UInt8
  on : List UInt8
  many : Int
  sels : List SelD
def FrgE (a : Addr) (x : FrgD) (W : World) : Prop := StrC (a.add 0) x.name W ∧ StrC (a.add 1) x.on W ∧ W.cell? (a.add 2) = some (.int .i64 x.many) ∧ SlC SelSl (a.add 3) x.sels W
abbrev FrgSl : Value → List FrgD → World → Prop := SlG 4 FrgE
theorem FrgE.below {a : Addr} {x : FrgD} {w w' : World} (h : FrgE a x w) (hb : Below w.heap.size w w') : FrgE a x w' := by
  obtain ⟨h0, h1, h2, h3⟩ := h
  exact ⟨h0.below hb, h1.below hb, cellA_below h2 hb, h3.below (fun _ _ h => SelSl.below h hb) hb⟩
theorem FrgSl.below {v : Value} {L : List FrgD} {w w' : World} (h : FrgSl v L w) (hb : Below w.heap.size w w') : FrgSl v L w' := SlG.below h fun _ _ h => h.below hb
section
variable {H : Type} {enc : TypeId × Value → H} {w : World} {base : Nat} {spare : Nat → Bool} {held : Bool}
end
def FrgV (v : Value) (x : FrgD) (W : World) : Prop := ∃ a3 n3 c3, v = .agg #[.string ⟨x.name.toArray⟩, .string ⟨x.on.toArray⟩, .int .i64 x.many, .slice a3 n3 c3] ∧ SelSl (.slice a3 n3 c3) x.sels W
theorem FrgV.below {v : Value} {x : FrgD} {w w' : World} (h : FrgV v x w) (hb : Below w.heap.size w w') : FrgV v x w' := by
  obtain ⟨_, _, _, e, h3⟩ := h
  exact ⟨_, _, _, e, SelSl.below h3 hb⟩
theorem Frg_at {b off : Nat} {L : List FrgD} {W : World} (h : RowG 4 FrgE ⟨b, off, none⟩ L W) (i : Nat) (hi : i < L.length) : ∃ a3 n3 c3,
    W.cell? ⟨b, off + i * 4, none⟩ = some (.string ⟨L[i].name.toArray⟩) ∧ W.cell? ⟨b, off + i * 4 + 1, none⟩ = some (.string ⟨L[i].on.toArray⟩) ∧ W.cell? ⟨b, off + i * 4 + 2, none⟩ = some (.int .i64 L[i].many) ∧ W.cell? ⟨b, off + i * 4 + 3, none⟩ = some (.slice a3 n3 c3) ∧
    SelSl (.slice a3 n3 c3) L[i].sels W := by
  have h := h i hi
  unfold FrgE at h
  simp only [StrC, SlC, addr_addB, Nat.add_zero] at h
  obtain ⟨h0, h1, h2, ⟨a3, n3, c3, h3, g3⟩⟩ := h
  exact ⟨a3, n3, c3, h0, h1, h2, h3, g3⟩
structure DocD where
  ops : List OpD
  frags : List FrgD
def DocV (v : Value) (x : DocD) (W : World) : Prop := ∃ a0 n0 c0 a1 n1 c1, v = .agg #[.slice a0 n0 c0, .slice a1 n1 c1] ∧ OprSl (.slice a0 n0 c0) x.ops W ∧ FrgSl (.slice a1 n1 c1) x.frags W
theorem DocV.below {v : Value} {x : DocD} {w w' : World} (h : DocV v x w) (hb : Below w.heap.size w w') : DocV v x w' := by
  obtain ⟨_, _, _, _, _, _, e, h1, h2⟩ := h
  exact ⟨_, _, _, _, _, _, e, OprSl.below h1 hb, FrgSl.below h2 hb⟩
section
variable {H : Type} {enc : TypeId × Value → H} {w : World} {base : Nat} {spare : Nat → Bool} {held : Bool}
end
end Go.Proofs.YtfagaflgdlomiaaGreatDoor
namespace Go.Proofs.YtfagaflgdlomiaaGreatDoor
def onK : List UInt8 := [111, 110]
/-- A selection by itself: the program's words. -/
noncomputable def selB (x : SelD) : Bool := namedB [] x.args && x.dirs.all dirB && decide (0 ≤ x.many) &&
  (if x.kind = 1 then nameB x.name && (x.als.isEmpty || nameB x.als)
   else if x.kind = 2 then nameB x.name && !eqB x.name onK && x.als.isEmpty && x.args.isEmpty && decide (x.many = 0)
   else if x.kind = 3 then (x.name.isEmpty || nameB x.name) && x.als.isEmpty && x.args.isEmpty && decide (0 < x.many)
   else false)
/-- Is there room for what stands under it, so many braces being open? -/
noncomputable def deepB (x : SelD) (open_ : Nat) : Bool := selB x && !(decide (0 < x.many) && decide (open_ = 16))
/-- The place behind so many selections. -/
noncomputable def runS (L : List SelD) : Nat → Nat → Nat → Nat → Option Nat
  | _, p, 0, _ => some p
  | 0, _, _ + 1, _ => none
  | f + 1, p, r + 1, o => match L[p]? with
    | none => none
    | some x => if deepB x o then (match runS L f (p + 1) x.many.toNat (o + 1) with
      | none => none
      | some q => runS L f q r o) else none
theorem runS_zero (L : List SelD) (f p o : Nat) : runS L f p 0 o = some p := by cases f <;> rfl
theorem runS_out (L : List SelD) (f p r o : Nat) (h : L.length ≤ p) : runS L f p (r + 1) o = none := by
  cases f with
  | zero => rfl
  | succ f => rw [runS, List.getElem?_eq_none h]
theorem runS_no (L : List SelD) (f p r o : Nat) (h : p < L.length) (hx : deepB L[p] o = false) : runS L f p (r + 1) o = none := by
  cases f with
  | zero => rfl
  | succ f => rw [runS, List.getElem?_eq_getElem h]; simp [hx]
theorem runS_bad (L : List SelD) (f p r o : Nat) (h : p < L.length) (hx : deepB L[p] o = true) (hu : runS L f (p + 1) L[p].many.toNat (o + 1) = none) : runS L (f + 1) p (r + 1) o = none := by
  rw [runS, List.getElem?_eq_getElem h]
  simp [hx, hu]
theorem runS_next (L : List SelD) (f p r o q : Nat) (h : p < L.length) (hx : deepB L[p] o = true) (hu : runS L f (p + 1) L[p].many.toNat (o + 1) = some q) : runS L (f + 1) p (r + 1) o = runS L f q r o := by
  rw [runS, List.getElem?_eq_getElem h]
  simp [hx, hu]
/-- Where it ends is behind where it began, and no further than the end. -/
theorem runS_ends (L : List SelD) : ∀ (f p r o q : Nat), p ≤ L.length → runS L f p r o = some q → p ≤ q ∧ q ≤ L.length
  | f, p, 0, o, q, hp, h => by
    rw [runS_zero] at h
    injection h with h
    omega
  | 0, p, r + 1, o, q, hp, h => by cases h
  | f + 1, p, r + 1, o, q, hp, h => by
    by_cases hl : p < L.length
    · cases hx : deepB L[p] o with
      | false => rw [runS_no L _ p r o hl hx] at h; cases h
      | true =>
        cases hu : runS L f (p + 1) L[p].many.toNat (o + 1) with
        | none => rw [runS_bad L f p r o hl hx hu] at h; cases h
        | some m =>
          rw [runS_next L f p r o m hl hx hu] at h
          have h1 := runS_ends L f (p + 1) _ _ m (by omega) hu
          have h2 := runS_ends L f m r o q h1.2 h
          omega
    · rw [runS_out L _ p r o (by omega)] at h; cases h
/-- All, so many at the top. -/
noncomputable def selsB (L : List SelD) (many : Int) : Bool := decide (0 < many) && decide (runS L L.length 0 many.toNat 1 = some L.length)
theorem u8_kind (k : UInt8) (n : Nat) (hn : n < 256) : (k = UInt8.ofNat n) ↔ k.toNat = n := by
  rw [← UInt8.toNat_inj, UInt8.toNat_ofNat', Nat.mod_eq_of_lt (by omega)]
end Go.Proofs.YtfagaflgdlomiaaGreatDoor
namespace Go.Proofs.YtfagaflgdlomiaaGreatDoor
open Go.RowKit
/-- The first place of one that a predicate holds of; -1. -/
def idxA {α : Type} (p : α → Bool) : List α → Nat → Int
  | [], _ => -1
  | c :: r, i => if p c then (i : Int) else idxA p r (i + 1)
theorem idxA_sign {α : Type} (p : α → Bool) : ∀ (V : List α) (i : Nat), decide (0 ≤ idxA p V i) = V.any p
  | [], i => rfl
  | c :: r, i => by
    rw [idxA, List.any_cons]
    cases p c with
    | true => simp
    | false => simpa using idxA_sign p r (i + 1)
set_option maxRecDepth 100000 in
set_option maxHeartbeats 1000000 in
theorem arg_index_row (g : Nat) (lb : Array Value) (eg : ∀ args w, (callFunc g args).run Tryz.prog w = .ok (.enter g args) w) (p : ArgD → Bool) (V : List (ArgD)) (b off cap : Nat) (w : World) (hrow : XRow CelSl b off V w) (hl : V.length ≤ 100000)
    (H : Hid (∀ (W : World) (k : Nat) (hk : k < V.length) (ev : Value), ArgV ev V[k] W → Below w.heap.size w W → Calls Tryz.prog g (#[ev] ++ lb) W fun e w' => e = .returned (.bool (p V[k])) ∧ Below W.heap.size W w')) :
    Calls Tryz.prog 99 #[.slice (some ⟨b, off, none⟩) V.length cap, .func (.func g) #[] lb] w fun e w' => e = .returned (.int .i64 (idxA p V 0)) ∧ Below w.heap.size w w' := by
  have HROW := Lib.hid hrow
  obtain ⟨r, hr⟩ : ∃ r, idxA p V 0 = r := ⟨_, rfl⟩
  have HR : Hid (idxA p (V.drop 0) 0 = r) := Lib.hid hr
  rw [hr]
  clear hr hrow
  go_enter Tryz.func99, Tryz.ntmps99
  go_wp2_with fail
  go_loopw [8] (fun i wr => ∃ k : Nat, k ≤ V.length ∧ i = .int .i64 k ∧ Hid (idxA p (V.drop k) k = r) ∧ Hid (Below w.heap.size w wr)) (fun i wr => V.length - (intOf i).toNat)
  case atStart => exact ⟨0, Nat.zero_le _, rfl, HR, Lib.hid (Below.refl _ _)⟩
  case round =>
    rename World => wr
    obtain ⟨k, hk, rfl, HS, HB⟩ := hrel
    by_cases hlt : k < V.length
    · obtain ⟨yq0, ya, yn, yc, yq1, yy⟩ := (XRow.below HROW.out (fun _ _ h => CelSl.below h HB.out) HB.out) k hlt
      have HC := Lib.hid (H.out wr k hlt _ ⟨_, _, _, rfl, yy⟩ HB.out)
      have hstep := HS.out
      rw [List.drop_eq_getElem_cons hlt, idxA] at hstep
      have hz := HB.out.size
      clear yy
      generalize p V[k] = pk at *
      generalize (⟨V[k].1.toArray⟩ : ByteArray) = x0 at *
      cases pk with
      | true =>
        rw [if_pos rfl] at hstep
        have HF := Lib.hid hstep
        clear hstep HS
        go_wp2_with fail
        refine HC.out.mono ?_; rintro e w1 ⟨rfl, hb⟩
        have HB1 := Lib.hid (HB.out.trans (hb.mono hz))
        clear hb
        go_wp2_with fail
        go_ret
        exact ⟨ret_i HF.out, HB1.out⟩
      | false =>
        rw [if_neg Bool.false_ne_true] at hstep
        have HF := Lib.hid hstep
        clear hstep HS
        go_wp2_with fail
        refine HC.out.mono ?_; rintro e w1 ⟨rfl, hb⟩
        have HB1 := Lib.hid (HB.out.trans (hb.mono hz))
        clear hb
        go_wp2_with fail
        go_roundw
        case rel => exact ⟨k + 1, by omega, by go_num, HF, HB1⟩
        case measure => simp [intOf]; omega
    · have HF : Hid (-1 = r) := Lib.hid (by rw [← HS.out, List.drop_of_length_le (by omega)]; rfl)
      clear HS
      go_wp2_with fail
      go_ret
      exact ⟨ret_i HF.out, HB.out⟩
set_option maxRecDepth 100000 in
theorem arg_index_none (g : Nat) (lb : Array Value) (p : ArgD → Bool) (a : Option Addr) (cap : Nat) (w : World) :
    Calls Tryz.prog 99 #[.slice a 0 cap, .func (.func g) #[] lb] w fun e w' => e = .returned (.int .i64 (idxA p [] 0)) ∧ Below w.heap.size w w' := by
  go_enter Tryz.func99, Tryz.ntmps99
  go_wp2_with fail
  refine wp_loop_rounds 1 ?_; rw [rounds_succ]
  go_wp2_with fail
  go_ret
  exact ⟨rfl, Below.refl _ _⟩
set_option maxRecDepth 100000 in
theorem arg_contains (g : Nat) (lb : Array Value) (eg : ∀ args w, (callFunc g args).run Tryz.prog w = .ok (.enter g args) w) (p : ArgD → Bool) (V : List (ArgD)) (v : Value) (w : World) (hv : ArgSl v V w) (hl : V.length ≤ 100000)
    (H : Hid (∀ (W : World) (k : Nat) (hk : k < V.length) (ev : Value), ArgV ev V[k] W → Below w.heap.size w W → Calls Tryz.prog g (#[ev] ++ lb) W fun e w' => e = .returned (.bool (p V[k])) ∧ Below W.heap.size W w')) :
    Calls Tryz.prog 84 #[v, .func (.func g) #[] lb] w fun e w' => e = .returned (.bool (V.any p)) ∧ Below w.heap.size w w' := by
  have HI : Hid (Calls Tryz.prog 99 #[v, .func (.func g) #[] lb] w fun e w' => e = .returned (.int .i64 (idxA p V 0)) ∧ Below w.heap.size w w') := Lib.hid (by
    rcases hv with ⟨a, c, rfl, rfl⟩ | ⟨b, off, cap, rfl, hrow, hpos⟩
    · exact arg_index_none g lb p a c w
    · exact arg_index_row g lb eg p V b off cap w hrow hl H)
  have hsg := idxA_sign p V 0
  generalize idxA p V 0 = i at *
  rw [← hsg]
  clear H hv hsg eg
  go_enter Tryz.func84, Tryz.ntmps84
  go_wp2_with fail
  refine HI.out.mono ?_; rintro e w1 ⟨rfl, hb⟩
  go_wp2_with fail
  go_ret
  exact ⟨rfl, hb⟩
set_option maxRecDepth 100000 in
set_option maxHeartbeats 1000000 in
theorem dir_index_row (g : Nat) (lb : Array Value) (eg : ∀ args w, (callFunc g args).run Tryz.prog w = .ok (.enter g args) w) (p : DirD → Bool) (V : List (DirD)) (b off cap : Nat) (w : World) (hrow : XRow ArgSlc b off V w) (hl : V.length ≤ 100000)
    (H : Hid (∀ (W : World) (k : Nat) (hk : k < V.length) (ev : Value), DirV ev V[k] W → Below w.heap.size w W → Calls Tryz.prog g (#[ev] ++ lb) W fun e w' => e = .returned (.bool (p V[k])) ∧ Below W.heap.size W w')) :
    Calls Tryz.prog 83 #[.slice (some ⟨b, off, none⟩) V.length cap, .func (.func g) #[] lb] w fun e w' => e = .returned (.int .i64 (idxA p V 0)) ∧ Below w.heap.size w w' := by
  have HROW := Lib.hid hrow
  obtain ⟨r, hr⟩ : ∃ r, idxA p V 0 = r := ⟨_, rfl⟩
  have HR : Hid (idxA p (V.drop 0) 0 = r) := Lib.hid hr
  rw [hr]
  clear hr hrow
  go_enter Tryz.func83, Tryz.ntmps83
  go_wp2_with fail
  go_loopw [8] (fun i wr => ∃ k : Nat, k ≤ V.length ∧ i = .int .i64 k ∧ Hid (idxA p (V.drop k) k = r) ∧ Hid (Below w.heap.size w wr)) (fun i wr => V.length - (intOf i).toNat)
  case atStart => exact ⟨0, Nat.zero_le _, rfl, HR, Lib.hid (Below.refl _ _)⟩
  case round =>
    rename World => wr
    obtain ⟨k, hk, rfl, HS, HB⟩ := hrel
    by_cases hlt : k < V.length
    · obtain ⟨yq0, ya, yn, yc, yq1, yy⟩ := (XRow.below HROW.out (fun _ _ h => ArgSlc.below h HB.out) HB.out) k hlt
      have HC := Lib.hid (H.out wr k hlt _ ⟨_, _, _, rfl, yy⟩ HB.out)
      have hstep := HS.out
      rw [List.drop_eq_getElem_cons hlt, idxA] at hstep
      have hz := HB.out.size
      clear yy
      generalize p V[k] = pk at *
      generalize (⟨V[k].1.toArray⟩ : ByteArray) = x0 at *
      cases pk with
      | true =>
        rw [if_pos rfl] at hstep
        have HF := Lib.hid hstep
        clear hstep HS
        go_wp2_with fail
        refine HC.out.mono ?_; rintro e w1 ⟨rfl, hb⟩
        have HB1 := Lib.hid (HB.out.trans (hb.mono hz))
        clear hb
        go_wp2_with fail
        go_ret
        exact ⟨ret_i HF.out, HB1.out⟩
      | false =>
        rw [if_neg Bool.false_ne_true] at hstep
        have HF := Lib.hid hstep
        clear hstep HS
        go_wp2_with fail
        refine HC.out.mono ?_; rintro e w1 ⟨rfl, hb⟩
        have HB1 := Lib.hid (HB.out.trans (hb.mono hz))
        clear hb
        go_wp2_with fail
        go_roundw
        case rel => exact ⟨k + 1, by omega, by go_num, HF, HB1⟩
        case measure => simp [intOf]; omega
    · have HF : Hid (-1 = r) := Lib.hid (by rw [← HS.out, List.drop_of_length_le (by omega)]; rfl)
      clear HS
      go_wp2_with fail
      go_ret
      exact ⟨ret_i HF.out, HB.out⟩
set_option maxRecDepth 100000 in
theorem dir_index_none (g : Nat) (lb : Array Value) (p : DirD → Bool) (a : Option Addr) (cap : Nat) (w : World) :
    Calls Tryz.prog 83 #[.slice a 0 cap, .func (.func g) #[] lb] w fun e w' => e = .returned (.int .i64 (idxA p [] 0)) ∧ Below w.heap.size w w' := by
  go_enter Tryz.func83, Tryz.ntmps83
  go_wp2_with fail
  refine wp_loop_rounds 1 ?_; rw [rounds_succ]
  go_wp2_with fail
  go_ret
  exact ⟨rfl, Below.refl _ _⟩
set_option maxRecDepth 100000 in
theorem dir_contains (g : Nat) (lb : Array Value) (eg : ∀ args w, (callFunc g args).run Tryz.prog w = .ok (.enter g args) w) (p : DirD → Bool) (V : List (DirD)) (v : Value) (w : World) (hv : DirSlc v V w) (hl : V.length ≤ 100000)
    (H : Hid (∀ (W : World) (k : Nat) (hk : k < V.length) (ev : Value), DirV ev V[k] W → Below w.heap.size w W → Calls Tryz.prog g (#[ev] ++ lb) W fun e w' => e = .returned (.bool (p V[k])) ∧ Below W.heap.size W w')) :
    Calls Tryz.prog 60 #[v, .func (.func g) #[] lb] w fun e w' => e = .returned (.bool (V.any p)) ∧ Below w.heap.size w w' := by
  have HI : Hid (Calls Tryz.prog 83 #[v, .func (.func g) #[] lb] w fun e w' => e = .returned (.int .i64 (idxA p V 0)) ∧ Below w.heap.size w w') := Lib.hid (by
    rcases hv with ⟨a, c, rfl, rfl⟩ | ⟨b, off, cap, rfl, hrow, hpos⟩
    · exact dir_index_none g lb p a c w
    · exact dir_index_row g lb eg p V b off cap w hrow hl H)
  have hsg := idxA_sign p V 0
  generalize idxA p V 0 = i at *
  rw [← hsg]
  clear H hv hsg eg
  go_enter Tryz.func60, Tryz.ntmps60
  go_wp2_with fail
  refine HI.out.mono ?_; rintro e w1 ⟨rfl, hb⟩
  go_wp2_with fail
  go_ret
  exact ⟨rfl, hb⟩
set_option maxRecDepth 100000 in
set_option maxHeartbeats 1000000 in
theorem inp_index_row (g : Nat) (lb : Array Value) (eg : ∀ args w, (callFunc g args).run Tryz.prog w = .ok (.enter g args) w) (p : Inp → Bool) (V : List (Inp)) (b off cap : Nat) (w : World) (hrow : RowG 6 InpE ⟨b, off, none⟩ V w) (hl : V.length ≤ 100000)
    (H : Hid (∀ (W : World) (k : Nat) (hk : k < V.length) (ev : Value), InpV ev V[k] W → Below w.heap.size w W → Calls Tryz.prog g (#[ev] ++ lb) W fun e w' => e = .returned (.bool (p V[k])) ∧ Below W.heap.size W w')) :
    Calls Tryz.prog 79 #[.slice (some ⟨b, off, none⟩) V.length cap, .func (.func g) #[] lb] w fun e w' => e = .returned (.int .i64 (idxA p V 0)) ∧ Below w.heap.size w w' := by
  have HROW := Lib.hid hrow
  obtain ⟨r, hr⟩ : ∃ r, idxA p V 0 = r := ⟨_, rfl⟩
  have HR : Hid (idxA p (V.drop 0) 0 = r) := Lib.hid hr
  rw [hr]
  clear hr hrow
  go_enter Tryz.func79, Tryz.ntmps79
  go_wp2_with fail
  go_loopw [8] (fun i wr => ∃ k : Nat, k ≤ V.length ∧ i = .int .i64 k ∧ Hid (idxA p (V.drop k) k = r) ∧ Hid (Below w.heap.size w wr)) (fun i wr => V.length - (intOf i).toNat)
  case atStart => exact ⟨0, Nat.zero_le _, rfl, HR, Lib.hid (Below.refl _ _)⟩
  case round =>
    rename World => wr
    obtain ⟨k, hk, rfl, HS, HB⟩ := hrel
    by_cases hlt : k < V.length
    · obtain ⟨y0, y1, y2, y3, y4, y5, y6, y7, y8, yq0, yq1, yq2, yq3, yq4, yq5, yy, yz, yu⟩ := inp_at (RowG.below HROW.out fun _ _ h => InpE.below h HB.out) k hlt
      have HC := Lib.hid (H.out wr k hlt _ ⟨_, _, _, _, _, _, _, _, _, rfl, yy, yz, yu⟩ HB.out)
      have hstep := HS.out
      rw [List.drop_eq_getElem_cons hlt, idxA] at hstep
      have hz := HB.out.size
      clear yy yz yu
      generalize p V[k] = pk at *
      generalize V[k].has = hs at *
      generalize (⟨V[k].name.toArray⟩ : ByteArray) = x0 at *
      generalize (⟨V[k].tnm.toArray⟩ : ByteArray) = x1 at *
      cases pk with
      | true =>
        rw [if_pos rfl] at hstep
        have HF := Lib.hid hstep
        clear hstep HS
        go_wp2_with fail
        refine HC.out.mono ?_; rintro e w1 ⟨rfl, hb⟩
        have HB1 := Lib.hid (HB.out.trans (hb.mono hz))
        clear hb
        go_wp2_with fail
        go_ret
        exact ⟨ret_i HF.out, HB1.out⟩
      | false =>
        rw [if_neg Bool.false_ne_true] at hstep
        have HF := Lib.hid hstep
        clear hstep HS
        go_wp2_with fail
        refine HC.out.mono ?_; rintro e w1 ⟨rfl, hb⟩
        have HB1 := Lib.hid (HB.out.trans (hb.mono hz))
        clear hb
        go_wp2_with fail
        go_roundw
        case rel => exact ⟨k + 1, by omega, by go_num, HF, HB1⟩
        case measure => simp [intOf]; omega
    · have HF : Hid (-1 = r) := Lib.hid (by rw [← HS.out, List.drop_of_length_le (by omega)]; rfl)
      clear HS
      go_wp2_with fail
      go_ret
      exact ⟨ret_i HF.out, HB.out⟩
set_option maxRecDepth 100000 in
theorem inp_index_none (g : Nat) (lb : Array Value) (p : Inp → Bool) (a : Option Addr) (cap : Nat) (w : World) :
    Calls Tryz.prog 79 #[.slice a 0 cap, .func (.func g) #[] lb] w fun e w' => e = .returned (.int .i64 (idxA p [] 0)) ∧ Below w.heap.size w w' := by
  go_enter Tryz.func79, Tryz.ntmps79
  go_wp2_with fail
  refine wp_loop_rounds 1 ?_; rw [rounds_succ]
  go_wp2_with fail
  go_ret
  exact ⟨rfl, Below.refl _ _⟩
set_option maxRecDepth 100000 in
theorem inp_contains (g : Nat) (lb : Array Value) (eg : ∀ args w, (callFunc g args).run Tryz.prog w = .ok (.enter g args) w) (p : Inp → Bool) (V : List (Inp)) (v : Value) (w : World) (hv : InpSl v V w) (hl : V.length ≤ 100000)
    (H : Hid (∀ (W : World) (k : Nat) (hk : k < V.length) (ev : Value), InpV ev V[k] W → Below w.heap.size w W → Calls Tryz.prog g (#[ev] ++ lb) W fun e w' => e = .returned (.bool (p V[k])) ∧ Below W.heap.size W w')) :
    Calls Tryz.prog 52 #[v, .func (.func g) #[] lb] w fun e w' => e = .returned (.bool (V.any p)) ∧ Below w.heap.size w w' := by
  have HI : Hid (Calls Tryz.prog 79 #[v, .func (.func g) #[] lb] w fun e w' => e = .returned (.int .i64 (idxA p V 0)) ∧ Below w.heap.size w w') := Lib.hid (by
    rcases hv with ⟨a, c, rfl, rfl⟩ | ⟨b, off, cap, rfl, hrow, hpos⟩
    · exact inp_index_none g lb p a c w
    · exact inp_index_row g lb eg p V b off cap w hrow hl H)
  have hsg := idxA_sign p V 0
  generalize idxA p V 0 = i at *
  rw [← hsg]
  clear H hv hsg eg
  go_enter Tryz.func52, Tryz.ntmps52
  go_wp2_with fail
  refine HI.out.mono ?_; rintro e w1 ⟨rfl, hb⟩
  go_wp2_with fail
  go_ret
  exact ⟨rfl, hb⟩
set_option maxRecDepth 100000 in
set_option maxHeartbeats 1000000 in
theorem fld_index_row (g : Nat) (lb : Array Value) (eg : ∀ args w, (callFunc g args).run Tryz.prog w = .ok (.enter g args) w) (p : Fld → Bool) (V : List (Fld)) (b off cap : Nat) (w : World) (hrow : RowG 5 FldE ⟨b, off, none⟩ V w) (hl : V.length ≤ 100000)
    (H : Hid (∀ (W : World) (k : Nat) (hk : k < V.length) (ev : Value), FldV ev V[k] W → Below w.heap.size w W → Calls Tryz.prog g (#[ev] ++ lb) W fun e w' => e = .returned (.bool (p V[k])) ∧ Below W.heap.size W w')) :
    Calls Tryz.prog 59 #[.slice (some ⟨b, off, none⟩) V.length cap, .func (.func g) #[] lb] w fun e w' => e = .returned (.int .i64 (idxA p V 0)) ∧ Below w.heap.size w w' := by
  have HROW := Lib.hid hrow
  obtain ⟨r, hr⟩ : ∃ r, idxA p V 0 = r := ⟨_, rfl⟩
  have HR : Hid (idxA p (V.drop 0) 0 = r) := Lib.hid hr
  rw [hr]
  clear hr hrow
  go_enter Tryz.func59, Tryz.ntmps59
  go_wp2_with fail
  go_loopw [8] (fun i wr => ∃ k : Nat, k ≤ V.length ∧ i = .int .i64 k ∧ Hid (idxA p (V.drop k) k = r) ∧ Hid (Below w.heap.size w wr)) (fun i wr => V.length - (intOf i).toNat)
  case atStart => exact ⟨0, Nat.zero_le _, rfl, HR, Lib.hid (Below.refl _ _)⟩
  case round =>
    rename World => wr
    obtain ⟨k, hk, rfl, HS, HB⟩ := hrel
    by_cases hlt : k < V.length
    · obtain ⟨y0, y1, y2, y3, y4, y5, y6, y7, y8, yq0, yq1, yq2, yq3, yq4, yy, yz, yu⟩ := fld_at (RowG.below HROW.out fun _ _ h => FldE.below h HB.out) k hlt
      have HC := Lib.hid (H.out wr k hlt _ ⟨_, _, _, _, _, _, _, _, _, rfl, yy, yz, yu⟩ HB.out)
      have hstep := HS.out
      rw [List.drop_eq_getElem_cons hlt, idxA] at hstep
      have hz := HB.out.size
      clear yy yz yu
      generalize p V[k] = pk at *
      generalize (⟨V[k].name.toArray⟩ : ByteArray) = x0 at *
      generalize (⟨V[k].tnm.toArray⟩ : ByteArray) = x1 at *
      cases pk with
      | true =>
        rw [if_pos rfl] at hstep
        have HF := Lib.hid hstep
        clear hstep HS
        go_wp2_with fail
        refine HC.out.mono ?_; rintro e w1 ⟨rfl, hb⟩
        have HB1 := Lib.hid (HB.out.trans (hb.mono hz))
        clear hb
        go_wp2_with fail
        go_ret
        exact ⟨ret_i HF.out, HB1.out⟩
      | false =>
        rw [if_neg Bool.false_ne_true] at hstep
        have HF := Lib.hid hstep
        clear hstep HS
        go_wp2_with fail
        refine HC.out.mono ?_; rintro e w1 ⟨rfl, hb⟩
        have HB1 := Lib.hid (HB.out.trans (hb.mono hz))
        clear hb
        go_wp2_with fail
        go_roundw
        case rel => exact ⟨k + 1, by omega, by go_num, HF, HB1⟩
        case measure => simp [intOf]; omega
    · have HF : Hid (-1 = r) := Lib.hid (by rw [← HS.out, List.drop_of_length_le (by omega)]; rfl)
      clear HS
      go_wp2_with fail
      go_ret
      exact ⟨ret_i HF.out, HB.out⟩
set_option maxRecDepth 100000 in
theorem fld_index_none (g : Nat) (lb : Array Value) (p : Fld → Bool) (a : Option Addr) (cap : Nat) (w : World) :
    Calls Tryz.prog 59 #[.slice a 0 cap, .func (.func g) #[] lb] w fun e w' => e = .returned (.int .i64 (idxA p [] 0)) ∧ Below w.heap.size w w' := by
  go_enter Tryz.func59, Tryz.ntmps59
  go_wp2_with fail
  refine wp_loop_rounds 1 ?_; rw [rounds_succ]
  go_wp2_with fail
  go_ret
  exact ⟨rfl, Below.refl _ _⟩
set_option maxRecDepth 100000 in
theorem fld_contains (g : Nat) (lb : Array Value) (eg : ∀ args w, (callFunc g args).run Tryz.prog w = .ok (.enter g args) w) (p : Fld → Bool) (V : List (Fld)) (v : Value) (w : World) (hv : FldSl v V w) (hl : V.length ≤ 100000)
    (H : Hid (∀ (W : World) (k : Nat) (hk : k < V.length) (ev : Value), FldV ev V[k] W → Below w.heap.size w W → Calls Tryz.prog g (#[ev] ++ lb) W fun e w' => e = .returned (.bool (p V[k])) ∧ Below W.heap.size W w')) :
    Calls Tryz.prog 33 #[v, .func (.func g) #[] lb] w fun e w' => e = .returned (.bool (V.any p)) ∧ Below w.heap.size w w' := by
  have HI : Hid (Calls Tryz.prog 59 #[v, .func (.func g) #[] lb] w fun e w' => e = .returned (.int .i64 (idxA p V 0)) ∧ Below w.heap.size w w') := Lib.hid (by
    rcases hv with ⟨a, c, rfl, rfl⟩ | ⟨b, off, cap, rfl, hrow, hpos⟩
    · exact fld_index_none g lb p a c w
    · exact fld_index_row g lb eg p V b off cap w hrow hl H)
  have hsg := idxA_sign p V 0
  generalize idxA p V 0 = i at *
  rw [← hsg]
  clear H hv hsg eg
  go_enter Tryz.func33, Tryz.ntmps33
  go_wp2_with fail
  refine HI.out.mono ?_; rintro e w1 ⟨rfl, hb⟩
  go_wp2_with fail
  go_ret
  exact ⟨rfl, hb⟩
set_option maxRecDepth 100000 in
set_option maxHeartbeats 1000000 in
theorem dfn_index_row (g : Nat) (lb : Array Value) (eg : ∀ args w, (callFunc g args).run Tryz.prog w = .ok (.enter g args) w) (p : Dfn → Bool) (V : List (Dfn)) (b off cap : Nat) (w : World) (hrow : RowG 6 DfnE ⟨b, off, none⟩ V w) (hl : V.length ≤ 100000)
    (H : Hid (∀ (W : World) (k : Nat) (hk : k < V.length) (ev : Value), DfnV ev V[k] W → Below w.heap.size w W → Calls Tryz.prog g (#[ev] ++ lb) W fun e w' => e = .returned (.bool (p V[k])) ∧ Below W.heap.size W w')) :
    Calls Tryz.prog 65 #[.slice (some ⟨b, off, none⟩) V.length cap, .func (.func g) #[] lb] w fun e w' => e = .returned (.int .i64 (idxA p V 0)) ∧ Below w.heap.size w w' := by
  have HROW := Lib.hid hrow
  obtain ⟨r, hr⟩ : ∃ r, idxA p V 0 = r := ⟨_, rfl⟩
  have HR : Hid (idxA p (V.drop 0) 0 = r) := Lib.hid hr
  rw [hr]
  clear hr hrow
  go_enter Tryz.func65, Tryz.ntmps65
  go_wp2_with fail
  go_loopw [8] (fun i wr => ∃ k : Nat, k ≤ V.length ∧ i = .int .i64 k ∧ Hid (idxA p (V.drop k) k = r) ∧ Hid (Below w.heap.size w wr)) (fun i wr => V.length - (intOf i).toNat)
  case atStart => exact ⟨0, Nat.zero_le _, rfl, HR, Lib.hid (Below.refl _ _)⟩
  case round =>
    rename World => wr
    obtain ⟨k, hk, rfl, HS, HB⟩ := hrel
    by_cases hlt : k < V.length
    · obtain ⟨y0, y1, y2, y3, y4, y5, y6, y7, y8, y9, y10, y11, yq0, yq1, yq2, yq3, yq4, yq5, yy, yz, yu, yv⟩ := dfn_at (RowG.below HROW.out fun _ _ h => DfnE.below h HB.out) k hlt
      have HC := Lib.hid (H.out wr k hlt _ ⟨_, _, _, _, _, _, _, _, _, _, _, _, rfl, yy, yz, yu, yv⟩ HB.out)
      have hstep := HS.out
      rw [List.drop_eq_getElem_cons hlt, idxA] at hstep
      have hz := HB.out.size
      clear yy yz yu yv
      generalize p V[k] = pk at *
      generalize (V[k].kind.toNat : Int) = kk at *
      generalize (⟨V[k].name.toArray⟩ : ByteArray) = x0 at *
      cases pk with
      | true =>
        rw [if_pos rfl] at hstep
        have HF := Lib.hid hstep
        clear hstep HS
        go_wp2_with fail
        refine HC.out.mono ?_; rintro e w1 ⟨rfl, hb⟩
        have HB1 := Lib.hid (HB.out.trans (hb.mono hz))
        clear hb
        go_wp2_with fail
        go_ret
        exact ⟨ret_i HF.out, HB1.out⟩
      | false =>
        rw [if_neg Bool.false_ne_true] at hstep
        have HF := Lib.hid hstep
        clear hstep HS
        go_wp2_with fail
        refine HC.out.mono ?_; rintro e w1 ⟨rfl, hb⟩
        have HB1 := Lib.hid (HB.out.trans (hb.mono hz))
        clear hb
        go_wp2_with fail
        go_roundw
        case rel => exact ⟨k + 1, by omega, by go_num, HF, HB1⟩
        case measure => simp [intOf]; omega
    · have HF : Hid (-1 = r) := Lib.hid (by rw [← HS.out, List.drop_of_length_le (by omega)]; rfl)
      clear HS
      go_wp2_with fail
      go_ret
      exact ⟨ret_i HF.out, HB.out⟩
set_option maxRecDepth 100000 in
theorem dfn_index_none (g : Nat) (lb : Array Value) (p : Dfn → Bool) (a : Option Addr) (cap : Nat) (w : World) :
    Calls Tryz.prog 65 #[.slice a 0 cap, .func (.func g) #[] lb] w fun e w' => e = .returned (.int .i64 (idxA p [] 0)) ∧ Below w.heap.size w w' := by
  go_enter Tryz.func65, Tryz.ntmps65
  go_wp2_with fail
  refine wp_loop_rounds 1 ?_; rw [rounds_succ]
  go_wp2_with fail
  go_ret
  exact ⟨rfl, Below.refl _ _⟩
set_option maxRecDepth 100000 in
theorem dfn_contains (g : Nat) (lb : Array Value) (eg : ∀ args w, (callFunc g args).run Tryz.prog w = .ok (.enter g args) w) (p : Dfn → Bool) (V : List (Dfn)) (v : Value) (w : World) (hv : DfnSl v V w) (hl : V.length ≤ 100000)
    (H : Hid (∀ (W : World) (k : Nat) (hk : k < V.length) (ev : Value), DfnV ev V[k] W → Below w.heap.size w W → Calls Tryz.prog g (#[ev] ++ lb) W fun e w' => e = .returned (.bool (p V[k])) ∧ Below W.heap.size W w')) :
    Calls Tryz.prog 38 #[v, .func (.func g) #[] lb] w fun e w' => e = .returned (.bool (V.any p)) ∧ Below w.heap.size w w' := by
  have HI : Hid (Calls Tryz.prog 65 #[v, .func (.func g) #[] lb] w fun e w' => e = .returned (.int .i64 (idxA p V 0)) ∧ Below w.heap.size w w') := Lib.hid (by
    rcases hv with ⟨a, c, rfl, rfl⟩ | ⟨b, off, cap, rfl, hrow, hpos⟩
    · exact dfn_index_none g lb p a c w
    · exact dfn_index_row g lb eg p V b off cap w hrow hl H)
  have hsg := idxA_sign p V 0
  generalize idxA p V 0 = i at *
  rw [← hsg]
  clear H hv hsg eg
  go_enter Tryz.func38, Tryz.ntmps38
  go_wp2_with fail
  refine HI.out.mono ?_; rintro e w1 ⟨rfl, hb⟩
  go_wp2_with fail
  go_ret
  exact ⟨rfl, hb⟩
set_option maxRecDepth 100000 in
set_option maxHeartbeats 1000000 in
theorem nam_index_row (g : Nat) (lb : Array Value) (eg : ∀ args w, (callFunc g args).run Tryz.prog w = .ok (.enter g args) w) (p : List UInt8 → Bool) (V : List (List UInt8)) (b off cap : Nat) (w : World) (hrow : RowG 1 StrC ⟨b, off, none⟩ V w) (hl : V.length ≤ 100000)
    (H : Hid (∀ (W : World) (k : Nat) (hk : k < V.length) (ev : Value), NmV ev V[k] W → Below w.heap.size w W → Calls Tryz.prog g (#[ev] ++ lb) W fun e w' => e = .returned (.bool (p V[k])) ∧ Below W.heap.size W w')) :
    Calls Tryz.prog 56 #[.slice (some ⟨b, off, none⟩) V.length cap, .func (.func g) #[] lb] w fun e w' => e = .returned (.int .i64 (idxA p V 0)) ∧ Below w.heap.size w w' := by
  have HROW := Lib.hid hrow
  obtain ⟨r, hr⟩ : ∃ r, idxA p V 0 = r := ⟨_, rfl⟩
  have HR : Hid (idxA p (V.drop 0) 0 = r) := Lib.hid hr
  rw [hr]
  clear hr hrow
  go_enter Tryz.func56, Tryz.ntmps56
  go_wp2_with fail
  go_loopw [8] (fun i wr => ∃ k : Nat, k ≤ V.length ∧ i = .int .i64 k ∧ Hid (idxA p (V.drop k) k = r) ∧ Hid (Below w.heap.size w wr)) (fun i wr => V.length - (intOf i).toNat)
  case atStart => exact ⟨0, Nat.zero_le _, rfl, HR, Lib.hid (Below.refl _ _)⟩
  case round =>
    rename World => wr
    obtain ⟨k, hk, rfl, HS, HB⟩ := hrel
    by_cases hlt : k < V.length
    · have y0 := nm_at (RowG.below HROW.out fun _ _ h => StrC.below h HB.out) k hlt
      have HC := Lib.hid (H.out wr k hlt _ rfl HB.out)
      have hstep := HS.out
      rw [List.drop_eq_getElem_cons hlt, idxA] at hstep
      have hz := HB.out.size
      skip
      generalize p V[k] = pk at *
      generalize (⟨V[k].toArray⟩ : ByteArray) = x0 at *
      cases pk with
      | true =>
        rw [if_pos rfl] at hstep
        have HF := Lib.hid hstep
        clear hstep HS
        go_wp2_with fail
        refine HC.out.mono ?_; rintro e w1 ⟨rfl, hb⟩
        have HB1 := Lib.hid (HB.out.trans (hb.mono hz))
        clear hb
        go_wp2_with fail
        go_ret
        exact ⟨ret_i HF.out, HB1.out⟩
      | false =>
        rw [if_neg Bool.false_ne_true] at hstep
        have HF := Lib.hid hstep
        clear hstep HS
        go_wp2_with fail
        refine HC.out.mono ?_; rintro e w1 ⟨rfl, hb⟩
        have HB1 := Lib.hid (HB.out.trans (hb.mono hz))
        clear hb
        go_wp2_with fail
        go_roundw
        case rel => exact ⟨k + 1, by omega, by go_num, HF, HB1⟩
        case measure => simp [intOf]; omega
    · have HF : Hid (-1 = r) := Lib.hid (by rw [← HS.out, List.drop_of_length_le (by omega)]; rfl)
      clear HS
      go_wp2_with fail
      go_ret
      exact ⟨ret_i HF.out, HB.out⟩
set_option maxRecDepth 100000 in
theorem nam_index_none (g : Nat) (lb : Array Value) (p : List UInt8 → Bool) (a : Option Addr) (cap : Nat) (w : World) :
    Calls Tryz.prog 56 #[.slice a 0 cap, .func (.func g) #[] lb] w fun e w' => e = .returned (.int .i64 (idxA p [] 0)) ∧ Below w.heap.size w w' := by
  go_enter Tryz.func56, Tryz.ntmps56
  go_wp2_with fail
  refine wp_loop_rounds 1 ?_; rw [rounds_succ]
  go_wp2_with fail
  go_ret
  exact ⟨rfl, Below.refl _ _⟩
set_option maxRecDepth 100000 in
theorem nam_contains (g : Nat) (lb : Array Value) (eg : ∀ args w, (callFunc g args).run Tryz.prog w = .ok (.enter g args) w) (p : List UInt8 → Bool) (V : List (List UInt8)) (v : Value) (w : World) (hv : NmsSl v V w) (hl : V.length ≤ 100000)
    (H : Hid (∀ (W : World) (k : Nat) (hk : k < V.length) (ev : Value), NmV ev V[k] W → Below w.heap.size w W → Calls Tryz.prog g (#[ev] ++ lb) W fun e w' => e = .returned (.bool (p V[k])) ∧ Below W.heap.size W w')) :
    Calls Tryz.prog 29 #[v, .func (.func g) #[] lb] w fun e w' => e = .returned (.bool (V.any p)) ∧ Below w.heap.size w w' := by
  have HI : Hid (Calls Tryz.prog 56 #[v, .func (.func g) #[] lb] w fun e w' => e = .returned (.int .i64 (idxA p V 0)) ∧ Below w.heap.size w w') := Lib.hid (by
    rcases hv with ⟨a, c, rfl, rfl⟩ | ⟨b, off, cap, rfl, hrow, hpos⟩
    · exact nam_index_none g lb p a c w
    · exact nam_index_row g lb eg p V b off cap w hrow hl H)
  have hsg := idxA_sign p V 0
  generalize idxA p V 0 = i at *
  rw [← hsg]
  clear H hv hsg eg
  go_enter Tryz.func29, Tryz.ntmps29
  go_wp2_with fail
  refine HI.out.mono ?_; rintro e w1 ⟨rfl, hb⟩
  go_wp2_with fail
  go_ret
  exact ⟨rfl, hb⟩
end Go.Proofs.YtfagaflgdlomiaaGreatDoor
namespace Go.Proofs.YtfagaflgdlomiaaGreatDoor
open Go.RowKit
def ArgSm (x : ArgD) : Prop := x.1.length ≤ 1000000 ∧ SmallV x.2
def DirSm (x : DirD) : Prop := x.1.length ≤ 1000000 ∧ ArgsSm x.2
def InpSm (x : Inp) : Prop := x.name.length ≤ 9223372036854775807 ∧ x.tnm.length ≤ 9223372036854775807 ∧ x.wr.length ≤ 100000 ∧ SmallV x.dflt ∧ DirsSm x.dirs
def InpsSm (L : List Inp) : Prop := L.length ≤ 100000 ∧ ∀ x ∈ L, InpSm x
def FldSm (x : Fld) : Prop := x.name.length ≤ 9223372036854775807 ∧ x.tnm.length ≤ 9223372036854775807 ∧ x.wr.length ≤ 100000 ∧ InpsSm x.args ∧ DirsSm x.dirs
def FldsSm (L : List Fld) : Prop := L.length ≤ 100000 ∧ ∀ x ∈ L, FldSm x
def NmsSm (L : List (List UInt8)) : Prop := L.length ≤ 100000 ∧ ∀ x ∈ L, x.length ≤ 1000000
def DfnSm (x : Dfn) : Prop := x.name.length ≤ 1000000 ∧ DirsSm x.dirs ∧ NmsSm x.names ∧ InpsSm x.inputs ∧ FldsSm x.fields
def DfnsSm (L : List Dfn) : Prop := L.length ≤ 100000 ∧ ∀ x ∈ L, DfnSm x
end Go.Proofs.YtfagaflgdlomiaaGreatDoor
namespace Go.Proofs.YtfagaflgdlomiaaGreatDoor
open Go.RowKit
def SelSm (x : SelD) : Prop := x.als.length ≤ 9223372036854775807 ∧ x.name.length ≤ 9223372036854775807 ∧ ArgsSm x.args ∧ DirsSm x.dirs
def SelsSm (L : List SelD) : Prop := L.length ≤ 100000 ∧ ∀ x ∈ L, SelSm x
def OprSm (x : OpD) : Prop := x.name.length ≤ 1000000 ∧ InpsSm x.vars ∧ SelsSm x.sels
def FrgSm (x : FrgD) : Prop := x.name.length ≤ 9223372036854775807 ∧ x.on.length ≤ 9223372036854775807 ∧ SelsSm x.sels
end Go.Proofs.YtfagaflgdlomiaaGreatDoor
namespace Go.Proofs.YtfagaflgdlomiaaGreatDoor
open Go.RowKit
set_option maxRecDepth 100000 in
theorem scon_any (s : ByteArray) (w : World) :
    Calls Tryz.prog 32 #[.string s] w fun e w' => e = .returned (.bool (wordsK.contains s.data.toList)) ∧ w = w' := by
  obtain ⟨s1, h1⟩ : ∃ s1, (s.toList == [110, 117, 108, 108]) = s1 := ⟨_, rfl⟩
  obtain ⟨s2, h2⟩ : ∃ s2, (s.toList == [116, 114, 117, 101]) = s2 := ⟨_, rfl⟩
  obtain ⟨s3, h3⟩ : ∃ s3, (s.toList == [102, 97, 108, 115, 101]) = s3 := ⟨_, rfl⟩
  have e : wordsK.contains s.data.toList = (s2 || (s3 || s1)) := by
    rw [← h1, ← h2, ← h3]
    simp only [wordsK, List.contains_cons, List.contains_nil, Bool.or_false, ByteArray.toList_eq]
    cases (s.data.toList == [110, 117, 108, 108]) <;> cases (s.data.toList == [116, 114, 117, 101]) <;> cases (s.data.toList == [102, 97, 108, 115, 101]) <;> rfl
  rw [e]
  clear e
  cases s2 with
  | true =>
    go_enter Tryz.func32, Tryz.ntmps32
    go_wp2_with fail
    go_ret
    exact ⟨rfl, rfl⟩
  | false =>
    cases s3 with
    | true =>
      go_enter Tryz.func32, Tryz.ntmps32
      go_wp2_with fail
      go_ret
      exact ⟨rfl, rfl⟩
    | false =>
      cases s1 with
      | true =>
        go_enter Tryz.func32, Tryz.ntmps32
        go_wp2_with fail
        go_ret
        exact ⟨rfl, rfl⟩
      | false =>
        go_enter Tryz.func32, Tryz.ntmps32
        go_wp2_with fail
        go_ret
        exact ⟨rfl, rfl⟩
/-- A cell that a literal of definitions must not have. -/
def badF (c : Cel) : Bool := c.kind == 5 || (c.kind == 4 && wordsK.contains c.text) || (!c.name.isEmpty && !nameB c.name)
def fixV (V : List Cel) : Bool := mayB V && !V.any badF
theorem fixV_lit (V : List Cel) : fixV V = (litB V && !V.any isV) := by
  rw [litB_okC, fixV]
  cases mayB V with
  | false => rfl
  | true =>
    simp only [Bool.true_and]
    induction V with
    | nil => rfl
    | cons c r ih =>
      rw [List.any_cons, List.all_cons, List.any_cons, Bool.not_or, Bool.not_or, ih]
      unfold badF isV okC
      cases (c.kind == 5) <;> cases (c.kind == 4) <;> cases wordsK.contains c.text <;> cases c.name.isEmpty <;> cases nameB c.name <;> simp
set_option maxRecDepth 100000 in
set_option maxHeartbeats 4000000 in
theorem fc_c (x0 : Int) (x1 : ByteArray) (x2 : ByteArray) (x3 : Int) (x4 : Int) (t0 t1 t2 t3 t4 : Bool) (w : World)
    (h0 : (x0 == 5) = t0)
    (h1 : (x0 == 4) = t1)
    (h3 : (x1.toList == []) = t3)
    (h3e : x1.toList.isEmpty = t3)
    (h3p : t3 = true → x1.toList = [])
    (h3n : t3 = false → ¬ x1.toList = [])
    (H2 : Hid (∀ W, Below w.heap.size w W → Calls Tryz.prog 32 #[.string x2] W fun e w' => e = .returned (.bool t2) ∧ Below W.heap.size W w'))
    (H4 : Hid (∀ W, Below w.heap.size w W → Calls Tryz.prog 31 #[.string x1] W fun e w' => e = .returned (.bool t4) ∧ Below W.heap.size W w')) :
    Calls Tryz.prog 86 #[.agg #[.int .u8 x0, .string x1, .string x2, .int .i64 x3, .int .i64 x4]] w fun e w' => e = .returned (.bool (t0 || (t1 && t2) || (!t3 && !t4))) ∧ Below w.heap.size w w' := by
  go_enter Tryz.func86, Tryz.ntmps86
  go_upto_region 1 with fail
  obtain ⟨w2, hw2⟩ : ∃ w2, w.alloc (.cells #[.int .u8 x0, .string x1, .string x2, .int .i64 x3, .int .i64 x4] 38 (0, 0)) = w2 := ⟨_, rfl⟩
  have HB2 : Hid (Below w.heap.size w w2) := Lib.hid (by rw [← hw2]; exact (Below.refl _ _).alloc (Nat.le_refl _) _)
  have k1 : w2.heap[w.heap.size]? = some (.cells #[.int .u8 x0, .string x1, .string x2, .int .i64 x3, .int .i64 x4] 38 (0, 0)) := by rw [← hw2]; exact heap_new _ _ _ rfl
  have MK : Hid (∀ W, Below w2.heap.size w2 W → W.cell? ⟨w.heap.size, 0, none⟩ = some (.int .u8 x0) ∧ W.cell? ⟨w.heap.size, 1, none⟩ = some (.string x1) ∧ W.cell? ⟨w.heap.size, 2, none⟩ = some (.string x2) ∧ W.cell? ⟨w.heap.size, 3, none⟩ = some (.int .i64 x3) ∧ W.cell? ⟨w.heap.size, 4, none⟩ = some (.int .i64 x4)) := Lib.hid fun W hW => ⟨(Lib.cell_of_heap ((hW.block _ (heap_lt k1)).trans k1) 0).trans rfl, (Lib.cell_of_heap ((hW.block _ (heap_lt k1)).trans k1) 1).trans rfl, (Lib.cell_of_heap ((hW.block _ (heap_lt k1)).trans k1) 2).trans rfl, (Lib.cell_of_heap ((hW.block _ (heap_lt k1)).trans k1) 3).trans rfl, (Lib.cell_of_heap ((hW.block _ (heap_lt k1)).trans k1) 4).trans rfl⟩
  obtain ⟨d0, d1, d2, d3, d4⟩ := MK.out w2 (Below.refl _ _)
  have HBV : Hid (Below w2.heap.size w2 w2) := Lib.hid (Below.refl _ _)
  try rw [hw2]
  clear hw2 k1
  cases t3 with
  | false =>
    have hne := h3n rfl
    cases t0 with
    | false =>
      cases t1 with
      | false =>
        cases t4 with
        | false =>
          go_wp2_with fail
          refine (H4.out _ (HB2.out.trans (HBV.out.mono HB2.out.size))).mono ?_; rintro e w5 ⟨rfl, hb⟩
          have HBV2 : Hid (Below w2.heap.size w2 w5) := Lib.hid (HBV.out.trans (hb.mono HBV.out.size))
          obtain ⟨d0, d1, d2, d3, d4⟩ := MK.out w5 HBV2.out
          clear HBV hb
          have HBV := HBV2
          clear HBV2
          go_wp2_with fail
          go_ret
          exact ⟨ret_b rfl, HB2.out.trans (HBV.out.mono HB2.out.size)⟩
        | true =>
          go_wp2_with fail
          refine (H4.out _ (HB2.out.trans (HBV.out.mono HB2.out.size))).mono ?_; rintro e w5 ⟨rfl, hb⟩
          have HBV2 : Hid (Below w2.heap.size w2 w5) := Lib.hid (HBV.out.trans (hb.mono HBV.out.size))
          obtain ⟨d0, d1, d2, d3, d4⟩ := MK.out w5 HBV2.out
          clear HBV hb
          have HBV := HBV2
          clear HBV2
          go_wp2_with fail
          go_ret
          exact ⟨ret_b rfl, HB2.out.trans (HBV.out.mono HB2.out.size)⟩
      | true =>
        cases t2 with
        | false =>
          go_wp2_with fail
          refine (H2.out _ (HB2.out.trans (HBV.out.mono HB2.out.size))).mono ?_; rintro e w5 ⟨rfl, hb⟩
          have HBV2 : Hid (Below w2.heap.size w2 w5) := Lib.hid (HBV.out.trans (hb.mono HBV.out.size))
          obtain ⟨d0, d1, d2, d3, d4⟩ := MK.out w5 HBV2.out
          clear HBV hb
          have HBV := HBV2
          clear HBV2
          cases t4 with
          | false =>
            go_wp2_with fail
            refine (H4.out _ (HB2.out.trans (HBV.out.mono HB2.out.size))).mono ?_; rintro e w5 ⟨rfl, hb⟩
            have HBV2 : Hid (Below w2.heap.size w2 w5) := Lib.hid (HBV.out.trans (hb.mono HBV.out.size))
            obtain ⟨d0, d1, d2, d3, d4⟩ := MK.out w5 HBV2.out
            clear HBV hb
            have HBV := HBV2
            clear HBV2
            go_wp2_with fail
            go_ret
            exact ⟨ret_b rfl, HB2.out.trans (HBV.out.mono HB2.out.size)⟩
          | true =>
            go_wp2_with fail
            refine (H4.out _ (HB2.out.trans (HBV.out.mono HB2.out.size))).mono ?_; rintro e w5 ⟨rfl, hb⟩
            have HBV2 : Hid (Below w2.heap.size w2 w5) := Lib.hid (HBV.out.trans (hb.mono HBV.out.size))
            obtain ⟨d0, d1, d2, d3, d4⟩ := MK.out w5 HBV2.out
            clear HBV hb
            have HBV := HBV2
            clear HBV2
            go_wp2_with fail
            go_ret
            exact ⟨ret_b rfl, HB2.out.trans (HBV.out.mono HB2.out.size)⟩
        | true =>
          go_wp2_with fail
          refine (H2.out _ (HB2.out.trans (HBV.out.mono HB2.out.size))).mono ?_; rintro e w5 ⟨rfl, hb⟩
          have HBV2 : Hid (Below w2.heap.size w2 w5) := Lib.hid (HBV.out.trans (hb.mono HBV.out.size))
          obtain ⟨d0, d1, d2, d3, d4⟩ := MK.out w5 HBV2.out
          clear HBV hb
          have HBV := HBV2
          clear HBV2
          go_wp2_with fail
          go_ret
          exact ⟨ret_b rfl, HB2.out.trans (HBV.out.mono HB2.out.size)⟩
    | true =>
      go_wp2_with fail
      go_ret
      exact ⟨ret_b rfl, HB2.out.trans (HBV.out.mono HB2.out.size)⟩
  | true =>
    have hne := h3p rfl
    cases t0 with
    | false =>
      cases t1 with
      | false =>
        go_wp2_with fail
        go_ret
        exact ⟨ret_b rfl, HB2.out.trans (HBV.out.mono HB2.out.size)⟩
      | true =>
        cases t2 with
        | false =>
          go_wp2_with fail
          refine (H2.out _ (HB2.out.trans (HBV.out.mono HB2.out.size))).mono ?_; rintro e w5 ⟨rfl, hb⟩
          have HBV2 : Hid (Below w2.heap.size w2 w5) := Lib.hid (HBV.out.trans (hb.mono HBV.out.size))
          obtain ⟨d0, d1, d2, d3, d4⟩ := MK.out w5 HBV2.out
          clear HBV hb
          have HBV := HBV2
          clear HBV2
          go_wp2_with fail
          go_ret
          exact ⟨ret_b rfl, HB2.out.trans (HBV.out.mono HB2.out.size)⟩
        | true =>
          go_wp2_with fail
          refine (H2.out _ (HB2.out.trans (HBV.out.mono HB2.out.size))).mono ?_; rintro e w5 ⟨rfl, hb⟩
          have HBV2 : Hid (Below w2.heap.size w2 w5) := Lib.hid (HBV.out.trans (hb.mono HBV.out.size))
          obtain ⟨d0, d1, d2, d3, d4⟩ := MK.out w5 HBV2.out
          clear HBV hb
          have HBV := HBV2
          clear HBV2
          go_wp2_with fail
          go_ret
          exact ⟨ret_b rfl, HB2.out.trans (HBV.out.mono HB2.out.size)⟩
    | true =>
      go_wp2_with fail
      go_ret
      exact ⟨ret_b rfl, HB2.out.trans (HBV.out.mono HB2.out.size)⟩
theorem fc_any (c : Cel) (hn : c.name.length ≤ 1000000) (w : World) : Calls Tryz.prog 86 #[.agg (celCells c)] w fun e w' => e = .returned (.bool (badF c)) ∧ Below w.heap.size w w' := by
  have hr : badF c = ((c.kind.toNat : Int) == 5 || ((c.kind.toNat : Int) == 4 && wordsK.contains c.text) || (!c.name.isEmpty && !nameB c.name)) := by unfold badF; rw [kind_eq, kind_eq]; rfl
  rw [hr]
  have hl : (⟨c.name.toArray⟩ : ByteArray).toList = c.name := by rw [ByteArray.toList_eq]
  refine fc_c _ _ _ _ _ _ _ _ _ _ w rfl rfl ?_ ?_ ?_ ?_ ?_ ?_
  · rw [hl]; cases c.name <;> rfl
  · rw [hl]
  · rw [hl]; intro h; simpa using h
  · rw [hl]; intro h; simpa using h
  · exact Lib.hid fun W _ => calls_below (scon_any _ W)
  · exact Lib.hid fun W _ => calls_below (lname_any _ (by rw [← bsz]; exact hn) W)
theorem fc_ent : ∀ args w, (callFunc 86 args).run Tryz.prog w = .ok (.enter 86 args) w := enters_of Tryz.func86 (by kernel_rfl) rfl
set_option maxRecDepth 100000 in
theorem fixed_any (V : List Cel) (v : Value) (w : World) (hv : CelSl v V w) (hs : SmallV V) (hE : EnvU w) :
    Calls Tryz.prog 64 #[v] w fun e w' => e = .returned (.bool (fixV V)) ∧ Below w.heap.size w w' := by
  have H := Lib.hid (ccheck_any V v w hv hs hE)
  have HC : Hid (∀ W : World, Below w.heap.size w W → Calls Tryz.prog 73 #[v, .func (.func 86) #[] #[]] W fun e w' => e = .returned (.bool (V.any badF)) ∧ Below W.heap.size W w') := Lib.hid fun W hW =>
    ccontains_any _ #[] fc_ent badF V v W (hv.below hW) hs.1 (Lib.hid fun W' k hk _ => by
      have := fc_any V[k] (by have := (hs.2 V[k] (List.getElem_mem hk)).1; omega) W'
      simpa using this)
  unfold fixV
  clear hv hs hE
  generalize V.any badF = ev at *
  cases hm : mayB V with
  | false =>
    rw [hm] at H
    clear hm
    go_enter Tryz.func64, Tryz.ntmps64
    go_wp2_with fail
    refine H.out.mono ?_; rintro e w1 ⟨rfl, hb⟩
    go_wp2_with fail
    go_ret
    exact ⟨rfl, hb⟩
  | true =>
    rw [hm] at H
    clear hm
    go_enter Tryz.func64, Tryz.ntmps64
    go_wp2_with fail
    refine H.out.mono ?_; rintro e w1 ⟨rfl, hb⟩
    have HB := Lib.hid hb
    have hz := hb.size
    clear hb
    go_wp2_with fail
    refine (HC.out _ HB.out).mono ?_; rintro e w2 ⟨rfl, hb⟩
    have HB2 := Lib.hid (HB.out.trans (hb.mono hz))
    clear hb
    go_wp2_with fail
    go_ret
    exact ⟨ret_b (by cases ev <;> rfl), HB2.out⟩
end Go.Proofs.YtfagaflgdlomiaaGreatDoor
