/- Walks and plain laws of this proof, joined from smaller texts (6). -/
import Derived.Deep.LoopGhost
import Derived.Laws.EntriesVeiled
import Derived.Test.YtgaknbnhmoddcaaGreatDoorRows
import Derived.Below
import Derived.ChangeSame
import Derived.ProofKit
import Derived.Test.YtgaknbnhmoddcaaGreatDoorK5
set_option linter.unusedSimpArgs false
set_option linter.unusedVariables false
namespace Go.Proofs.YtgaknbnhmoddcaaGreatDoor
open Go.RowKit
theorem put_add (q : Nat) (v : Value) (L : List Tok) (k : UInt8) (kd : Int) (hkd : (k.toNat : Int) = kd) (s : ByteArray) (lb cl : Nat) (W : World) (h : PutS q v L W) (hl : W.cell? ⟨lb, 0, none⟩ = some (.string s)) (hlb : lb ≠ q) (hL : L.length ≤ 100000) :
    Calls Tryz.prog 39 #[.pointer (some ⟨q, 0, none⟩), .int .u8 kd, .slice (some ⟨lb, 0, none⟩) 1 cl] W fun x W' => x = .returned (.tuple #[]) ∧ (∃ v', PutS q v' (L ++ [⟨k, s.data.toList, 0⟩]) W') ∧ RK q W W' := by
  subst hkd
  have h2 := h
  obtain ⟨h1, hn, hr⟩ := h
  rcases hr with ⟨rfl, e⟩ | ⟨g, cap, cur, rfl, hB, hg, hcap, hrest⟩
  · exact put_add_none q none 0 0 L k s lb cl W ⟨rfl, rfl, rfl⟩ e.symm (Nat.le_refl _) h2 hl hlb hL
  · exact put_add_some q (some ⟨g, 0, none⟩) L.length cap L k s lb cl W ⟨g, rfl⟩ rfl hcap h2 hl hlb hL
theorem PutS.rk {p q : Nat} {v : Value} {L : List Tok} {W W' : World} (h : PutS q v L W) (hb : Below W.heap.size W W') : PutS q v L W' := h.below hb
theorem CelRow.rk {b off p : Nat} {V : List Cel} {W W' : World} (h : CelRow b off V W) (hk : RK p W W') (hne : b ≠ p) : CelRow b off V W' := by
  intro i hi
  obtain ⟨h0, h1, h2, h3, h4⟩ := h i hi
  have hb : W'.heap[b]? = W.heap[b]? := by
    have hlt := lt_of_cell h0
    obtain ⟨o, ho⟩ : ∃ o, W.heap[b]? = some o := ⟨_, Array.getElem?_eq_getElem hlt⟩
    rw [ho]; exact hk.2 b o ho hne
  refine ⟨?_, ?_, ?_, ?_, ?_⟩
  · rw [← h0]; unfold World.cell?; rw [hb]
  · rw [← h1]; unfold World.cell?; rw [hb]
  · rw [← h2]; unfold World.cell?; rw [hb]
  · rw [← h3]; unfold World.cell?; rw [hb]
  · rw [← h4]; unfold World.cell?; rw [hb]
/-- What a putting leaves: the place behind; its tokens behind those that were there. -/
def PEnd (q : Nat) (L : List Tok) (n : Int) (W : World) (e : Ending) (W' : World) : Prop := e = .returned (.int .i64 n) ∧ (∃ v', PutS q v' L W') ∧ RK q W W'
theorem rk_below {q : Nat} {W W' : World} (hb : Below W.heap.size W W') (hq : q ≤ W.heap.size) : RK q W W' := ⟨hb.mono hq, fun k o hk _ => (hb.block k (heap_lt hk)).trans hk⟩
set_option maxRecDepth 100000 in
set_option maxHeartbeats 1000000 in
theorem up_null (q b off nV cap k : Nat) (pv : Value) (L : List Tok) (W : World) (kk : Nat) (nx tx : ByteArray) (nu mn : Int) (hP : PutS q pv L W)
    (hk : k < nV) (hl : nV ≤ 2048) (hL : L.length + 8 ≤ 100000)
    (c0 : W.cell? ⟨b, off + k * 5, none⟩ = some (.int .u8 (kk : Int))) (c1 : W.cell? ⟨b, off + k * 5 + 1, none⟩ = some (.string nx)) (c2 : W.cell? ⟨b, off + k * 5 + 2, none⟩ = some (.string tx)) (c3 : W.cell? ⟨b, off + k * 5 + 3, none⟩ = some (.int .i64 nu)) (c4 : W.cell? ⟨b, off + k * 5 + 4, none⟩ = some (.int .i64 mn))
    (h0 : kk = 0)  :
    Calls Tryz.prog 35 #[.pointer (some ⟨q, 0, none⟩), .slice (some ⟨b, off, none⟩) nV cap, .int .i64 (k : Int)] W fun e w' => PEnd q (L ++ [nmT [110, 117, 108, 108]]) ((k : Int) + 1) W e w' := by
  have hq := hP.lt
  have hk1 : IntKind.i64.wrap ((k : Int) + 1) = (k : Int) + 1 := IntWalk.i64_in _ (by omega)
  have hk2 : (k : Int).toNat = k := by omega
  have hk3 : (0 : Int) ≤ (k : Int) := by omega
  have hk4 : (k : Int) < (nV : Int) := by omega
  have HP := Lib.hid hP
  clear hP
  subst h0
  have hb1 : Below W.heap.size W ((W.alloc (.cells #[.int .u8 0, .string nx, .string tx, .int .i64 nu, .int .i64 mn] 63)).alloc (.cells #[.string ⟨#[110, 117, 108, 108]⟩] 9)) := ((Below.refl _ _).alloc (Nat.le_refl _) _).alloc (by simp) _
  have HP1 := Lib.hid (HP.out.below hb1)
  have HK1 : Hid (RK q W _) := Lib.hid (rk_below hb1 (Nat.le_of_lt hq))
  have hne : W.heap.size + 1 ≠ q := by omega
  have hl1 : ((W.alloc (.cells #[.int .u8 0, .string nx, .string tx, .int .i64 nu, .int .i64 mn] 63)).alloc (.cells #[.string ⟨#[110, 117, 108, 108]⟩] 9)).cell? ⟨W.heap.size + 1, 0, none⟩ = some (.string ⟨#[110, 117, 108, 108]⟩) := Lib.cell_of_heap (heap_new _ _ _ (by simp)) 0
  clear hb1
  go_enter Tryz.func35, Tryz.ntmps35
  go_wp2_with fail
  refine (put_add q pv L 1 1 rfl ⟨#[110, 117, 108, 108]⟩ _ 1 _ HP1.out hl1 hne (by omega)).mono ?_; rintro e wx ⟨rfl, hx1, hx2⟩
  have HFIN : Hid ((∃ v', PutS q v' (L ++ [nmT [110, 117, 108, 108]]) wx) ∧ RK q W wx) := Lib.hid ⟨hx1, HK1.out.trans hx2⟩
  clear hx1 hx2
  go_wp2_with fail
  go_ret
  exact ⟨rfl, HFIN.out⟩
set_option maxRecDepth 100000 in
set_option maxHeartbeats 1000000 in
theorem up_true (q b off nV cap k : Nat) (pv : Value) (L : List Tok) (W : World) (kk : Nat) (nx tx : ByteArray) (nu mn : Int) (hP : PutS q pv L W)
    (hk : k < nV) (hl : nV ≤ 2048) (hL : L.length + 8 ≤ 100000)
    (c0 : W.cell? ⟨b, off + k * 5, none⟩ = some (.int .u8 (kk : Int))) (c1 : W.cell? ⟨b, off + k * 5 + 1, none⟩ = some (.string nx)) (c2 : W.cell? ⟨b, off + k * 5 + 2, none⟩ = some (.string tx)) (c3 : W.cell? ⟨b, off + k * 5 + 3, none⟩ = some (.int .i64 nu)) (c4 : W.cell? ⟨b, off + k * 5 + 4, none⟩ = some (.int .i64 mn))
    (h0 : kk = 1) (h1 : nu = 1) :
    Calls Tryz.prog 35 #[.pointer (some ⟨q, 0, none⟩), .slice (some ⟨b, off, none⟩) nV cap, .int .i64 (k : Int)] W fun e w' => PEnd q (L ++ [nmT [116, 114, 117, 101]]) ((k : Int) + 1) W e w' := by
  have hq := hP.lt
  have hk1 : IntKind.i64.wrap ((k : Int) + 1) = (k : Int) + 1 := IntWalk.i64_in _ (by omega)
  have hk2 : (k : Int).toNat = k := by omega
  have hk3 : (0 : Int) ≤ (k : Int) := by omega
  have hk4 : (k : Int) < (nV : Int) := by omega
  have HP := Lib.hid hP
  clear hP
  subst h0
  subst h1
  have ix := fun w : World => (show (Instr.index 128 (.agg #[.string ⟨#[102, 97, 108, 115, 101]⟩, .string ⟨#[116, 114, 117, 101]⟩]) (.int .i64 1)).run Tryz.prog w = .ok (.string ⟨#[116, 114, 117, 101]⟩) w by kernel_rfl)
  have hb1 : Below W.heap.size W ((W.alloc (.cells #[.int .u8 1, .string nx, .string tx, .int .i64 1, .int .i64 mn] 63)).alloc (.cells #[.string ⟨#[116, 114, 117, 101]⟩] 9)) := ((Below.refl _ _).alloc (Nat.le_refl _) _).alloc (by simp) _
  have HP1 := Lib.hid (HP.out.below hb1)
  have HK1 : Hid (RK q W _) := Lib.hid (rk_below hb1 (Nat.le_of_lt hq))
  have hne : W.heap.size + 1 ≠ q := by omega
  have hl1 : ((W.alloc (.cells #[.int .u8 1, .string nx, .string tx, .int .i64 1, .int .i64 mn] 63)).alloc (.cells #[.string ⟨#[116, 114, 117, 101]⟩] 9)).cell? ⟨W.heap.size + 1, 0, none⟩ = some (.string ⟨#[116, 114, 117, 101]⟩) := Lib.cell_of_heap (heap_new _ _ _ (by simp)) 0
  clear hb1
  go_enter Tryz.func35, Tryz.ntmps35
  go_wp2_with fail
  refine (put_add q pv L 1 1 rfl ⟨#[116, 114, 117, 101]⟩ _ 1 _ HP1.out hl1 hne (by omega)).mono ?_; rintro e wx ⟨rfl, hx1, hx2⟩
  have HFIN : Hid ((∃ v', PutS q v' (L ++ [nmT [116, 114, 117, 101]]) wx) ∧ RK q W wx) := Lib.hid ⟨hx1, HK1.out.trans hx2⟩
  clear hx1 hx2
  go_wp2_with fail
  go_ret
  exact ⟨rfl, HFIN.out⟩
set_option maxRecDepth 100000 in
set_option maxHeartbeats 1000000 in
theorem up_false (q b off nV cap k : Nat) (pv : Value) (L : List Tok) (W : World) (kk : Nat) (nx tx : ByteArray) (nu mn : Int) (hP : PutS q pv L W)
    (hk : k < nV) (hl : nV ≤ 2048) (hL : L.length + 8 ≤ 100000)
    (c0 : W.cell? ⟨b, off + k * 5, none⟩ = some (.int .u8 (kk : Int))) (c1 : W.cell? ⟨b, off + k * 5 + 1, none⟩ = some (.string nx)) (c2 : W.cell? ⟨b, off + k * 5 + 2, none⟩ = some (.string tx)) (c3 : W.cell? ⟨b, off + k * 5 + 3, none⟩ = some (.int .i64 nu)) (c4 : W.cell? ⟨b, off + k * 5 + 4, none⟩ = some (.int .i64 mn))
    (h0 : kk = 1) (h1 : nu = 0) :
    Calls Tryz.prog 35 #[.pointer (some ⟨q, 0, none⟩), .slice (some ⟨b, off, none⟩) nV cap, .int .i64 (k : Int)] W fun e w' => PEnd q (L ++ [nmT [102, 97, 108, 115, 101]]) ((k : Int) + 1) W e w' := by
  have hq := hP.lt
  have hk1 : IntKind.i64.wrap ((k : Int) + 1) = (k : Int) + 1 := IntWalk.i64_in _ (by omega)
  have hk2 : (k : Int).toNat = k := by omega
  have hk3 : (0 : Int) ≤ (k : Int) := by omega
  have hk4 : (k : Int) < (nV : Int) := by omega
  have HP := Lib.hid hP
  clear hP
  subst h0
  subst h1
  have ix := fun w : World => (show (Instr.index 128 (.agg #[.string ⟨#[102, 97, 108, 115, 101]⟩, .string ⟨#[116, 114, 117, 101]⟩]) (.int .i64 0)).run Tryz.prog w = .ok (.string ⟨#[102, 97, 108, 115, 101]⟩) w by kernel_rfl)
  have hb1 : Below W.heap.size W ((W.alloc (.cells #[.int .u8 1, .string nx, .string tx, .int .i64 0, .int .i64 mn] 63)).alloc (.cells #[.string ⟨#[102, 97, 108, 115, 101]⟩] 9)) := ((Below.refl _ _).alloc (Nat.le_refl _) _).alloc (by simp) _
  have HP1 := Lib.hid (HP.out.below hb1)
  have HK1 : Hid (RK q W _) := Lib.hid (rk_below hb1 (Nat.le_of_lt hq))
  have hne : W.heap.size + 1 ≠ q := by omega
  have hl1 : ((W.alloc (.cells #[.int .u8 1, .string nx, .string tx, .int .i64 0, .int .i64 mn] 63)).alloc (.cells #[.string ⟨#[102, 97, 108, 115, 101]⟩] 9)).cell? ⟨W.heap.size + 1, 0, none⟩ = some (.string ⟨#[102, 97, 108, 115, 101]⟩) := Lib.cell_of_heap (heap_new _ _ _ (by simp)) 0
  clear hb1
  go_enter Tryz.func35, Tryz.ntmps35
  go_wp2_with fail
  refine (put_add q pv L 1 1 rfl ⟨#[102, 97, 108, 115, 101]⟩ _ 1 _ HP1.out hl1 hne (by omega)).mono ?_; rintro e wx ⟨rfl, hx1, hx2⟩
  have HFIN : Hid ((∃ v', PutS q v' (L ++ [nmT [102, 97, 108, 115, 101]]) wx) ∧ RK q W wx) := Lib.hid ⟨hx1, HK1.out.trans hx2⟩
  clear hx1 hx2
  go_wp2_with fail
  go_ret
  exact ⟨rfl, HFIN.out⟩
set_option maxRecDepth 100000 in
set_option maxHeartbeats 1000000 in
theorem up_text (q b off nV cap k : Nat) (pv : Value) (L : List Tok) (W : World) (kk : Nat) (nx tx : ByteArray) (nu mn : Int) (hP : PutS q pv L W)
    (hk : k < nV) (hl : nV ≤ 2048) (hL : L.length + 8 ≤ 100000)
    (c0 : W.cell? ⟨b, off + k * 5, none⟩ = some (.int .u8 (kk : Int))) (c1 : W.cell? ⟨b, off + k * 5 + 1, none⟩ = some (.string nx)) (c2 : W.cell? ⟨b, off + k * 5 + 2, none⟩ = some (.string tx)) (c3 : W.cell? ⟨b, off + k * 5 + 3, none⟩ = some (.int .i64 nu)) (c4 : W.cell? ⟨b, off + k * 5 + 4, none⟩ = some (.int .i64 mn))
    (h0 : kk = 3) :
    Calls Tryz.prog 35 #[.pointer (some ⟨q, 0, none⟩), .slice (some ⟨b, off, none⟩) nV cap, .int .i64 (k : Int)] W fun e w' => PEnd q (L ++ [⟨3, tx.data.toList, 0⟩]) ((k : Int) + 1) W e w' := by
  have hq := hP.lt
  have hk1 : IntKind.i64.wrap ((k : Int) + 1) = (k : Int) + 1 := IntWalk.i64_in _ (by omega)
  have hk2 : (k : Int).toNat = k := by omega
  have hk3 : (0 : Int) ≤ (k : Int) := by omega
  have hk4 : (k : Int) < (nV : Int) := by omega
  have HP := Lib.hid hP
  clear hP
  subst h0
  have hb1 : Below W.heap.size W ((W.alloc (.cells #[.int .u8 3, .string nx, .string tx, .int .i64 nu, .int .i64 mn] 63)).alloc (.cells #[.string tx] 9)) := ((Below.refl _ _).alloc (Nat.le_refl _) _).alloc (by simp) _
  have HP1 := Lib.hid (HP.out.below hb1)
  have HK1 : Hid (RK q W _) := Lib.hid (rk_below hb1 (Nat.le_of_lt hq))
  have hne : W.heap.size + 1 ≠ q := by omega
  have hl1 : ((W.alloc (.cells #[.int .u8 3, .string nx, .string tx, .int .i64 nu, .int .i64 mn] 63)).alloc (.cells #[.string tx] 9)).cell? ⟨W.heap.size + 1, 0, none⟩ = some (.string tx) := Lib.cell_of_heap (heap_new _ _ _ (by simp)) 0
  clear hb1
  go_enter Tryz.func35, Tryz.ntmps35
  go_wp2_with fail
  refine (put_add q pv L 3 3 rfl tx _ 1 _ HP1.out hl1 hne (by omega)).mono ?_; rintro e wx ⟨rfl, hx1, hx2⟩
  have HFIN : Hid ((∃ v', PutS q v' (L ++ [⟨3, tx.data.toList, 0⟩]) wx) ∧ RK q W wx) := Lib.hid ⟨hx1, HK1.out.trans hx2⟩
  clear hx1 hx2
  go_wp2_with fail
  go_ret
  exact ⟨rfl, HFIN.out⟩
set_option maxRecDepth 100000 in
set_option maxHeartbeats 1000000 in
theorem up_enum (q b off nV cap k : Nat) (pv : Value) (L : List Tok) (W : World) (kk : Nat) (nx tx : ByteArray) (nu mn : Int) (hP : PutS q pv L W)
    (hk : k < nV) (hl : nV ≤ 2048) (hL : L.length + 8 ≤ 100000)
    (c0 : W.cell? ⟨b, off + k * 5, none⟩ = some (.int .u8 (kk : Int))) (c1 : W.cell? ⟨b, off + k * 5 + 1, none⟩ = some (.string nx)) (c2 : W.cell? ⟨b, off + k * 5 + 2, none⟩ = some (.string tx)) (c3 : W.cell? ⟨b, off + k * 5 + 3, none⟩ = some (.int .i64 nu)) (c4 : W.cell? ⟨b, off + k * 5 + 4, none⟩ = some (.int .i64 mn))
    (h0 : kk = 4) :
    Calls Tryz.prog 35 #[.pointer (some ⟨q, 0, none⟩), .slice (some ⟨b, off, none⟩) nV cap, .int .i64 (k : Int)] W fun e w' => PEnd q (L ++ [⟨1, tx.data.toList, 0⟩]) ((k : Int) + 1) W e w' := by
  have hq := hP.lt
  have hk1 : IntKind.i64.wrap ((k : Int) + 1) = (k : Int) + 1 := IntWalk.i64_in _ (by omega)
  have hk2 : (k : Int).toNat = k := by omega
  have hk3 : (0 : Int) ≤ (k : Int) := by omega
  have hk4 : (k : Int) < (nV : Int) := by omega
  have HP := Lib.hid hP
  clear hP
  subst h0
  have hb1 : Below W.heap.size W ((W.alloc (.cells #[.int .u8 4, .string nx, .string tx, .int .i64 nu, .int .i64 mn] 63)).alloc (.cells #[.string tx] 9)) := ((Below.refl _ _).alloc (Nat.le_refl _) _).alloc (by simp) _
  have HP1 := Lib.hid (HP.out.below hb1)
  have HK1 : Hid (RK q W _) := Lib.hid (rk_below hb1 (Nat.le_of_lt hq))
  have hne : W.heap.size + 1 ≠ q := by omega
  have hl1 : ((W.alloc (.cells #[.int .u8 4, .string nx, .string tx, .int .i64 nu, .int .i64 mn] 63)).alloc (.cells #[.string tx] 9)).cell? ⟨W.heap.size + 1, 0, none⟩ = some (.string tx) := Lib.cell_of_heap (heap_new _ _ _ (by simp)) 0
  clear hb1
  go_enter Tryz.func35, Tryz.ntmps35
  go_wp2_with fail
  refine (put_add q pv L 1 1 rfl tx _ 1 _ HP1.out hl1 hne (by omega)).mono ?_; rintro e wx ⟨rfl, hx1, hx2⟩
  have HFIN : Hid ((∃ v', PutS q v' (L ++ [⟨1, tx.data.toList, 0⟩]) wx) ∧ RK q W wx) := Lib.hid ⟨hx1, HK1.out.trans hx2⟩
  clear hx1 hx2
  go_wp2_with fail
  go_ret
  exact ⟨rfl, HFIN.out⟩
set_option maxRecDepth 100000 in
set_option maxHeartbeats 1000000 in
theorem up_int (q b off nV cap k : Nat) (pv : Value) (L : List Tok) (W : World) (kk : Nat) (nx tx : ByteArray) (nu mn : Int) (hP : PutS q pv L W)
    (hk : k < nV) (hl : nV ≤ 2048) (hL : L.length + 8 ≤ 100000)
    (c0 : W.cell? ⟨b, off + k * 5, none⟩ = some (.int .u8 (kk : Int))) (c1 : W.cell? ⟨b, off + k * 5 + 1, none⟩ = some (.string nx)) (c2 : W.cell? ⟨b, off + k * 5 + 2, none⟩ = some (.string tx)) (c3 : W.cell? ⟨b, off + k * 5 + 3, none⟩ = some (.int .i64 nu)) (c4 : W.cell? ⟨b, off + k * 5 + 4, none⟩ = some (.int .i64 mn))
    (h0 : kk = 2) (HQ : Hid (∀ W' : World, Below W.heap.size W W' → Calls Tryz.prog 65 #[.int .i64 nu] W' fun e w' => e = .returned (.string ⟨(Lib.itoa nu).toArray⟩) ∧ Below W'.heap.size W' w')) :
    Calls Tryz.prog 35 #[.pointer (some ⟨q, 0, none⟩), .slice (some ⟨b, off, none⟩) nV cap, .int .i64 (k : Int)] W fun e w' => PEnd q (L ++ [⟨2, Lib.itoa nu, 0⟩]) ((k : Int) + 1) W e w' := by
  have hq := hP.lt
  have hk1 : IntKind.i64.wrap ((k : Int) + 1) = (k : Int) + 1 := IntWalk.i64_in _ (by omega)
  have hk2 : (k : Int).toNat = k := by omega
  have hk3 : (0 : Int) ≤ (k : Int) := by omega
  have hk4 : (k : Int) < (nV : Int) := by omega
  have HP := Lib.hid hP
  clear hP
  subst h0
  obtain ⟨ib, hib⟩ : ∃ ib : ByteArray, (⟨(Lib.itoa nu).toArray⟩ : ByteArray) = ib := ⟨_, rfl⟩
  have hid1 : ib.data.toList = Lib.itoa nu := by rw [← hib]
  rw [hib] at HQ
  rw [← hid1]
  clear hib hid1
  have hb1 : Below W.heap.size W (W.alloc (.cells #[.int .u8 2, .string nx, .string tx, .int .i64 nu, .int .i64 mn] 63)) := ((Below.refl _ _).alloc (Nat.le_refl _) _)
  have HB1 := Lib.hid hb1
  clear hb1
  go_enter Tryz.func35, Tryz.ntmps35
  go_wp2_with fail
  refine (HQ.out _ HB1.out).mono ?_; rintro e w1 ⟨rfl, hb⟩
  have hb2 : Below W.heap.size W (w1.alloc (.cells #[.string ib] 9)) := (HB1.out.trans (hb.mono HB1.out.size)).alloc (Nat.le_trans HB1.out.size hb.size) _
  have HP1 := Lib.hid (HP.out.below hb2)
  have HK1 : Hid (RK q W _) := Lib.hid (rk_below hb2 (Nat.le_of_lt hq))
  have hne : w1.heap.size ≠ q := by have := HB1.out.size; have := hb.size; omega
  clear hb hb2
  go_wp2_with fail
  refine (put_add q pv L 2 2 rfl ib _ 1 _ HP1.out (new_cell0 _ _ _) hne (by omega)).mono ?_; rintro e wx ⟨rfl, hx1, hx2⟩
  have HFIN : Hid ((∃ v', PutS q v' (L ++ [⟨2, ib.data.toList, 0⟩]) wx) ∧ RK q W wx) := Lib.hid ⟨hx1, HK1.out.trans hx2⟩
  clear hx1 hx2
  go_wp2_with fail
  go_ret
  exact ⟨rfl, HFIN.out⟩
set_option maxRecDepth 100000 in
set_option maxHeartbeats 1000000 in
theorem up_var (q b off nV cap k : Nat) (pv : Value) (L : List Tok) (W : World) (kk : Nat) (nx tx : ByteArray) (nu mn : Int) (hP : PutS q pv L W)
    (hk : k < nV) (hl : nV ≤ 2048) (hL : L.length + 8 ≤ 100000)
    (c0 : W.cell? ⟨b, off + k * 5, none⟩ = some (.int .u8 (kk : Int))) (c1 : W.cell? ⟨b, off + k * 5 + 1, none⟩ = some (.string nx)) (c2 : W.cell? ⟨b, off + k * 5 + 2, none⟩ = some (.string tx)) (c3 : W.cell? ⟨b, off + k * 5 + 3, none⟩ = some (.int .i64 nu)) (c4 : W.cell? ⟨b, off + k * 5 + 4, none⟩ = some (.int .i64 mn))
    (h0 : kk = 5) :
    Calls Tryz.prog 35 #[.pointer (some ⟨q, 0, none⟩), .slice (some ⟨b, off, none⟩) nV cap, .int .i64 (k : Int)] W fun e w' => PEnd q (L ++ [mkT [36], nmT tx.data.toList]) ((k : Int) + 1) W e w' := by
  have hq := hP.lt
  have hk1 : IntKind.i64.wrap ((k : Int) + 1) = (k : Int) + 1 := IntWalk.i64_in _ (by omega)
  have hk2 : (k : Int).toNat = k := by omega
  have hk3 : (0 : Int) ≤ (k : Int) := by omega
  have hk4 : (k : Int) < (nV : Int) := by omega
  have HP := Lib.hid hP
  clear hP
  subst h0
  have hb1 : Below W.heap.size W ((W.alloc (.cells #[.int .u8 5, .string nx, .string tx, .int .i64 nu, .int .i64 mn] 63)).alloc (.cells #[.string ⟨#[36]⟩] 9)) := ((Below.refl _ _).alloc (Nat.le_refl _) _).alloc (by simp) _
  have HP1 := Lib.hid (HP.out.below hb1)
  have HK1 : Hid (RK q W _) := Lib.hid (rk_below hb1 (Nat.le_of_lt hq))
  have hne : W.heap.size + 1 ≠ q := by omega
  have hl1 : ((W.alloc (.cells #[.int .u8 5, .string nx, .string tx, .int .i64 nu, .int .i64 mn] 63)).alloc (.cells #[.string ⟨#[36]⟩] 9)).cell? ⟨W.heap.size + 1, 0, none⟩ = some (.string ⟨#[36]⟩) := Lib.cell_of_heap (heap_new _ _ _ (by simp)) 0
  have HC1 : Hid (((W.alloc (.cells #[.int .u8 5, .string nx, .string tx, .int .i64 nu, .int .i64 mn] 63)).alloc (.cells #[.string ⟨#[36]⟩] 9)).heap[W.heap.size]? = some (.cells #[.int .u8 5, .string nx, .string tx, .int .i64 nu, .int .i64 mn] 63 (0, 0))) := Lib.hid (heap_old (heap_new _ _ _ rfl))
  clear hb1
  go_enter Tryz.func35, Tryz.ntmps35
  go_wp2_with fail
  refine (put_add q pv L 4 4 rfl ⟨#[36]⟩ _ 1 _ HP1.out hl1 hne (by omega)).mono ?_; rintro e w2 ⟨rfl, ⟨pv2, hx1⟩, hx2⟩
  have HC2 := Lib.hid (hx2.2 _ _ HC1.out (by omega))
  have e2 : w2.cell? ⟨W.heap.size, 2, none⟩ = some (.string tx) := by rw [Lib.cell_of_heap HC2.out]; rfl
  have hb2 : Below w2.heap.size w2 (w2.alloc (.cells #[.string tx] 9)) := ((Below.refl _ _).alloc (Nat.le_refl _) _)
  have HP2 := Lib.hid (hx1.below hb2)
  have hq2 := hx1.lt
  have HK2 : Hid (RK q W (w2.alloc (.cells #[.string tx] 9))) := Lib.hid ((HK1.out.trans hx2).trans (rk_below hb2 (Nat.le_of_lt hq2)))
  have hne2 : w2.heap.size ≠ q := by omega
  clear hx1 hx2 hb2
  go_wp2_with fail
  refine (put_add q pv2 _ 1 1 rfl tx _ 1 _ HP2.out (new_cell0 _ _ _) hne2 (by simp; omega)).mono ?_; rintro e wx ⟨rfl, hx1, hx2⟩
  have HFIN : Hid ((∃ v', PutS q v' (L ++ [mkT [36], nmT tx.data.toList]) wx) ∧ RK q W wx) := Lib.hid ⟨by simpa [mkT, nmT] using hx1, HK2.out.trans hx2⟩
  clear hx1 hx2
  go_wp2_with fail
  go_ret
  exact ⟨rfl, HFIN.out⟩
end Go.Proofs.YtgaknbnhmoddcaaGreatDoor
namespace Go.Proofs.YtgaknbnhmoddcaaGreatDoor
open Go.RowKit
set_option maxRecDepth 100000 in
set_option maxHeartbeats 4000000 in
theorem up_list (q b off cap k : Nat) (V : List Cel) (pv : Value) (L : List Tok) (W : World) (nx tx : ByteArray) (nu : Int) (m : Nat) (hP : PutS q pv L W)
    (hk : k < V.length) (hl : V.length ≤ 2048) (hrow : CelRow b off V W) (hbq : b < q)
    (c0 : W.cell? ⟨b, off + k * 5, none⟩ = some (.int .u8 6)) (c1 : W.cell? ⟨b, off + k * 5 + 1, none⟩ = some (.string nx)) (c2 : W.cell? ⟨b, off + k * 5 + 2, none⟩ = some (.string tx)) (c3 : W.cell? ⟨b, off + k * 5 + 3, none⟩ = some (.int .i64 nu)) (c4 : W.cell? ⟨b, off + k * 5 + 4, none⟩ = some (.int .i64 (m : Int)))
    (hmx : (m : Int) ≤ 9223372036854775807) (d1 n : Nat) (hkids : KS V d1 k true (some n) m [] 0) (hroom : L.length + 4 * (n + 2) ≤ 90000)
    (HTL : Hid (∀ (p n1 : Nat), valN d1 (V.drop p) = some n1 → (tokK d1 (V.drop p)).length + 2 ≤ 4 * n1))
    (HIH : Hid (∀ (W' : World) (pv' : Value) (L' : List Tok) (p n1 : Nat), RK q W W' → p < V.length → valN d1 (V.drop p) = some n1 → L'.length + 4 * (n1 + 1) ≤ 90000 → PutS q pv' L' W' → CelRow b off V W' → Calls Tryz.prog 35 #[.pointer (some ⟨q, 0, none⟩), .slice (some ⟨b, off, none⟩) V.length cap, .int .i64 (p : Int)] W' fun e w' => PEnd q (L' ++ tokK d1 (V.drop p)) ((p + n1 : Nat) : Int) W' e w')) :
    Calls Tryz.prog 35 #[.pointer (some ⟨q, 0, none⟩), .slice (some ⟨b, off, none⟩) V.length cap, .int .i64 (k : Int)] W fun e w' => PEnd q (L ++ (mkT [91] :: (kidsK (valN d1) (tokK d1) false m (V.drop (k + 1)) ++ [mkT [93]]))) ((k + 1 + n : Nat) : Int) W e w' := by
  have hq := hP.lt
  have hk1 : IntKind.i64.wrap ((k : Int) + 1) = (k : Int) + 1 := IntWalk.i64_in _ (by omega)
  have hk2 : (k : Int).toNat = k := by omega
  have hk3 : (0 : Int) ≤ (k : Int) := by omega
  have hk4 : (k : Int) < (V.length : Int) := by omega
  have HK0 := Lib.hid hkids
  have HROOM := Lib.hid hroom
  have HROW := Lib.hid hrow
  have hLL : L.length ≤ 100000 := by omega
  obtain ⟨R, hR⟩ : ∃ R, L ++ (mkT [91] :: (kidsK (valN d1) (tokK d1) false m (V.drop (k + 1)) ++ [mkT [93]])) = R := ⟨_, rfl⟩
  have HR0 : Hid ((L ++ [mkT [91]]) ++ (kidsK (valN d1) (tokK d1) false m (V.drop (k + 1)) ++ [mkT [93]]) = R) := Lib.hid (by rw [← hR]; simp)
  rw [hR]
  obtain ⟨K, hK⟩ : ∃ K, k + 1 + n = K := ⟨_, rfl⟩
  have HK := Lib.hid hK
  rw [hK]
  obtain ⟨W3, hW3⟩ : ∃ W3, (((W.alloc (.cells #[.int .u8 6, .string nx, .string tx, .int .i64 nu, .int .i64 (m : Int)] 63 (0, 0))).alloc (.cells #[.string ⟨#[91]⟩, .string ⟨#[93]⟩] 128 (0, 0))).alloc (.cells #[.string ⟨#[91]⟩] 9 (0, 0))) = W3 := ⟨_, rfl⟩
  have hb3 : Below W.heap.size W W3 := by
    rw [← hW3]; exact (((Below.refl _ _).alloc (Nat.le_refl _) _).alloc (by simp) _).alloc (by simp; omega) _
  have HP3 := Lib.hid (hP.below hb3)
  have HK3 : Hid (RK q W W3) := Lib.hid (rk_below hb3 (Nat.le_of_lt hq))
  have HCB : Hid (W3.heap[W.heap.size]? = some (.cells #[.int .u8 6, .string nx, .string tx, .int .i64 nu, .int .i64 (m : Int)] 63 (0, 0))) := Lib.hid (by rw [← hW3]; exact heap_old (heap_old (heap_new _ _ _ rfl)))
  have HEB : Hid (W3.heap[W.heap.size + 1]? = some (.cells #[.string ⟨#[91]⟩, .string ⟨#[93]⟩] 128 (0, 0))) := Lib.hid (by rw [← hW3]; exact heap_old (heap_new _ _ _ (by simp)))
  have hl3 : W3.cell? ⟨W.heap.size + 1 + 1, 0, none⟩ = some (.string ⟨#[91]⟩) := by rw [← hW3]; exact Lib.cell_of_heap (heap_new _ _ _ (by simp)) 0
  have hne : W.heap.size + 1 + 1 ≠ q := by omega
  have HW3 := Lib.hid hW3
  clear hR hK hkids hroom hP hrow hb3 hW3
  go_enter Tryz.func35, Tryz.ntmps35
  go_wp2_with fail
  rw [HW3.out]
  refine (put_add q pv L 4 4 rfl ⟨#[91]⟩ _ 1 W3 HP3.out hl3 hne hLL).mono ?_; rintro e w1 ⟨rfl, ⟨pv1, hx1⟩, hx2⟩
  have HP4 : Hid (PutS q pv1 (L ++ [mkT [91]]) w1) := Lib.hid hx1
  have HK4 := Lib.hid (HK3.out.trans hx2)
  have HC4 := Lib.hid (hx2.2 _ _ HCB.out (by omega))
  have HE4 := Lib.hid (hx2.2 _ _ HEB.out (by omega))
  have m4 : w1.cell? ⟨W.heap.size, 4, none⟩ = some (.int .i64 (m : Int)) := by rw [Lib.cell_of_heap HC4.out]; rfl
  clear hx1 hx2 hl3 hne HW3 HP3 HK3 HCB HEB c0 c1 c2 c3 c4
  go_wp2_with fail
  clear m4
  have hcq : W.heap.size ≠ q := by omega
  have heq' : W.heap.size + 1 ≠ q := by omega
  generalize W.heap.size + 1 = eb at *
  generalize W.heap.size = cb at *
  go_loopg [2, 29] m (fun gk at_ ct wr => ∃ (j p u : Nat) (nm : List (List UInt8)) (L1 : List Tok) (pv1 : Value), at_ = .int .i64 (p : Int) ∧ ct = .int .i64 j ∧ (gk + j ≤ m ∧ m ≤ gk + j) ∧ p ≤ V.length ∧ Hid (p = k + 1 + u) ∧ j ≤ u ∧ Hid (L1.length ≤ L.length + 1 + 4 * u ∧ u ≤ n) ∧ Hid (KS V d1 k true (some n) gk nm u) ∧ Hid (L1 ++ (kidsK (valN d1) (tokK d1) false gk (V.drop p) ++ [mkT [93]]) = R) ∧ Hid (PutS q pv1 L1 wr) ∧ Hid (RK q W wr) ∧ Hid (wr.heap[cb]? = some (.cells #[.int .u8 6, .string nx, .string tx, .int .i64 nu, .int .i64 (m : Int)] 63 (0, 0))) ∧ Hid (wr.heap[eb]? = some (.cells #[.string ⟨#[91]⟩, .string ⟨#[93]⟩] 128 (0, 0))))
  case atStart => exact ⟨0, k + 1, 0, [], _, pv1, by go_num, rfl, ⟨by omega, by omega⟩, by omega, Lib.hid rfl, Nat.le_refl _, Lib.hid ⟨by simp, Nat.zero_le _⟩, HK0, HR0, HP4, HK4, HC4, HE4⟩
  case round =>
    clear HP4 HK4 HC4 HE4 HR0 HK0 hk1 hk2 hk3 hk4
    rename World => wr
    obtain ⟨j, p, u, nm, L1, pv1, rfl, rfl, ⟨hj, hj'⟩, hp, HPU, hju, HLEN, HKS, HRR, HPr, HKr, HCr, HEr⟩ := hrel
    have e0 : wr.cell? ⟨cb, 0, none⟩ = some (.int .u8 6) := by rw [Lib.cell_of_heap HCr.out]; rfl
    have hL1 : L1.length ≤ 90000 := by have z1 := HROOM.out; have z2 := HLEN.out.1; have z3 := HLEN.out.2; omega
    have hqr := HPr.out.lt
    by_cases hg0 : gk = 0
    · subst hg0
      have hdone := HKS.out.done
      have hjn : ¬ j < m := by omega
      have hu : u = n := (Option.some.inj hdone).symm
      have HPK : Hid (p = K) := Lib.hid (by rw [HPU.out, hu]; exact HK.out)
      have HF : Hid (L1 ++ [mkT [93]] = R) := Lib.hid (by have := HRR.out; rw [show kidsK (valN d1) (tokK d1) false 0 (V.drop p) = [] from rfl] at this; exact this)
      have z1 : wr.cell? ⟨eb, 1, none⟩ = some (.string ⟨#[93]⟩) := by rw [Lib.cell_of_heap HEr.out]; rfl
      have hb5 : Below wr.heap.size wr (wr.alloc (.cells #[.string ⟨#[93]⟩] 9 (0, 0))) := (Below.refl _ _).alloc (Nat.le_refl _) _
      have HP5 := Lib.hid (HPr.out.below hb5)
      have HK5 : Hid (RK q W _) := Lib.hid (HKr.out.trans (rk_below hb5 (Nat.le_of_lt hqr)))
      have hne5 : wr.heap.size ≠ q := by omega
      clear hdone hu hj hj' hju hb5
      go_wp2_with fail
      refine (put_add q pv1 L1 4 4 rfl ⟨#[93]⟩ _ 1 _ HP5.out (new_cell0 _ _ _) hne5 (by omega)).mono ?_; rintro e wx ⟨rfl, hx1, hx2⟩
      have HFIN : Hid (PEnd q R (K : Int) W (.returned (.int .i64 (p : Int))) wx) := Lib.hid (by
        rw [← HF.out, HPK.out]
        exact ⟨rfl, hx1, HK5.out.trans hx2⟩)
      clear hx1 hx2
      go_wp2_with fail
      go_ret
      exact HFIN.out
    · obtain ⟨g1, rfl⟩ : ∃ g1, gk = g1 + 1 := ⟨gk - 1, by omega⟩
      have hjm : j < m := by omega
      clear hg0
      obtain ⟨hpl, n1, hv1, hks⟩ := HKS.out.step HPU.out
      have hn1 := (valN_le _ _ _ hv1).1
      have hn2 := (valN_le _ _ _ hv1).2
      have hun1 : u + n1 ≤ n := by
        have := hks
        unfold KS at this
        obtain ⟨x, _, hx⟩ := Option.map_eq_some_iff.1 this
        omega
      rw [List.length_drop] at hn2
      have HT1 := Lib.hid (HTL.out p n1 hv1)
      have HUN := Lib.hid hun1
      clear hun1
      have hrr := HRR.out
      rw [kidsK, hv1, Option.getD_some, List.drop_drop] at hrr
      have HI : Hid (∀ (W' : World) (pv' : Value) (L' : List Tok), RK q W W' → L'.length + 4 * (n1 + 1) ≤ 90000 → PutS q pv' L' W' → CelRow b off V W' → Calls Tryz.prog 35 #[.pointer (some ⟨q, 0, none⟩), .slice (some ⟨b, off, none⟩) V.length cap, .int .i64 (p : Int)] W' fun e w' => PEnd q (L' ++ tokK d1 (V.drop p)) ((p + n1 : Nat) : Int) W' e w') := Lib.hid fun W' pv' L' h0 h1 h2 h3 => HIH.out W' pv' L' p n1 h0 hpl hv1 h1 h2 h3
      obtain ⟨p2, hp2⟩ : ∃ p2, p + n1 = p2 := ⟨_, rfl⟩
      have HP2 : Hid (p2 = k + 1 + (u + n1)) := Lib.hid (by rw [← hp2, HPU.out]; omega)
      have hp3 : p2 ≤ V.length := by omega
      have HKS2 := Lib.hid hks
      rw [hp2] at HI hrr
      have p5 : (p : Int).toNat = p := by omega
      have p6 : (0 : Int) ≤ (p : Int) := by omega
      have p7 : (p : Int) < (V.length : Int) := by omega
      have hbw : b ≠ q := by omega
      unfold preK at hrr
      rw [if_neg (by simp)] at hrr
      clear hv1 hks
      generalize tokK d1 (V.drop p) = tj at *
      have HRX : Hid ((L1 ++ tj) ++ (kidsK (valN d1) (tokK d1) false g1 (V.drop p2) ++ [mkT [93]]) = R) := Lib.hid (by rw [← hrr]; simp)
      have HJJ := Lib.hid (And.intro hj (And.intro hj' hju))
      clear hrr hj hj' hju
      have HP7 := HPr
      have HK7 : Hid (RK q wr wr) := Lib.hid ⟨Below.refl _ _, fun k o h _ => h⟩
      go_wp2_with fail
      refine (HI.out wr pv1 (L1) (HKr.out.trans HK7.out) (by have z1 := HROOM.out; have z2 := HLEN.out.1; have z3 := HLEN.out.2; have z4 := HT1.out; have z5 := HUN.out; (try simp only [List.length_append, List.length_cons, List.length_nil]); omega) HP7.out ((HROW.out.rk HKr.out hbw).rk HK7.out hbw)).mono ?_; rintro e w8 ⟨rfl, ⟨pv8, hx1⟩, hx2⟩
      have HP8 := Lib.hid hx1
      have hk8 := HK7.out.trans hx2
      have HK8 := Lib.hid (HKr.out.trans hk8)
      have HC8 := Lib.hid (hk8.2 _ _ HCr.out hcq)
      have HE8 := Lib.hid (hk8.2 _ _ HEr.out heq')
      have hz8 : IntKind.i64.wrap ((j : Int) + 1) = ((j + 1 : Nat) : Int) := by rw [IntWalk.i64_in _ (by omega)]; omega
      clear hx1 hx2 hk8
      go_wp2_with fail
      obtain ⟨hj, hj', hju⟩ := HJJ.out
      go_roundg g1
      case measure => omega
      case rel => exact ⟨j + 1, p2, u + n1, _, _, pv8, rfl, by first | rfl | go_num, ⟨by omega, by omega⟩, hp3, HP2, by omega, Lib.hid ⟨by have z1 := HROOM.out; have z2 := HLEN.out.1; have z3 := HLEN.out.2; have z4 := HT1.out; have z5 := HUN.out; (try simp only [List.length_append, List.length_cons, List.length_nil]); omega, HUN.out⟩, HKS2, HRX, HP8, HK8, HC8, HE8⟩
set_option maxRecDepth 100000 in
set_option maxHeartbeats 4000000 in
theorem up_obj (q b off cap k : Nat) (V : List Cel) (pv : Value) (L : List Tok) (W : World) (nx tx : ByteArray) (nu : Int) (m : Nat) (hP : PutS q pv L W)
    (hk : k < V.length) (hl : V.length ≤ 2048) (hrow : CelRow b off V W) (hbq : b < q)
    (c0 : W.cell? ⟨b, off + k * 5, none⟩ = some (.int .u8 7)) (c1 : W.cell? ⟨b, off + k * 5 + 1, none⟩ = some (.string nx)) (c2 : W.cell? ⟨b, off + k * 5 + 2, none⟩ = some (.string tx)) (c3 : W.cell? ⟨b, off + k * 5 + 3, none⟩ = some (.int .i64 nu)) (c4 : W.cell? ⟨b, off + k * 5 + 4, none⟩ = some (.int .i64 (m : Int)))
    (hmx : (m : Int) ≤ 9223372036854775807) (d1 n : Nat) (hkids : KS V d1 k false (some n) m [] 0) (hroom : L.length + 4 * (n + 2) ≤ 90000)
    (HTL : Hid (∀ (p n1 : Nat), valN d1 (V.drop p) = some n1 → (tokK d1 (V.drop p)).length + 2 ≤ 4 * n1))
    (HIH : Hid (∀ (W' : World) (pv' : Value) (L' : List Tok) (p n1 : Nat), RK q W W' → p < V.length → valN d1 (V.drop p) = some n1 → L'.length + 4 * (n1 + 1) ≤ 90000 → PutS q pv' L' W' → CelRow b off V W' → Calls Tryz.prog 35 #[.pointer (some ⟨q, 0, none⟩), .slice (some ⟨b, off, none⟩) V.length cap, .int .i64 (p : Int)] W' fun e w' => PEnd q (L' ++ tokK d1 (V.drop p)) ((p + n1 : Nat) : Int) W' e w')) :
    Calls Tryz.prog 35 #[.pointer (some ⟨q, 0, none⟩), .slice (some ⟨b, off, none⟩) V.length cap, .int .i64 (k : Int)] W fun e w' => PEnd q (L ++ (mkT [123] :: (kidsK (valN d1) (tokK d1) true m (V.drop (k + 1)) ++ [mkT [125]]))) ((k + 1 + n : Nat) : Int) W e w' := by
  have hq := hP.lt
  have hk1 : IntKind.i64.wrap ((k : Int) + 1) = (k : Int) + 1 := IntWalk.i64_in _ (by omega)
  have hk2 : (k : Int).toNat = k := by omega
  have hk3 : (0 : Int) ≤ (k : Int) := by omega
  have hk4 : (k : Int) < (V.length : Int) := by omega
  have HK0 := Lib.hid hkids
  have HROOM := Lib.hid hroom
  have HROW := Lib.hid hrow
  have hLL : L.length ≤ 100000 := by omega
  obtain ⟨R, hR⟩ : ∃ R, L ++ (mkT [123] :: (kidsK (valN d1) (tokK d1) true m (V.drop (k + 1)) ++ [mkT [125]])) = R := ⟨_, rfl⟩
  have HR0 : Hid ((L ++ [mkT [123]]) ++ (kidsK (valN d1) (tokK d1) true m (V.drop (k + 1)) ++ [mkT [125]]) = R) := Lib.hid (by rw [← hR]; simp)
  rw [hR]
  obtain ⟨K, hK⟩ : ∃ K, k + 1 + n = K := ⟨_, rfl⟩
  have HK := Lib.hid hK
  rw [hK]
  obtain ⟨W3, hW3⟩ : ∃ W3, (((W.alloc (.cells #[.int .u8 7, .string nx, .string tx, .int .i64 nu, .int .i64 (m : Int)] 63 (0, 0))).alloc (.cells #[.string ⟨#[123]⟩, .string ⟨#[125]⟩] 128 (0, 0))).alloc (.cells #[.string ⟨#[123]⟩] 9 (0, 0))) = W3 := ⟨_, rfl⟩
  have hb3 : Below W.heap.size W W3 := by
    rw [← hW3]; exact (((Below.refl _ _).alloc (Nat.le_refl _) _).alloc (by simp) _).alloc (by simp; omega) _
  have HP3 := Lib.hid (hP.below hb3)
  have HK3 : Hid (RK q W W3) := Lib.hid (rk_below hb3 (Nat.le_of_lt hq))
  have HCB : Hid (W3.heap[W.heap.size]? = some (.cells #[.int .u8 7, .string nx, .string tx, .int .i64 nu, .int .i64 (m : Int)] 63 (0, 0))) := Lib.hid (by rw [← hW3]; exact heap_old (heap_old (heap_new _ _ _ rfl)))
  have HEB : Hid (W3.heap[W.heap.size + 1]? = some (.cells #[.string ⟨#[123]⟩, .string ⟨#[125]⟩] 128 (0, 0))) := Lib.hid (by rw [← hW3]; exact heap_old (heap_new _ _ _ (by simp)))
  have hl3 : W3.cell? ⟨W.heap.size + 1 + 1, 0, none⟩ = some (.string ⟨#[123]⟩) := by rw [← hW3]; exact Lib.cell_of_heap (heap_new _ _ _ (by simp)) 0
  have hne : W.heap.size + 1 + 1 ≠ q := by omega
  have HW3 := Lib.hid hW3
  clear hR hK hkids hroom hP hrow hb3 hW3
  go_enter Tryz.func35, Tryz.ntmps35
  go_wp2_with fail
  rw [HW3.out]
  refine (put_add q pv L 4 4 rfl ⟨#[123]⟩ _ 1 W3 HP3.out hl3 hne hLL).mono ?_; rintro e w1 ⟨rfl, ⟨pv1, hx1⟩, hx2⟩
  have HP4 : Hid (PutS q pv1 (L ++ [mkT [123]]) w1) := Lib.hid hx1
  have HK4 := Lib.hid (HK3.out.trans hx2)
  have HC4 := Lib.hid (hx2.2 _ _ HCB.out (by omega))
  have HE4 := Lib.hid (hx2.2 _ _ HEB.out (by omega))
  have m4 : w1.cell? ⟨W.heap.size, 4, none⟩ = some (.int .i64 (m : Int)) := by rw [Lib.cell_of_heap HC4.out]; rfl
  clear hx1 hx2 hl3 hne HW3 HP3 HK3 HCB HEB c0 c1 c2 c3 c4
  go_wp2_with fail
  clear m4
  have hcq : W.heap.size ≠ q := by omega
  have heq' : W.heap.size + 1 ≠ q := by omega
  generalize W.heap.size + 1 = eb at *
  generalize W.heap.size = cb at *
  go_loopg [2, 29] m (fun gk at_ ct wr => ∃ (j p u : Nat) (nm : List (List UInt8)) (L1 : List Tok) (pv1 : Value), at_ = .int .i64 (p : Int) ∧ ct = .int .i64 j ∧ (gk + j ≤ m ∧ m ≤ gk + j) ∧ p ≤ V.length ∧ Hid (p = k + 1 + u) ∧ j ≤ u ∧ Hid (L1.length ≤ L.length + 1 + 4 * u ∧ u ≤ n) ∧ Hid (KS V d1 k false (some n) gk nm u) ∧ Hid (L1 ++ (kidsK (valN d1) (tokK d1) true gk (V.drop p) ++ [mkT [125]]) = R) ∧ Hid (PutS q pv1 L1 wr) ∧ Hid (RK q W wr) ∧ Hid (wr.heap[cb]? = some (.cells #[.int .u8 7, .string nx, .string tx, .int .i64 nu, .int .i64 (m : Int)] 63 (0, 0))) ∧ Hid (wr.heap[eb]? = some (.cells #[.string ⟨#[123]⟩, .string ⟨#[125]⟩] 128 (0, 0))))
  case atStart => exact ⟨0, k + 1, 0, [], _, pv1, by go_num, rfl, ⟨by omega, by omega⟩, by omega, Lib.hid rfl, Nat.le_refl _, Lib.hid ⟨by simp, Nat.zero_le _⟩, HK0, HR0, HP4, HK4, HC4, HE4⟩
  case round =>
    clear HP4 HK4 HC4 HE4 HR0 HK0 hk1 hk2 hk3 hk4
    rename World => wr
    obtain ⟨j, p, u, nm, L1, pv1, rfl, rfl, ⟨hj, hj'⟩, hp, HPU, hju, HLEN, HKS, HRR, HPr, HKr, HCr, HEr⟩ := hrel
    have e0 : wr.cell? ⟨cb, 0, none⟩ = some (.int .u8 7) := by rw [Lib.cell_of_heap HCr.out]; rfl
    have hL1 : L1.length ≤ 90000 := by have z1 := HROOM.out; have z2 := HLEN.out.1; have z3 := HLEN.out.2; omega
    have hqr := HPr.out.lt
    by_cases hg0 : gk = 0
    · subst hg0
      have hdone := HKS.out.done
      have hjn : ¬ j < m := by omega
      have hu : u = n := (Option.some.inj hdone).symm
      have HPK : Hid (p = K) := Lib.hid (by rw [HPU.out, hu]; exact HK.out)
      have HF : Hid (L1 ++ [mkT [125]] = R) := Lib.hid (by have := HRR.out; rw [show kidsK (valN d1) (tokK d1) true 0 (V.drop p) = [] from rfl] at this; exact this)
      have z1 : wr.cell? ⟨eb, 1, none⟩ = some (.string ⟨#[125]⟩) := by rw [Lib.cell_of_heap HEr.out]; rfl
      have hb5 : Below wr.heap.size wr (wr.alloc (.cells #[.string ⟨#[125]⟩] 9 (0, 0))) := (Below.refl _ _).alloc (Nat.le_refl _) _
      have HP5 := Lib.hid (HPr.out.below hb5)
      have HK5 : Hid (RK q W _) := Lib.hid (HKr.out.trans (rk_below hb5 (Nat.le_of_lt hqr)))
      have hne5 : wr.heap.size ≠ q := by omega
      clear hdone hu hj hj' hju hb5
      go_wp2_with fail
      refine (put_add q pv1 L1 4 4 rfl ⟨#[125]⟩ _ 1 _ HP5.out (new_cell0 _ _ _) hne5 (by omega)).mono ?_; rintro e wx ⟨rfl, hx1, hx2⟩
      have HFIN : Hid (PEnd q R (K : Int) W (.returned (.int .i64 (p : Int))) wx) := Lib.hid (by
        rw [← HF.out, HPK.out]
        exact ⟨rfl, hx1, HK5.out.trans hx2⟩)
      clear hx1 hx2
      go_wp2_with fail
      go_ret
      exact HFIN.out
    · obtain ⟨g1, rfl⟩ : ∃ g1, gk = g1 + 1 := ⟨gk - 1, by omega⟩
      have hjm : j < m := by omega
      clear hg0
      obtain ⟨hpl, n1, hv1, hks⟩ := HKS.out.step HPU.out
      have hn1 := (valN_le _ _ _ hv1).1
      have hn2 := (valN_le _ _ _ hv1).2
      have hun1 : u + n1 ≤ n := by
        have := hks
        unfold KS at this
        obtain ⟨x, _, hx⟩ := Option.map_eq_some_iff.1 this
        omega
      rw [List.length_drop] at hn2
      have HT1 := Lib.hid (HTL.out p n1 hv1)
      have HUN := Lib.hid hun1
      clear hun1
      have hrr := HRR.out
      rw [kidsK, hv1, Option.getD_some, List.drop_drop] at hrr
      have HI : Hid (∀ (W' : World) (pv' : Value) (L' : List Tok), RK q W W' → L'.length + 4 * (n1 + 1) ≤ 90000 → PutS q pv' L' W' → CelRow b off V W' → Calls Tryz.prog 35 #[.pointer (some ⟨q, 0, none⟩), .slice (some ⟨b, off, none⟩) V.length cap, .int .i64 (p : Int)] W' fun e w' => PEnd q (L' ++ tokK d1 (V.drop p)) ((p + n1 : Nat) : Int) W' e w') := Lib.hid fun W' pv' L' h0 h1 h2 h3 => HIH.out W' pv' L' p n1 h0 hpl hv1 h1 h2 h3
      obtain ⟨p2, hp2⟩ : ∃ p2, p + n1 = p2 := ⟨_, rfl⟩
      have HP2 : Hid (p2 = k + 1 + (u + n1)) := Lib.hid (by rw [← hp2, HPU.out]; omega)
      have hp3 : p2 ≤ V.length := by omega
      have HKS2 := Lib.hid hks
      rw [hp2] at HI hrr
      have p5 : (p : Int).toNat = p := by omega
      have p6 : (0 : Int) ≤ (p : Int) := by omega
      have p7 : (p : Int) < (V.length : Int) := by omega
      have hbw : b ≠ q := by omega
      have hhd : ((V.drop p).headD ⟨0, [], [], 0, 0⟩).name = V[p].name := by rw [List.drop_eq_getElem_cons hpl]; rfl
      unfold preK at hrr
      rw [hhd, if_pos rfl] at hrr
      obtain ⟨_, r1, _⟩ := (HROW.out.rk HKr.out hbw) p hpl
      obtain ⟨xn, hxn⟩ : ∃ x : ByteArray, (⟨V[p].name.toArray⟩ : ByteArray) = x := ⟨_, rfl⟩
      have hxl : xn.data.toList = V[p].name := by rw [← hxn]
      rw [hxn] at r1
      rw [← hxl] at hrr
      clear hhd hxn hxl hv1 hks
      generalize tokK d1 (V.drop p) = tj at *
      have HRX : Hid ((L1 ++ [nmT xn.data.toList] ++ [mkT [58]] ++ tj) ++ (kidsK (valN d1) (tokK d1) true g1 (V.drop p2) ++ [mkT [125]]) = R) := Lib.hid (by rw [← hrr]; simp)
      have HJJ := Lib.hid (And.intro hj (And.intro hj' hju))
      clear hrr hj hj' hju
      have hb5 : Below wr.heap.size wr (wr.alloc (.cells #[.string xn] 9 (0, 0))) := (Below.refl _ _).alloc (Nat.le_refl _) _
      have HP5 := Lib.hid (HPr.out.below hb5)
      have HK5 : Hid (RK q wr _) := Lib.hid (rk_below hb5 (Nat.le_of_lt hqr))
      have hne5 : wr.heap.size ≠ q := by omega
      clear hb5
      go_wp2_with fail
      refine (put_add q pv1 L1 1 1 rfl xn _ 1 _ HP5.out (new_cell0 _ _ _) hne5 (by omega)).mono ?_; rintro e w2 ⟨rfl, ⟨pv2, hx1⟩, hx2⟩
      have hb6 : Below w2.heap.size w2 (w2.alloc (.cells #[.string ⟨#[58]⟩] 9 (0, 0))) := (Below.refl _ _).alloc (Nat.le_refl _) _
      have HP6 : Hid (PutS q pv2 (L1 ++ [nmT xn.data.toList]) _) := Lib.hid (hx1.below hb6)
      have HK6 : Hid (RK q wr _) := Lib.hid ((HK5.out.trans hx2).trans (rk_below hb6 (Nat.le_of_lt hx1.lt)))
      have hne6 : w2.heap.size ≠ q := by have := hx1.lt; omega
      clear hx1 hx2 hb6 r1
      go_wp2_with fail
      refine (put_add q pv2 _ 4 4 rfl ⟨#[58]⟩ _ 1 _ HP6.out (new_cell0 _ _ _) hne6 (by simp; omega)).mono ?_; rintro e w3 ⟨rfl, ⟨pv3, hx1⟩, hx2⟩
      have HP7 : Hid (PutS q pv3 (L1 ++ [nmT xn.data.toList] ++ [mkT [58]]) w3) := Lib.hid hx1
      have HK7 := Lib.hid (HK6.out.trans hx2)
      clear hx1 hx2
      go_wp2_with fail
      refine (HI.out w3 pv3 (L1 ++ [nmT xn.data.toList] ++ [mkT [58]]) (HKr.out.trans HK7.out) (by have z1 := HROOM.out; have z2 := HLEN.out.1; have z3 := HLEN.out.2; have z4 := HT1.out; have z5 := HUN.out; (try simp only [List.length_append, List.length_cons, List.length_nil]); omega) HP7.out ((HROW.out.rk HKr.out hbw).rk HK7.out hbw)).mono ?_; rintro e w8 ⟨rfl, ⟨pv8, hx1⟩, hx2⟩
      have HP8 := Lib.hid hx1
      have hk8 := HK7.out.trans hx2
      have HK8 := Lib.hid (HKr.out.trans hk8)
      have HC8 := Lib.hid (hk8.2 _ _ HCr.out hcq)
      have HE8 := Lib.hid (hk8.2 _ _ HEr.out heq')
      have hz8 : IntKind.i64.wrap ((j : Int) + 1) = ((j + 1 : Nat) : Int) := by rw [IntWalk.i64_in _ (by omega)]; omega
      clear hx1 hx2 hk8
      go_wp2_with fail
      obtain ⟨hj, hj', hju⟩ := HJJ.out
      go_roundg g1
      case measure => omega
      case rel => exact ⟨j + 1, p2, u + n1, _, _, pv8, rfl, by first | rfl | go_num, ⟨by omega, by omega⟩, hp3, HP2, by omega, Lib.hid ⟨by have z1 := HROOM.out; have z2 := HLEN.out.1; have z3 := HLEN.out.2; have z4 := HT1.out; have z5 := HUN.out; (try simp only [List.length_append, List.length_cons, List.length_nil]); omega, HUN.out⟩, HKS2, HRX, HP8, HK8, HC8, HE8⟩
end Go.Proofs.YtgaknbnhmoddcaaGreatDoor
namespace Go.Proofs.YtgaknbnhmoddcaaGreatDoor
open Go.RowKit
theorem kind_k (c : Cel) (k : Nat) (hk : k < 256) (h : c.kind.toNat = k) : c.kind = UInt8.ofNat k := by
  refine UInt8.toNat_inj.1 ?_
  rw [UInt8.toNat_ofNat', h]; omega
def NumV (V : List Cel) : Prop := ∀ c ∈ V, R c.num ∧ R c.many
set_option maxRecDepth 100000 in
set_option maxHeartbeats 2000000 in
theorem up_case (w0 : World) (V : List Cel) (q b off cap : Nat) (hs : NumV V) (hl : V.length ≤ 2048) (hET : EnvT w0) (hq0 : w0.heap.size ≤ q) (hbq : b < q)
    (d : Nat) (W : World) (pv : Value) (L : List Tok) (k n : Nat) (hk : k < V.length) (hv : valN d (V.drop k) = some n) (hroom : L.length + 4 * (n + 1) ≤ 90000) (hP : PutS q pv L W) (hrow : CelRow b off V W) (hW : Below w0.heap.size w0 W)
    (HIH : ∀ d1, d = d1 + 1 → Hid (∀ (W' : World) (pv' : Value) (L' : List Tok) (p n1 : Nat), RK q W W' → p < V.length → valN d1 (V.drop p) = some n1 → L'.length + 4 * (n1 + 1) ≤ 90000 → PutS q pv' L' W' → CelRow b off V W' → Calls Tryz.prog 35 #[.pointer (some ⟨q, 0, none⟩), .slice (some ⟨b, off, none⟩) V.length cap, .int .i64 (p : Int)] W' fun e w' => PEnd q (L' ++ tokK d1 (V.drop p)) ((p + n1 : Nat) : Int) W' e w')) :
    Calls Tryz.prog 35 #[.pointer (some ⟨q, 0, none⟩), .slice (some ⟨b, off, none⟩) V.length cap, .int .i64 (k : Int)] W fun e w' => PEnd q (L ++ tokK d (V.drop k)) ((k + n : Nat) : Int) W e w' := by
  obtain ⟨c0, c1, c2, c3, c4⟩ := hrow k hk
  obtain ⟨s3, s4⟩ := hs V[k] (List.getElem_mem _)
  have hval := valN_drop V k d hk
  rw [hv] at hval
  have hnest := nest_kind V[k]
  have hone := one_kind V[k]
  have hkl := UInt8.toNat_lt V[k].kind
  have ho : oneC V[k] = true := by
    cases h : oneC V[k] with
    | true => rfl
    | false => rw [h] at hval; cases hval
  rw [ho, if_pos rfl] at hval
  rw [ho] at hone
  have h7 : V[k].kind.toNat ≤ 7 := by
    have := hone.symm
    simp only [Bool.and_eq_true, decide_eq_true_eq] at this
    exact this.1
  have hdrop := List.drop_eq_getElem_cons hk
  have hlit : nestC V[k] = false → tokK d (V.drop k) = litK V[k] ∧ n = 1 := by
    intro h
    rw [h, if_neg Bool.false_ne_true] at hval
    refine ⟨?_, Option.some.inj hval⟩
    rw [hdrop]
    cases d with
    | zero => rw [tokK_zero, headK_cons, h]; rfl
    | succ d => rw [tokK_more, headK_cons, h]; rfl
  have hcast : ((k + 1 : Nat) : Int) = (k : Int) + 1 := by omega
  have hll : L.length + 8 ≤ 100000 := by omega
  have htl : (⟨V[k].text.toArray⟩ : ByteArray).data.toList = V[k].text := by simp
  have h8 : V[k].kind.toNat = 0 ∨ V[k].kind.toNat = 1 ∨ V[k].kind.toNat = 2 ∨ V[k].kind.toNat = 3 ∨ V[k].kind.toNat = 4 ∨ V[k].kind.toNat = 5 ∨ V[k].kind.toNat = 6 ∨ V[k].kind.toNat = 7 := by omega
  rcases h8 with h | h | h | h | h | h | h | h
  · obtain ⟨e1, rfl⟩ := hlit (by rw [hnest, h]; rfl)
    have hk0 := kind_k V[k] 0 (by omega) h
    rw [e1, hcast]
    have : litK V[k] = [nmT [110, 117, 108, 108]] := by unfold litK; rw [hk0]; rfl
    rw [this]
    exact up_null q b off V.length cap k pv L W _ _ _ _ _ hP hk hl hll c0 c1 c2 c3 c4 h
  · obtain ⟨e1, rfl⟩ := hlit (by rw [hnest, h]; rfl)
    have hk0 := kind_k V[k] 1 (by omega) h
    rw [e1, hcast]
    have hnum : V[k].num = 0 ∨ V[k].num = 1 := by
      rw [h] at hone
      have := hone.symm
      simp only [Bool.and_eq_true] at this
      have h2 := this.2.1.2
      unfold cnum at h2
      simpa using h2
    rcases hnum with hn0 | hn1
    · have : litK V[k] = [nmT [102, 97, 108, 115, 101]] := by unfold litK; rw [hk0, hn0]; rfl
      rw [this]
      exact up_false q b off V.length cap k pv L W _ _ _ _ _ hP hk hl hll c0 c1 c2 c3 c4 h hn0
    · have : litK V[k] = [nmT [116, 114, 117, 101]] := by unfold litK; rw [hk0, hn1]; rfl
      rw [this]
      exact up_true q b off V.length cap k pv L W _ _ _ _ _ hP hk hl hll c0 c1 c2 c3 c4 h hn1
  · obtain ⟨e1, rfl⟩ := hlit (by rw [hnest, h]; rfl)
    have hk0 := kind_k V[k] 2 (by omega) h
    rw [e1, hcast]
    have : litK V[k] = [⟨2, Lib.itoa V[k].num, 0⟩] := by unfold litK; rw [hk0]; rfl
    rw [this]
    exact up_int q b off V.length cap k pv L W _ _ _ _ _ hP hk hl hll c0 c1 c2 c3 c4 h (Lib.hid fun W' hW' => write_tab V[k].num s3 W' (hET.stays (hW.trans (hW'.mono hW.size))))
  · obtain ⟨e1, rfl⟩ := hlit (by rw [hnest, h]; rfl)
    have hk0 := kind_k V[k] 3 (by omega) h
    rw [e1, hcast]
    have : litK V[k] = [⟨3, (⟨V[k].text.toArray⟩ : ByteArray).data.toList, 0⟩] := by unfold litK; rw [hk0, htl]; rfl
    rw [this]
    exact up_text q b off V.length cap k pv L W _ _ _ _ _ hP hk hl hll c0 c1 c2 c3 c4 h
  · obtain ⟨e1, rfl⟩ := hlit (by rw [hnest, h]; rfl)
    have hk0 := kind_k V[k] 4 (by omega) h
    rw [e1, hcast]
    have : litK V[k] = [⟨1, (⟨V[k].text.toArray⟩ : ByteArray).data.toList, 0⟩] := by unfold litK; rw [hk0, htl]; rfl
    rw [this]
    exact up_enum q b off V.length cap k pv L W _ _ _ _ _ hP hk hl hll c0 c1 c2 c3 c4 h
  · obtain ⟨e1, rfl⟩ := hlit (by rw [hnest, h]; rfl)
    have hk0 := kind_k V[k] 5 (by omega) h
    rw [e1, hcast]
    have : litK V[k] = [mkT [36], nmT (⟨V[k].text.toArray⟩ : ByteArray).data.toList] := by unfold litK; rw [hk0, htl]; rfl
    rw [this]
    exact up_var q b off V.length cap k pv L W _ _ _ _ _ hP hk hl hll c0 c1 c2 c3 c4 h
  all_goals
    have hcn : cnest V[k].kind.toNat = true := by rw [h]; rfl
    rw [hnest, hcn, if_pos rfl] at hval
    cases d with
    | zero => cases hval
    | succ d1 =>
      dsimp only at hval
      obtain ⟨n', hn', hnn⟩ := Option.map_eq_some_iff.1 hval.symm
      have hm : 0 ≤ V[k].many := by
        have := hone.symm
        rw [hcn] at this
        simp only [Bool.and_eq_true, if_pos rfl, decide_eq_true_eq] at this
        simpa using this.2.2
      obtain ⟨m, hm2⟩ := Int.eq_ofNat_of_zero_le hm
      have hmt : V[k].many.toNat = m := by rw [hm2]; rfl
      have hmx : (m : Int) ≤ 9223372036854775807 := by rw [← hm2]; exact s4.2
      rw [hmt] at hn'
      rw [hm2] at c4
      have htext : tokK (d1 + 1) (V.drop k) = opnK V[k] :: (kidsK (valN d1) (tokK d1) (!(V[k].kind == 6)) m (V.drop (k + 1)) ++ [shtK V[k]]) := by
        rw [hdrop, tokK_more, headK_cons, hnest, hcn, if_pos rfl, hmt]
      have hKn : ((k + n : Nat) : Int) = ((k + 1 + n' : Nat) : Int) := by omega
      have HTL : Hid (∀ (p n1 : Nat), valN d1 (V.drop p) = some n1 → (tokK d1 (V.drop p)).length + 2 ≤ 4 * n1) := Lib.hid fun p n1 h => tokK_len d1 _ n1 h
      rw [htext, hKn]
      unfold opnK shtK
      rw [h] at c0
      first
        | (have hk6 : (V[k].kind == 6) = true := beq_iff_eq.2 (kind_k V[k] 6 (by omega) h)
           rw [hk6] at hn' ⊢
           rw [if_pos rfl, if_pos rfl, Bool.not_true]
           have hks := KS.start hn'
           have hrm : L.length + 4 * (n' + 2) ≤ 90000 := by omega
           exact up_list q b off cap k V pv L W _ _ _ m hP hk hl hrow hbq c0 c1 c2 c3 c4 hmx d1 n' hks hrm HTL (HIH d1 rfl))
        | (have hk6 : (V[k].kind == 6) = false := beq_eq_false_iff_ne.2 fun e => by rw [e] at h; exact absurd h (by decide)
           rw [hk6] at hn' ⊢
           rw [if_neg Bool.false_ne_true, if_neg Bool.false_ne_true, Bool.not_false]
           have hks := KS.start hn'
           have hrm : L.length + 4 * (n' + 2) ≤ 90000 := by omega
           exact up_obj q b off cap k V pv L W _ _ _ m hP hk hl hrow hbq c0 c1 c2 c3 c4 hmx d1 n' hks hrm HTL (HIH d1 rfl))
theorem up_any (w0 : World) (V : List Cel) (q b off cap : Nat) (hs : NumV V) (hl : V.length ≤ 2048) (hET : EnvT w0) (hq0 : w0.heap.size ≤ q) (hbq : b < q) :
    ∀ (d : Nat) (W : World) (pv : Value) (L : List Tok) (k n : Nat), k < V.length → valN d (V.drop k) = some n → L.length + 4 * (n + 1) ≤ 90000 → PutS q pv L W → CelRow b off V W → Below w0.heap.size w0 W →
    Calls Tryz.prog 35 #[.pointer (some ⟨q, 0, none⟩), .slice (some ⟨b, off, none⟩) V.length cap, .int .i64 (k : Int)] W fun e w' => PEnd q (L ++ tokK d (V.drop k)) ((k + n : Nat) : Int) W e w' := by
  intro d
  induction d with
  | zero => intro W pv L k n hk hv hr hP hrow hW; exact up_case w0 V q b off cap hs hl hET hq0 hbq 0 W pv L k n hk hv hr hP hrow hW (fun d1 h => by omega)
  | succ d ih =>
    intro W pv L k n hk hv hr hP hrow hW
    refine up_case w0 V q b off cap hs hl hET hq0 hbq (d + 1) W pv L k n hk hv hr hP hrow hW (fun d1 h => ?_)
    obtain rfl : d = d1 := by omega
    exact Lib.hid fun W' pv' L' p n1 h0 h1 h2 h3 h4 h5 => ih W' pv' L' p n1 h1 h2 h3 h4 h5 (hW.trans (h0.1.mono hq0))
end Go.Proofs.YtgaknbnhmoddcaaGreatDoor
namespace Go.Proofs.YtgaknbnhmoddcaaGreatDoor
open Go.RowKit
set_option maxRecDepth 100000 in
theorem ixw_0 (s : ByteArray) (lb c : Nat) (W : World) (h0 : W.cell? ⟨lb, 0, none⟩ = some (.string ⟨#[110, 117, 108, 108]⟩)) (h1 : W.cell? ⟨lb, 1, none⟩ = some (.string ⟨#[116, 114, 117, 101]⟩)) (h2 : W.cell? ⟨lb, 2, none⟩ = some (.string ⟨#[102, 97, 108, 115, 101]⟩)) (t0 : (s.toList == [110, 117, 108, 108]) = true) :
    Calls Tryz.prog 94 #[.slice (some ⟨lb, 0, none⟩) 3 c, .string s] W fun e w' => e = .returned (.int .i64 (0)) ∧ W = w' := by
  go_enter Tryz.func94, Tryz.ntmps94
  go_wp2_with fail
  refine wp_loop_rounds 4 ?_
  repeat any_goals (rw [rounds_succ]; go_wp2_with fail)
  all_goals (go_ret; exact ⟨rfl, rfl⟩)
set_option maxRecDepth 100000 in
theorem ixw_1 (s : ByteArray) (lb c : Nat) (W : World) (h0 : W.cell? ⟨lb, 0, none⟩ = some (.string ⟨#[110, 117, 108, 108]⟩)) (h1 : W.cell? ⟨lb, 1, none⟩ = some (.string ⟨#[116, 114, 117, 101]⟩)) (h2 : W.cell? ⟨lb, 2, none⟩ = some (.string ⟨#[102, 97, 108, 115, 101]⟩)) (t0 : (s.toList == [110, 117, 108, 108]) = false) (t1 : (s.toList == [116, 114, 117, 101]) = true) :
    Calls Tryz.prog 94 #[.slice (some ⟨lb, 0, none⟩) 3 c, .string s] W fun e w' => e = .returned (.int .i64 (1)) ∧ W = w' := by
  go_enter Tryz.func94, Tryz.ntmps94
  go_wp2_with fail
  refine wp_loop_rounds 4 ?_
  repeat any_goals (rw [rounds_succ]; go_wp2_with fail)
  all_goals (go_ret; exact ⟨rfl, rfl⟩)
set_option maxRecDepth 100000 in
theorem ixw_2 (s : ByteArray) (lb c : Nat) (W : World) (h0 : W.cell? ⟨lb, 0, none⟩ = some (.string ⟨#[110, 117, 108, 108]⟩)) (h1 : W.cell? ⟨lb, 1, none⟩ = some (.string ⟨#[116, 114, 117, 101]⟩)) (h2 : W.cell? ⟨lb, 2, none⟩ = some (.string ⟨#[102, 97, 108, 115, 101]⟩)) (t0 : (s.toList == [110, 117, 108, 108]) = false) (t1 : (s.toList == [116, 114, 117, 101]) = false) (t2 : (s.toList == [102, 97, 108, 115, 101]) = true) :
    Calls Tryz.prog 94 #[.slice (some ⟨lb, 0, none⟩) 3 c, .string s] W fun e w' => e = .returned (.int .i64 (2)) ∧ W = w' := by
  go_enter Tryz.func94, Tryz.ntmps94
  go_wp2_with fail
  refine wp_loop_rounds 4 ?_
  repeat any_goals (rw [rounds_succ]; go_wp2_with fail)
  all_goals (go_ret; exact ⟨rfl, rfl⟩)
set_option maxRecDepth 100000 in
theorem ixw_no (s : ByteArray) (lb c : Nat) (W : World) (h0 : W.cell? ⟨lb, 0, none⟩ = some (.string ⟨#[110, 117, 108, 108]⟩)) (h1 : W.cell? ⟨lb, 1, none⟩ = some (.string ⟨#[116, 114, 117, 101]⟩)) (h2 : W.cell? ⟨lb, 2, none⟩ = some (.string ⟨#[102, 97, 108, 115, 101]⟩)) (t0 : (s.toList == [110, 117, 108, 108]) = false) (t1 : (s.toList == [116, 114, 117, 101]) = false) (t2 : (s.toList == [102, 97, 108, 115, 101]) = false) :
    Calls Tryz.prog 94 #[.slice (some ⟨lb, 0, none⟩) 3 c, .string s] W fun e w' => e = .returned (.int .i64 (-1)) ∧ W = w' := by
  go_enter Tryz.func94, Tryz.ntmps94
  go_wp2_with fail
  refine wp_loop_rounds 4 ?_
  repeat any_goals (rw [rounds_succ]; go_wp2_with fail)
  all_goals (go_ret; exact ⟨rfl, rfl⟩)
theorem ixw_any (s : ByteArray) (lb c : Nat) (W : World) (h0 : W.cell? ⟨lb, 0, none⟩ = some (.string ⟨#[110, 117, 108, 108]⟩)) (h1 : W.cell? ⟨lb, 1, none⟩ = some (.string ⟨#[116, 114, 117, 101]⟩)) (h2 : W.cell? ⟨lb, 2, none⟩ = some (.string ⟨#[102, 97, 108, 115, 101]⟩)) :
    ∃ i : Int, (decide (0 ≤ i) = wordsK.contains s.data.toList) ∧ Calls Tryz.prog 94 #[.slice (some ⟨lb, 0, none⟩) 3 c, .string s] W fun e w' => e = .returned (.int .i64 i) ∧ W = w' := by
  have e : wordsK.contains s.data.toList = (s.toList == [110, 117, 108, 108] || s.toList == [116, 114, 117, 101] || s.toList == [102, 97, 108, 115, 101]) := by
    unfold wordsK
    rw [ByteArray.toList_eq]
    simp only [List.contains_cons, List.contains_nil, Bool.or_false, Bool.or_assoc]
  rw [e]
  cases t0 : (s.toList == [110, 117, 108, 108]) with
  | true => exact ⟨0, rfl, ixw_0 s lb c W h0 h1 h2 t0⟩
  | false =>
    cases t1 : (s.toList == [116, 114, 117, 101]) with
    | true => exact ⟨1, rfl, ixw_1 s lb c W h0 h1 h2 t0 t1⟩
    | false =>
      cases t2 : (s.toList == [102, 97, 108, 115, 101]) with
      | true => exact ⟨2, rfl, ixw_2 s lb c W h0 h1 h2 t0 t1 t2⟩
      | false => exact ⟨-1, rfl, ixw_no s lb c W h0 h1 h2 t0 t1 t2⟩
set_option maxRecDepth 100000 in
theorem words_any (s : ByteArray) (lb c : Nat) (W : World) (h0 : W.cell? ⟨lb, 0, none⟩ = some (.string ⟨#[110, 117, 108, 108]⟩)) (h1 : W.cell? ⟨lb, 1, none⟩ = some (.string ⟨#[116, 114, 117, 101]⟩)) (h2 : W.cell? ⟨lb, 2, none⟩ = some (.string ⟨#[102, 97, 108, 115, 101]⟩)) :
    Calls Tryz.prog 64 #[.slice (some ⟨lb, 0, none⟩) 3 c, .string s] W fun e w' => e = .returned (.bool (wordsK.contains s.data.toList)) ∧ W = w' := by
  obtain ⟨i, hi, hc⟩ := ixw_any s lb c W h0 h1 h2
  have HC := Lib.hid hc
  clear hc h0 h1 h2
  cases hw : wordsK.contains s.data.toList with
  | true =>
    rw [hw] at hi
    have h0 : (0 : Int) ≤ i := of_decide_eq_true hi
    clear hi hw
    go_enter Tryz.func64, Tryz.ntmps64
    go_wp2_with fail
    refine HC.out.mono ?_; rintro e w1 ⟨rfl, rfl⟩
    go_wp2_with fail
    go_ret
    exact ⟨by first | rfl | simp [h0], rfl⟩
  | false =>
    rw [hw] at hi
    have h0 : ¬ (0 : Int) ≤ i := of_decide_eq_false hi
    clear hi hw
    go_enter Tryz.func64, Tryz.ntmps64
    go_wp2_with fail
    refine HC.out.mono ?_; rintro e w1 ⟨rfl, rfl⟩
    go_wp2_with fail
    go_ret
    exact ⟨by first | rfl | simp [h0], rfl⟩
/-- What stands against a cell of a literal. -/
def badL (c : Cel) : Bool := (!c.name.isEmpty && !nameB c.name) || (c.kind == 4 && wordsK.contains c.text)
theorem litB_bad (V : List Cel) : litB V = (mayB V && !V.any badL) := by
  unfold litB
  congr 1
  induction V with
  | nil => rfl
  | cons c r ih =>
    rw [List.all_cons, List.any_cons, ih]
    unfold badL
    cases c.name.isEmpty <;> cases nameB c.name <;> cases (c.kind == 4) <;> cases wordsK.contains c.text <;> simp
theorem str_ne {x : ByteArray} (h : x.data.toList.isEmpty = false) : ¬ x.toList = [] ∧ x.toList.isEmpty = false := by
  rw [ByteArray.toList_eq]
  refine ⟨fun e => ?_, h⟩
  rw [e] at h; cases h
theorem str_nil {x : ByteArray} (h : x.data.toList.isEmpty = true) : x = ⟨#[]⟩ := by
  apply ByteArray.ext; apply Array.toList_inj.1
  cases hx : x.data.toList with
  | nil => rfl
  | cons a b => rw [hx] at h; cases h
set_option maxRecDepth 100000 in
theorem lclo_e4 (k : Int) (x y : ByteArray) (nu ma : Int) (w : World) (h0 : x.data.toList.isEmpty = true) (h4 : (k == 4) = true) :
    Calls Tryz.prog 63 #[.agg #[.int .u8 k, .string x, .string y, .int .i64 nu, .int .i64 ma]] w fun e w' => e = .returned (.bool (wordsK.contains y.data.toList)) ∧ Below w.heap.size w w' := by
  have hxe := str_nil h0
  subst hxe
  go_enter Tryz.func63, Tryz.ntmps63
  go_wp2_with fail
  refine (words_any y _ 3 ((w.alloc (.cells #[.int .u8 k, .string ⟨#[]⟩, .string y, .int .i64 nu, .int .i64 ma] 63 (0, 0))).alloc (.cells #[.string ⟨#[110, 117, 108, 108]⟩, .string ⟨#[116, 114, 117, 101]⟩, .string ⟨#[102, 97, 108, 115, 101]⟩] 9 (0, 0))) (Lib.cell_of_heap (heap_new _ _ _ (by simp)) 0) (Lib.cell_of_heap (heap_new _ _ _ (by simp)) 1) (Lib.cell_of_heap (heap_new _ _ _ (by simp)) 2)).mono ?_; rintro e w2 ⟨rfl, rfl⟩
  have HB9 : Hid (Below w.heap.size w ((w.alloc (.cells #[.int .u8 k, .string ⟨#[]⟩, .string y, .int .i64 nu, .int .i64 ma] 63 (0, 0))).alloc (.cells #[.string ⟨#[110, 117, 108, 108]⟩, .string ⟨#[116, 114, 117, 101]⟩, .string ⟨#[102, 97, 108, 115, 101]⟩] 9 (0, 0)))) := Lib.hid (((Below.refl _ _).alloc (Nat.le_refl _) _).alloc (by simp) _)
  go_wp2_with fail
  go_ret
  exact ⟨ret_b (by simp), HB9.out⟩
set_option maxRecDepth 100000 in
theorem lclo_e0 (k : Int) (x y : ByteArray) (nu ma : Int) (w : World) (h0 : x.data.toList.isEmpty = true) (h4 : (k == 4) = false) :
    Calls Tryz.prog 63 #[.agg #[.int .u8 k, .string x, .string y, .int .i64 nu, .int .i64 ma]] w fun e w' => e = .returned (.bool false) ∧ Below w.heap.size w w' := by
  have hxe := str_nil h0
  subst hxe
  have HB9 : Hid (Below w.heap.size w (w.alloc (.cells #[.int .u8 k, .string ⟨#[]⟩, .string y, .int .i64 nu, .int .i64 ma] 63 (0, 0)))) := Lib.hid ((Below.refl _ _).alloc (Nat.le_refl _) _)
  go_enter Tryz.func63, Tryz.ntmps63
  go_wp2_with fail
  go_ret
  exact ⟨ret_b (by simp), HB9.out⟩
set_option maxRecDepth 100000 in
theorem lclo_nb (k : Int) (x y : ByteArray) (nu ma : Int) (w : World) (h0 : x.data.toList.isEmpty = false) (HNM : Hid (∀ W, Calls Tryz.prog 38 #[.string x] W fun e w' => e = .returned (.bool false) ∧ W = w')) :
    Calls Tryz.prog 63 #[.agg #[.int .u8 k, .string x, .string y, .int .i64 nu, .int .i64 ma]] w fun e w' => e = .returned (.bool true) ∧ Below w.heap.size w w' := by
  obtain ⟨h1, h2⟩ := str_ne h0
  have HB9 : Hid (Below w.heap.size w (w.alloc (.cells #[.int .u8 k, .string x, .string y, .int .i64 nu, .int .i64 ma] 63 (0, 0)))) := Lib.hid ((Below.refl _ _).alloc (Nat.le_refl _) _)
  go_enter Tryz.func63, Tryz.ntmps63
  go_wp2_with fail
  refine (HNM.out _).mono ?_; rintro e w1 ⟨rfl, rfl⟩
  go_wp2_with fail
  go_ret
  exact ⟨ret_b (by simp), HB9.out⟩
set_option maxRecDepth 100000 in
theorem lclo_n4 (k : Int) (x y : ByteArray) (nu ma : Int) (w : World) (h0 : x.data.toList.isEmpty = false) (HNM : Hid (∀ W, Calls Tryz.prog 38 #[.string x] W fun e w' => e = .returned (.bool true) ∧ W = w')) (h4 : (k == 4) = true) :
    Calls Tryz.prog 63 #[.agg #[.int .u8 k, .string x, .string y, .int .i64 nu, .int .i64 ma]] w fun e w' => e = .returned (.bool (wordsK.contains y.data.toList)) ∧ Below w.heap.size w w' := by
  obtain ⟨h1, h2⟩ := str_ne h0
  go_enter Tryz.func63, Tryz.ntmps63
  go_wp2_with fail
  refine (HNM.out _).mono ?_; rintro e w1 ⟨rfl, rfl⟩
  go_wp2_with fail
  refine (words_any y _ 3 ((w.alloc (.cells #[.int .u8 k, .string x, .string y, .int .i64 nu, .int .i64 ma] 63 (0, 0))).alloc (.cells #[.string ⟨#[110, 117, 108, 108]⟩, .string ⟨#[116, 114, 117, 101]⟩, .string ⟨#[102, 97, 108, 115, 101]⟩] 9 (0, 0))) (Lib.cell_of_heap (heap_new _ _ _ (by simp)) 0) (Lib.cell_of_heap (heap_new _ _ _ (by simp)) 1) (Lib.cell_of_heap (heap_new _ _ _ (by simp)) 2)).mono ?_; rintro e w2 ⟨rfl, rfl⟩
  have HB9 : Hid (Below w.heap.size w ((w.alloc (.cells #[.int .u8 k, .string x, .string y, .int .i64 nu, .int .i64 ma] 63 (0, 0))).alloc (.cells #[.string ⟨#[110, 117, 108, 108]⟩, .string ⟨#[116, 114, 117, 101]⟩, .string ⟨#[102, 97, 108, 115, 101]⟩] 9 (0, 0)))) := Lib.hid (((Below.refl _ _).alloc (Nat.le_refl _) _).alloc (by simp) _)
  go_wp2_with fail
  go_ret
  exact ⟨ret_b (by simp), HB9.out⟩
set_option maxRecDepth 100000 in
theorem lclo_n0 (k : Int) (x y : ByteArray) (nu ma : Int) (w : World) (h0 : x.data.toList.isEmpty = false) (HNM : Hid (∀ W, Calls Tryz.prog 38 #[.string x] W fun e w' => e = .returned (.bool true) ∧ W = w')) (h4 : (k == 4) = false) :
    Calls Tryz.prog 63 #[.agg #[.int .u8 k, .string x, .string y, .int .i64 nu, .int .i64 ma]] w fun e w' => e = .returned (.bool false) ∧ Below w.heap.size w w' := by
  obtain ⟨h1, h2⟩ := str_ne h0
  have HB9 : Hid (Below w.heap.size w (w.alloc (.cells #[.int .u8 k, .string x, .string y, .int .i64 nu, .int .i64 ma] 63 (0, 0)))) := Lib.hid ((Below.refl _ _).alloc (Nat.le_refl _) _)
  go_enter Tryz.func63, Tryz.ntmps63
  go_wp2_with fail
  refine (HNM.out _).mono ?_; rintro e w1 ⟨rfl, rfl⟩
  go_wp2_with fail
  go_ret
  exact ⟨ret_b (by simp), HB9.out⟩
theorem lclo_any (c : Cel) (w : World) (hn : c.name.length ≤ 1000000) :
    Calls Tryz.prog 63 #[.agg (celCells c)] w fun e w' => e = .returned (.bool (badL c)) ∧ Below w.heap.size w w' := by
  have hxl : (⟨c.name.toArray⟩ : ByteArray).data.toList = c.name := by simp
  have hyl : (⟨c.text.toArray⟩ : ByteArray).data.toList = c.text := by simp
  have hxz : (⟨c.name.toArray⟩ : ByteArray).size ≤ 1000000 := by rw [← bsz, hxl]; exact hn
  have hkk := kind_eq c 4
  have HN := fun W => lname_any ⟨c.name.toArray⟩ hxz W
  rw [hxl] at HN
  unfold celCells badL
  rw [hkk]
  cases h0 : c.name.isEmpty with
  | true =>
    cases h4 : ((c.kind.toNat : Int) == ((4 : UInt8).toNat : Int)) with
    | true =>
      have := lclo_e4 (c.kind.toNat : Int) ⟨c.name.toArray⟩ ⟨c.text.toArray⟩ c.num c.many w (by rw [hxl]; exact h0) h4
      rw [hyl] at this
      simpa using this
    | false => simpa using lclo_e0 (c.kind.toNat : Int) ⟨c.name.toArray⟩ ⟨c.text.toArray⟩ c.num c.many w (by rw [hxl]; exact h0) h4
  | false =>
    cases hb : nameB c.name with
    | false =>
      rw [hb] at HN
      simpa using lclo_nb (c.kind.toNat : Int) ⟨c.name.toArray⟩ ⟨c.text.toArray⟩ c.num c.many w (by rw [hxl]; exact h0) (Lib.hid HN)
    | true =>
      rw [hb] at HN
      cases h4 : ((c.kind.toNat : Int) == ((4 : UInt8).toNat : Int)) with
      | true =>
        have := lclo_n4 (c.kind.toNat : Int) ⟨c.name.toArray⟩ ⟨c.text.toArray⟩ c.num c.many w (by rw [hxl]; exact h0) (Lib.hid HN) h4
        rw [hyl] at this
        simpa using this
      | false => simpa using lclo_n0 (c.kind.toNat : Int) ⟨c.name.toArray⟩ ⟨c.text.toArray⟩ c.num c.many w (by rw [hxl]; exact h0) (Lib.hid HN) h4
theorem lclo_ent : ∀ args w, (callFunc 63 args).run Tryz.prog w = .ok (.enter 63 args) w := enters_of Tryz.func63 (by kernel_rfl) rfl
set_option maxRecDepth 100000 in
theorem lliteral_any (V : List Cel) (v : Value) (w : World) (hv : CelSl v V w) (hs : SmallV V) (hE : EnvU w) :
    Calls Tryz.prog 34 #[v] w fun e w' => e = .returned (.bool (litB V)) ∧ Below w.heap.size w w' := by
  have H := Lib.hid (ccheck_any V v w hv hs hE)
  have HC : Hid (∀ W : World, Below w.heap.size w W → Calls Tryz.prog 62 #[v, .func (.func 63) #[] #[]] W fun e w' => e = .returned (.bool (V.any badL)) ∧ Below W.heap.size W w') := Lib.hid fun W hW =>
    ccontains_any _ #[] lclo_ent badL V v W (hv.below hW) hs.1 (Lib.hid fun W' k hk _ => by simpa using lclo_any V[k] W' (by have := (hs.2 V[k] (List.getElem_mem _)).1; omega))
  rw [litB_bad]
  clear hv hs hE
  generalize V.any badL = ev at *
  cases hm : mayB V with
  | false =>
    rw [hm] at H
    clear hm
    go_enter Tryz.func34, Tryz.ntmps34
    go_wp2_with fail
    refine H.out.mono ?_; rintro e w1 ⟨rfl, hb⟩
    go_wp2_with fail
    go_ret
    exact ⟨rfl, hb⟩
  | true =>
    rw [hm] at H
    clear hm
    go_enter Tryz.func34, Tryz.ntmps34
    go_wp2_with fail
    refine H.out.mono ?_; rintro e w1 ⟨rfl, hb⟩
    have HB := Lib.hid hb
    have hz := hb.size
    clear hb
    go_wp2_with fail
    refine (HC.out _ HB.out).mono ?_; rintro e w2 ⟨rfl, hb⟩
    have HB2 := Lib.hid (HB.out.trans (hb.mono hz))
    clear hb
    go_wp2_with fail
    go_ret
    exact ⟨ret_b (by cases ev <;> rfl), HB2.out⟩
/-- The tokens of a literal, and the error. -/
def toksE (V : List Cel) : Int := if litB V then 0 else 8
def toksL (V : List Cel) : List Tok := if litB V then tokK 16 V else []
set_option maxRecDepth 100000 in
theorem tokens_no (V : List Cel) (v : Value) (w : World) (hv : ∃ a n c, v = .slice a n c) (H : Hid (Calls Tryz.prog 34 #[v] w fun e w' => e = .returned (.bool false) ∧ Below w.heap.size w w')) :
    Calls Tryz.prog 11 #[v] w fun e w' => e = .returned (.tuple #[.slice none 0 0, .int .i64 8]) ∧ Below w.heap.size w w' := by
  obtain ⟨a, n, c, rfl⟩ := hv
  go_enter Tryz.func11, Tryz.ntmps11
  go_wp2_with fail
  refine H.out.mono ?_; rintro e w1 ⟨rfl, hb⟩
  go_wp2_with fail
  go_ret2
  exact ⟨rfl, hb⟩
set_option maxRecDepth 100000 in
theorem tokens_yes (V : List Cel) (b off cap : Nat) (w : World) (hrow : CelRow b off V w) (hpos : 0 < V.length) (hl : V.length ≤ 2048) (hs : NumV V) (hE : EnvT w) (hval : valN 16 V = some V.length)
    (H : Hid (Calls Tryz.prog 34 #[.slice (some ⟨b, off, none⟩) V.length cap] w fun e w' => e = .returned (.bool true) ∧ Below w.heap.size w w')) :
    Calls Tryz.prog 11 #[.slice (some ⟨b, off, none⟩) V.length cap] w fun e w' => (∃ u, e = .returned (.tuple #[u, .int .i64 0]) ∧ OwnT w.heap.size u (tokK 16 V) w') ∧ Below w.heap.size w w' := by
  have hbl := hrow.lt hpos
  have HROW := Lib.hid hrow
  have HS := Lib.hid hs
  have HEE := Lib.hid hE
  have HV := Lib.hid hval
  clear hrow hs hE hval
  go_enter Tryz.func11, Tryz.ntmps11
  go_wp2_with fail
  refine H.out.mono ?_; rintro e w1 ⟨rfl, hb⟩
  have hz := hb.size
  have hb2 : Below w.heap.size w (w1.alloc (.cells #[.slice none 0 0] 78 (0, 0))) := hb.alloc hz _
  have HB2 := Lib.hid hb2
  have HP : Hid (PutS w1.heap.size (.slice none 0 0) [] (w1.alloc (.cells #[.slice none 0 0] 78 (0, 0)))) := Lib.hid ⟨heap_new _ _ _ rfl, OwnT.nil _ _⟩
  have HR2 := Lib.hid (HROW.out.below hb2 hbl)
  have HUP := Lib.hid (up_any w1 V w1.heap.size b off cap HS.out hl (HEE.out.stays hb) (Nat.le_refl _) (by omega) 16 _ _ [] 0 V.length hpos HV.out (by simp; omega) HP.out HR2.out ((Below.refl _ _).alloc (Nat.le_refl _) _))
  clear hb hb2
  go_wp2_with fail
  refine HUP.out.mono ?_; rintro e w3 ⟨rfl, ⟨v3, h3⟩, hk3⟩
  have h3c := h3.cell
  have HP3 := Lib.hid h3
  have HB3 : Hid (Below w.heap.size w w3) := Lib.hid (HB2.out.trans (hk3.1.mono hz))
  obtain ⟨a3, n3, c3, rfl⟩ : ∃ a n c, v3 = .slice a n c := by
    rcases h3.2.2 with ⟨e1, _⟩ | ⟨g, cap, cur, e1, _⟩
    · exact ⟨_, _, _, e1⟩
    · exact ⟨_, _, _, e1⟩
  clear h3 hk3
  go_wp2_with fail
  go_ret2
  refine ⟨⟨_, rfl, ?_⟩, HB3.out⟩
  have := HP3.out.2.lessU (B' := w.heap.size) (by omega)
  simpa using this
theorem mayB_parts {V : List Cel} (h : mayB V = true) : 0 < V.length ∧ V.length ≤ 2048 ∧ valN 16 V = some V.length := by
  unfold mayB at h
  simp only [Bool.and_eq_true, decide_eq_true_eq, beq_iff_eq] at h
  exact ⟨h.1.1.1, h.1.1.2, h.2⟩
theorem tokens_any (V : List Cel) (v : Value) (w : World) (hv : CelSl v V w) (hs : SmallV V) (hE : EnvU w) (hT : EnvT w) :
    Calls Tryz.prog 11 #[v] w fun e w' => (∃ u, e = .returned (.tuple #[u, .int .i64 (toksE V)]) ∧ OwnT w.heap.size u (toksL V) w') ∧ Below w.heap.size w w' := by
  have HL := Lib.hid (lliteral_any V v w hv hs hE)
  unfold toksE toksL
  cases hb : litB V with
  | false =>
    rw [hb] at HL
    refine (tokens_no V v w (by
      rcases hv with ⟨a, c, rfl, _⟩ | ⟨b, off, cap, rfl, _⟩
      · exact ⟨_, _, _, rfl⟩
      · exact ⟨_, _, _, rfl⟩) HL).mono ?_
    rintro e w' ⟨rfl, hb⟩
    exact ⟨⟨_, rfl, OwnT.nil _ _⟩, hb⟩
  | true =>
    rw [hb] at HL
    have hm : mayB V = true := by unfold litB at hb; simp only [Bool.and_eq_true] at hb; exact hb.1
    obtain ⟨h1, h2, h3⟩ := mayB_parts hm
    rcases hv with ⟨a, c, rfl, rfl, _⟩ | ⟨b, off, cap, rfl, hrow, _⟩
    · simp at h1
    · exact tokens_yes V b off cap w hrow h1 h2 (fun c hc => (hs.2 c hc).2.2) hT h3 HL
end Go.Proofs.YtgaknbnhmoddcaaGreatDoor
namespace Go.Proofs.YtgaknbnhmoddcaaGreatDoor
open Go.RowKit
theorem samesK_get : ∀ (A B : List Tok), samesK A B = true → ∀ (i : Nat) (hi : i < A.length) (hj : i < B.length), A[i].kind = B[i].kind ∧ (A[i].text = B[i].text ∨ (A[i].text = [48] ∧ B[i].text = [45, 48]))
  | [], B, h, i, hi, hj => by simp at hi
  | a :: A, [], h, i, hi, hj => by simp at hj
  | a :: A, b :: B, h, i, hi, hj => by
    unfold samesK at h
    simp only [Bool.and_eq_true] at h
    cases i with
    | zero =>
      have h1 := h.1
      unfold alikeK at h1
      simp only [Bool.and_eq_true, Bool.or_eq_true, beq_iff_eq] at h1
      exact h1
    | succ i => exact samesK_get A B h.2 i (by simpa using hi) (by simpa using hj)
set_option maxRecDepth 100000 in
set_option maxHeartbeats 4000000 in
theorem same18_yes (A B : List Tok) (ba oa ca bb ob cb : Nat) (w : World) (hA : TokRow ba oa A w) (hB : TokRow bb ob B w) (hs : samesK A B = true) (hl : A.length ≤ 100000) :
    Calls Tryz.prog 30 #[.slice (some ⟨ba, oa, none⟩) A.length ca, .slice (some ⟨bb, ob, none⟩) B.length cb] w fun e w' => e = .returned (.bool true) ∧ Below w.heap.size w w' := by
  have hlen := samesK_len A B hs
  have HG := Lib.hid (samesK_get A B hs)
  have HA := Lib.hid hA
  have HB := Lib.hid hB
  obtain ⟨n, hn⟩ : ∃ n, A.length = n := ⟨_, rfl⟩
  have hm : B.length = n := by omega
  have HN := Lib.hid hn
  have HM := Lib.hid hm
  rw [hn, hm]
  rw [hn] at hl
  clear hs hlen hA hB hn hm
  go_enter Tryz.func30, Tryz.ntmps30
  go_wp2_with fail
  go_loopg [5] (n + 1) (fun gk iv wr => ∃ i : Nat, iv = .int .i64 (i : Int) ∧ gk + i ≤ n + 1 ∧ n + 1 ≤ gk + i ∧ i ≤ n ∧ Hid (Below w.heap.size w wr))
  case atStart => exact ⟨0, by go_num, by omega, by omega, by omega, Lib.hid (Below.refl _ _)⟩
  case round =>
    rename World => wr
    obtain ⟨i, rfl, hg1, hg2, hi, HBW⟩ := hrel
    obtain ⟨g, rfl⟩ : ∃ g, gk = g + 1 := ⟨gk - 1, by omega⟩
    have HGG := Lib.hid (And.intro hg1 hg2)
    clear hg1 hg2
    by_cases hin : i < n
    · obtain ⟨r0, r1, _⟩ := (HA.out.below' HBW.out) i (by have := HN.out; omega)
      obtain ⟨q0, q1, _⟩ := (HB.out.below' HBW.out) i (by have := HM.out; omega)
      obtain ⟨hk, ht⟩ := HG.out i (by have := HN.out; omega) (by have := HM.out; omega)
      rw [← hk] at q0
      have hi1 : (i : Int).toNat = i := by omega
      have hi2 : (0 : Int) ≤ (i : Int) := by omega
      have hi3 : (i : Int) < (n : Int) := by omega
      have hi4 : IntKind.i64.wrap ((i : Int) + 1) = ((i + 1 : Nat) : Int) := by rw [IntWalk.i64_in _ (by omega)]; omega
      generalize ((A[i]'(by have := HN.out; omega)).kind.toNat : Int) = kd at r0 q0
      rcases ht with ht | ⟨ht1, ht2⟩
      · rw [← ht] at q1
        generalize (⟨(A[i]'(by have := HN.out; omega)).text.toArray⟩ : ByteArray) = x at r1 q1
        clear hk ht
        go_wp2_with fail
        refine wp_region_held_drew (S := fun W => W.cell? ⟨ba, oa + i * 3, none⟩ = some (.int .u8 kd) ∧ W.cell? ⟨ba, oa + i * 3 + 1, none⟩ = some (.string x) ∧ W.cell? ⟨bb, ob + i * 3, none⟩ = some (.int .u8 kd) ∧ W.cell? ⟨bb, ob + i * 3 + 1, none⟩ = some (.string x)) (by kernel_rfl) (⟨r0, r1, q0, q1⟩) (fun hHeld => ?_)
        refine tky 0 (some 18) (v := ?_) rfl (by kernel_rfl) (by kernel_rfl) (by kernel_rfl) (fun _ _ _ h => h) ?_ hHeld ?_
        rotate_left
        focus (intro w hSw; (try dsimp only at hSw); go_simp; (try with_reducible rfl); done)
        simp only [Act.put, List.setIfInBounds_toArray, List.set_cons_zero, List.set_cons_succ]
        refine tky 1 (some 19) (v := ?_) rfl (by kernel_rfl) (by kernel_rfl) (by kernel_rfl) (fun _ _ _ h => h) ?_ hHeld ?_
        rotate_left
        focus (intro w hSw; (try dsimp only at hSw); go_simp; (try with_reducible rfl); done)
        simp only [Act.put, List.setIfInBounds_toArray, List.set_cons_zero, List.set_cons_succ]
        refine tky 2 (some 20) (v := ?_) rfl (by kernel_rfl) (by kernel_rfl) (by kernel_rfl) (fun _ _ _ h => h) ?_ hHeld ?_
        rotate_left
        focus (intro w hSw; (try dsimp only at hSw); go_simp; (try with_reducible rfl); done)
        simp only [Act.put, List.setIfInBounds_toArray, List.set_cons_zero, List.set_cons_succ]
        refine tky 3 (some 21) (v := ?_) rfl (by kernel_rfl) (by kernel_rfl) (by kernel_rfl) (fun _ _ _ h => h) ?_ hHeld ?_
        rotate_left
        focus (intro w hSw; (try dsimp only at hSw); go_simp; (try with_reducible rfl); done)
        simp only [Act.put, List.setIfInBounds_toArray, List.set_cons_zero, List.set_cons_succ]
        refine tky 4 (some 22) (v := ?_) rfl (by kernel_rfl) (by kernel_rfl) (by kernel_rfl) (fun _ _ _ h => h) ?_ hHeld ?_
        rotate_left
        focus (intro w hSw; (try dsimp only at hSw); go_simp; (try with_reducible rfl); done)
        simp only [Act.put, List.setIfInBounds_toArray, List.set_cons_zero, List.set_cons_succ]
        refine tky 5 (some 23) (v := ?_) rfl (by kernel_rfl) (by kernel_rfl) (by kernel_rfl) (fun _ _ _ h => h) ?_ hHeld ?_
        rotate_left
        focus (intro w hSw; (try dsimp only at hSw); go_simp; (try with_reducible rfl); done)
        simp only [Act.put, List.setIfInBounds_toArray, List.set_cons_zero, List.set_cons_succ]
        refine tky 6 (some 24) (v := ?_) rfl (by kernel_rfl) (by kernel_rfl) (by kernel_rfl) (fun _ _ _ h => h) ?_ hHeld ?_
        rotate_left
        focus (intro w hSw; (try dsimp only at hSw); go_simp; (try with_reducible rfl); done)
        simp only [Act.put, List.setIfInBounds_toArray, List.set_cons_zero, List.set_cons_succ]
        refine tky 7 (some 25) (v := ?_) rfl (by kernel_rfl) (by kernel_rfl) (by kernel_rfl) (fun _ _ _ h => h) ?_ hHeld ?_
        rotate_left
        focus (intro w hSw; (try dsimp only at hSw); go_simp; (try with_reducible rfl); done)
        simp only [Act.put, List.setIfInBounds_toArray, List.set_cons_zero, List.set_cons_succ]
        refine tky 8 (some 26) (v := ?_) rfl (by kernel_rfl) (by kernel_rfl) (by kernel_rfl) (fun _ _ _ h => h) ?_ hHeld ?_
        rotate_left
        focus (intro w hSw; (try dsimp only at hSw); go_simp; (try with_reducible rfl); done)
        simp only [Act.put, List.setIfInBounds_toArray, List.set_cons_zero, List.set_cons_succ]
        refine tky 9 (some 27) (v := ?_) rfl (by kernel_rfl) (by kernel_rfl) (by kernel_rfl) (fun _ _ _ h => h) ?_ hHeld ?_
        rotate_left
        focus (intro w hSw; (try dsimp only at hSw); go_simp; (try with_reducible rfl); done)
        simp only [Act.put, List.setIfInBounds_toArray, List.set_cons_zero, List.set_cons_succ]
        refine tky 10 (some 28) (v := ?_) rfl (by kernel_rfl) (by kernel_rfl) (by kernel_rfl) (fun _ _ _ h => h) ?_ hHeld ?_
        rotate_left
        focus (intro w hSw; (try dsimp only at hSw); go_simp; (try with_reducible rfl); done)
        simp only [Act.put, List.setIfInBounds_toArray, List.set_cons_zero, List.set_cons_succ]
        refine tky 11 (some 29) (v := ?_) rfl (by kernel_rfl) (by kernel_rfl) (by kernel_rfl) (fun _ _ _ h => h) ?_ hHeld ?_
        rotate_left
        focus (intro w hSw; (try dsimp only at hSw); go_simp; (try with_reducible rfl); done)
        simp only [Act.put, List.setIfInBounds_toArray, List.set_cons_zero, List.set_cons_succ]
        refine tky 12 (some 30) (v := ?_) rfl (by kernel_rfl) (by kernel_rfl) (by kernel_rfl) (fun _ _ _ h => h) ?_ hHeld ?_
        rotate_left
        focus (intro w hSw; (try dsimp only at hSw); go_simp; (try with_reducible rfl); done)
        simp only [Act.put, List.setIfInBounds_toArray, List.set_cons_zero, List.set_cons_succ]
        refine tky 13 (some 31) (v := ?_) rfl (by kernel_rfl) (by kernel_rfl) (by kernel_rfl) (fun _ _ _ h => h) ?_ hHeld ?_
        rotate_left
        focus (intro w hSw; (try dsimp only at hSw); go_simp; (try with_reducible rfl); done)
        simp only [Act.put, List.setIfInBounds_toArray, List.set_cons_zero, List.set_cons_succ]
        refine tky 14 (some 32) (v := ?_) rfl (by kernel_rfl) (by kernel_rfl) (by kernel_rfl) (fun _ _ _ h => h) ?_ hHeld ?_
        rotate_left
        focus (intro w hSw; (try dsimp only at hSw); go_simp; (try with_reducible rfl); done)
        simp only [Act.put, List.setIfInBounds_toArray, List.set_cons_zero, List.set_cons_succ]
        refine tky 15 (some 33) (v := ?_) rfl (by kernel_rfl) (by kernel_rfl) (by kernel_rfl) (fun _ _ _ h => h) ?_ hHeld ?_
        rotate_left
        focus (intro w hSw; (try dsimp only at hSw); go_simp; (try with_reducible rfl); done)
        simp only [Act.put, List.setIfInBounds_toArray, List.set_cons_zero, List.set_cons_succ]
        refine tky 16 (some 34) (v := ?_) rfl (by kernel_rfl) (by kernel_rfl) (by kernel_rfl) (fun _ _ _ h => h) ?_ hHeld ?_
        rotate_left
        focus (intro w hSw; (try dsimp only at hSw); go_simp; (try with_reducible rfl); done)
        simp only [Act.put, List.setIfInBounds_toArray, List.set_cons_zero, List.set_cons_succ]
        refine tky 17 (some 35) (v := ?_) rfl (by kernel_rfl) (by kernel_rfl) (by kernel_rfl) (fun _ _ _ h => h) ?_ hHeld ?_
        rotate_left
        focus (intro w hSw; (try dsimp only at hSw); go_simp; (try with_reducible rfl); done)
        simp only [Act.put, List.setIfInBounds_toArray, List.set_cons_zero, List.set_cons_succ]
        refine tky 18 (some 36) (v := ?_) rfl (by kernel_rfl) (by kernel_rfl) (by kernel_rfl) (fun _ _ _ h => h) ?_ hHeld ?_
        rotate_left
        focus (intro w hSw; (try dsimp only at hSw); go_simp; (try with_reducible rfl); done)
        simp only [Act.put, List.setIfInBounds_toArray, List.set_cons_zero, List.set_cons_succ]
        refine tky 19 (some 37) (v := ?_) rfl (by kernel_rfl) (by kernel_rfl) (by kernel_rfl) (fun _ _ _ h => h) ?_ hHeld ?_
        rotate_left
        focus (intro w hSw; (try dsimp only at hSw); go_simp; (try with_reducible rfl); done)
        simp only [Act.put, List.setIfInBounds_toArray, List.set_cons_zero, List.set_cons_succ]
        refine tky 20 (some 38) (v := ?_) rfl (by kernel_rfl) (by kernel_rfl) (by kernel_rfl) (fun _ _ _ h => h) ?_ hHeld ?_
        rotate_left
        focus (intro w hSw; (try dsimp only at hSw); go_simp; (try with_reducible rfl); done)
        simp only [Act.put, List.setIfInBounds_toArray, List.set_cons_zero, List.set_cons_succ]
        refine tky 21 (some 39) (v := ?_) rfl (by kernel_rfl) (by kernel_rfl) (by kernel_rfl) (fun _ _ _ h => h) ?_ hHeld ?_
        rotate_left
        focus (intro w hSw; (try dsimp only at hSw); go_simp; (try with_reducible rfl); done)
        simp only [Act.put, List.setIfInBounds_toArray, List.set_cons_zero, List.set_cons_succ]
        refine tky 22 (some 40) (v := ?_) rfl (by kernel_rfl) (by kernel_rfl) (by kernel_rfl) (fun _ _ _ h => h) ?_ hHeld ?_
        rotate_left
        focus (intro w hSw; (try dsimp only at hSw); go_simp; (try with_reducible rfl); done)
        simp only [Act.put, List.setIfInBounds_toArray, List.set_cons_zero, List.set_cons_succ]
        refine tky 23 (some 41) (v := ?_) rfl (by kernel_rfl) (by kernel_rfl) (by kernel_rfl) (fun _ _ _ h => h) ?_ hHeld ?_
        rotate_left
        focus (intro w hSw; (try dsimp only at hSw); go_simp; (try with_reducible rfl); done)
        simp only [Act.put, List.setIfInBounds_toArray, List.set_cons_zero, List.set_cons_succ]
        refine tkn 24 (some 42) rfl (by kernel_rfl) (by kernel_rfl) (by kernel_rfl) (fun _ _ _ h => h) hHeld ?_
        simp only [Act.put, List.setIfInBounds_toArray, List.set_cons_zero, List.set_cons_succ]
        refine tkn 25 (some 43) rfl (by kernel_rfl) (by kernel_rfl) (by kernel_rfl) (fun _ _ _ h => h) hHeld ?_
        simp only [Act.put, List.setIfInBounds_toArray, List.set_cons_zero, List.set_cons_succ]
        refine tkn 26 (some 44) rfl (by kernel_rfl) (by kernel_rfl) (by kernel_rfl) (fun _ _ _ h => h) hHeld ?_
        simp only [Act.put, List.setIfInBounds_toArray, List.set_cons_zero, List.set_cons_succ]
        refine tkn 27 (some 45) rfl (by kernel_rfl) (by kernel_rfl) (by kernel_rfl) (fun _ _ _ h => h) hHeld ?_
        simp only [Act.put, List.setIfInBounds_toArray, List.set_cons_zero, List.set_cons_succ]
        refine tkn 28 (some 46) rfl (by kernel_rfl) (by kernel_rfl) (by kernel_rfl) (fun _ _ _ h => h) hHeld ?_
        simp only [Act.put, List.setIfInBounds_toArray, List.set_cons_zero, List.set_cons_succ]
        refine tkn 29 (some 47) rfl (by kernel_rfl) (by kernel_rfl) (by kernel_rfl) (fun _ _ _ h => h) hHeld ?_
        simp only [Act.put, List.setIfInBounds_toArray, List.set_cons_zero, List.set_cons_succ]
        refine tkn 30 (some 48) rfl (by kernel_rfl) (by kernel_rfl) (by kernel_rfl) (fun _ _ _ h => h) hHeld ?_
        simp only [Act.put, List.setIfInBounds_toArray, List.set_cons_zero, List.set_cons_succ]
        refine tkn 31 (some 49) rfl (by kernel_rfl) (by kernel_rfl) (by kernel_rfl) (fun _ _ _ h => h) hHeld ?_
        simp only [Act.put, List.setIfInBounds_toArray, List.set_cons_zero, List.set_cons_succ]
        refine tkn 32 (some 50) rfl (by kernel_rfl) (by kernel_rfl) (by kernel_rfl) (fun _ _ _ h => h) hHeld ?_
        simp only [Act.put, List.setIfInBounds_toArray, List.set_cons_zero, List.set_cons_succ]
        refine tkn 33 (some 51) rfl (by kernel_rfl) (by kernel_rfl) (by kernel_rfl) (fun _ _ _ h => h) hHeld ?_
        simp only [Act.put, List.setIfInBounds_toArray, List.set_cons_zero, List.set_cons_succ]
        refine tkn 34 (some 52) rfl (by kernel_rfl) (by kernel_rfl) (by kernel_rfl) (fun _ _ _ h => h) hHeld ?_
        simp only [Act.put, List.setIfInBounds_toArray, List.set_cons_zero, List.set_cons_succ]
        refine tkn 35 (some 53) rfl (by kernel_rfl) (by kernel_rfl) (by kernel_rfl) (fun _ _ _ h => h) hHeld ?_
        simp only [Act.put, List.setIfInBounds_toArray, List.set_cons_zero, List.set_cons_succ]
        refine tkn 36 (some 54) rfl (by kernel_rfl) (by kernel_rfl) (by kernel_rfl) (fun _ _ _ h => h) hHeld ?_
        simp only [Act.put, List.setIfInBounds_toArray, List.set_cons_zero, List.set_cons_succ]
        refine tkn 37 (some 55) rfl (by kernel_rfl) (by kernel_rfl) (by kernel_rfl) (fun _ _ _ h => h) hHeld ?_
        simp only [Act.put, List.setIfInBounds_toArray, List.set_cons_zero, List.set_cons_succ]
        refine tkn 38 (some 56) rfl (by kernel_rfl) (by kernel_rfl) (by kernel_rfl) (fun _ _ _ h => h) hHeld ?_
        simp only [Act.put, List.setIfInBounds_toArray, List.set_cons_zero, List.set_cons_succ]
        refine tky 39 (some 57) (v := ?_) rfl (by kernel_rfl) (by kernel_rfl) (by kernel_rfl) (fun _ _ _ h => h) ?_ hHeld ?_
        rotate_left
        focus (intro w hSw; (try dsimp only at hSw); go_simp; (try with_reducible rfl); done)
        simp only [Act.put, List.setIfInBounds_toArray, List.set_cons_zero, List.set_cons_succ]
        refine tky 40 (some 58) (v := ?_) rfl (by kernel_rfl) (by kernel_rfl) (by kernel_rfl) (fun _ _ _ h => h) ?_ hHeld ?_
        rotate_left
        focus (intro w hSw; (try dsimp only at hSw); go_simp; (try with_reducible rfl); done)
        simp only [Act.put, List.setIfInBounds_toArray, List.set_cons_zero, List.set_cons_succ]
        refine wpAnyH_done (by kernel_rfl) ?_ _
        have HB2 : Hid (Below w.heap.size w wr.drew) := Lib.hid HBW.out.drew
        clear r0 r1 q0 q1 hHeld
        obtain ⟨hg1, hg2⟩ := HGG.out
        go_wp2_with fail
        go_roundg g
        case measure => omega
        case rel => exact ⟨i + 1, rfl, by omega, by omega, by omega, HB2⟩
      · rw [ht1] at r1
        rw [ht2] at q1
        clear hk ht1 ht2
        go_wp2_with fail
        refine wp_region_held_drew (S := fun W => W.cell? ⟨ba, oa + i * 3, none⟩ = some (.int .u8 kd) ∧ W.cell? ⟨ba, oa + i * 3 + 1, none⟩ = some (.string ⟨#[48]⟩) ∧ W.cell? ⟨bb, ob + i * 3, none⟩ = some (.int .u8 kd) ∧ W.cell? ⟨bb, ob + i * 3 + 1, none⟩ = some (.string ⟨#[45, 48]⟩)) (by kernel_rfl) (⟨r0, r1, q0, q1⟩) (fun hHeld => ?_)
        refine tky 0 (some 18) (v := ?_) rfl (by kernel_rfl) (by kernel_rfl) (by kernel_rfl) (fun _ _ _ h => h) ?_ hHeld ?_
        rotate_left
        focus (intro w hSw; (try dsimp only at hSw); go_simp; (try with_reducible rfl); done)
        simp only [Act.put, List.setIfInBounds_toArray, List.set_cons_zero, List.set_cons_succ]
        refine tky 1 (some 19) (v := ?_) rfl (by kernel_rfl) (by kernel_rfl) (by kernel_rfl) (fun _ _ _ h => h) ?_ hHeld ?_
        rotate_left
        focus (intro w hSw; (try dsimp only at hSw); go_simp; (try with_reducible rfl); done)
        simp only [Act.put, List.setIfInBounds_toArray, List.set_cons_zero, List.set_cons_succ]
        refine tky 2 (some 20) (v := ?_) rfl (by kernel_rfl) (by kernel_rfl) (by kernel_rfl) (fun _ _ _ h => h) ?_ hHeld ?_
        rotate_left
        focus (intro w hSw; (try dsimp only at hSw); go_simp; (try with_reducible rfl); done)
        simp only [Act.put, List.setIfInBounds_toArray, List.set_cons_zero, List.set_cons_succ]
        refine tky 3 (some 21) (v := ?_) rfl (by kernel_rfl) (by kernel_rfl) (by kernel_rfl) (fun _ _ _ h => h) ?_ hHeld ?_
        rotate_left
        focus (intro w hSw; (try dsimp only at hSw); go_simp; (try with_reducible rfl); done)
        simp only [Act.put, List.setIfInBounds_toArray, List.set_cons_zero, List.set_cons_succ]
        refine tky 4 (some 22) (v := ?_) rfl (by kernel_rfl) (by kernel_rfl) (by kernel_rfl) (fun _ _ _ h => h) ?_ hHeld ?_
        rotate_left
        focus (intro w hSw; (try dsimp only at hSw); go_simp; (try with_reducible rfl); done)
        simp only [Act.put, List.setIfInBounds_toArray, List.set_cons_zero, List.set_cons_succ]
        refine tky 5 (some 23) (v := ?_) rfl (by kernel_rfl) (by kernel_rfl) (by kernel_rfl) (fun _ _ _ h => h) ?_ hHeld ?_
        rotate_left
        focus (intro w hSw; (try dsimp only at hSw); go_simp; (try with_reducible rfl); done)
        simp only [Act.put, List.setIfInBounds_toArray, List.set_cons_zero, List.set_cons_succ]
        refine tky 6 (some 24) (v := ?_) rfl (by kernel_rfl) (by kernel_rfl) (by kernel_rfl) (fun _ _ _ h => h) ?_ hHeld ?_
        rotate_left
        focus (intro w hSw; (try dsimp only at hSw); go_simp; (try with_reducible rfl); done)
        simp only [Act.put, List.setIfInBounds_toArray, List.set_cons_zero, List.set_cons_succ]
        refine tky 7 (some 25) (v := ?_) rfl (by kernel_rfl) (by kernel_rfl) (by kernel_rfl) (fun _ _ _ h => h) ?_ hHeld ?_
        rotate_left
        focus (intro w hSw; (try dsimp only at hSw); go_simp; (try with_reducible rfl); done)
        simp only [Act.put, List.setIfInBounds_toArray, List.set_cons_zero, List.set_cons_succ]
        refine tky 8 (some 26) (v := ?_) rfl (by kernel_rfl) (by kernel_rfl) (by kernel_rfl) (fun _ _ _ h => h) ?_ hHeld ?_
        rotate_left
        focus (intro w hSw; (try dsimp only at hSw); go_simp; (try with_reducible rfl); done)
        simp only [Act.put, List.setIfInBounds_toArray, List.set_cons_zero, List.set_cons_succ]
        refine tky 9 (some 27) (v := ?_) rfl (by kernel_rfl) (by kernel_rfl) (by kernel_rfl) (fun _ _ _ h => h) ?_ hHeld ?_
        rotate_left
        focus (intro w hSw; (try dsimp only at hSw); go_simp; (try with_reducible rfl); done)
        simp only [Act.put, List.setIfInBounds_toArray, List.set_cons_zero, List.set_cons_succ]
        refine tky 10 (some 28) (v := ?_) rfl (by kernel_rfl) (by kernel_rfl) (by kernel_rfl) (fun _ _ _ h => h) ?_ hHeld ?_
        rotate_left
        focus (intro w hSw; (try dsimp only at hSw); go_simp; (try with_reducible rfl); done)
        simp only [Act.put, List.setIfInBounds_toArray, List.set_cons_zero, List.set_cons_succ]
        refine tky 11 (some 29) (v := ?_) rfl (by kernel_rfl) (by kernel_rfl) (by kernel_rfl) (fun _ _ _ h => h) ?_ hHeld ?_
        rotate_left
        focus (intro w hSw; (try dsimp only at hSw); go_simp; (try with_reducible rfl); done)
        simp only [Act.put, List.setIfInBounds_toArray, List.set_cons_zero, List.set_cons_succ]
        refine tky 12 (some 30) (v := ?_) rfl (by kernel_rfl) (by kernel_rfl) (by kernel_rfl) (fun _ _ _ h => h) ?_ hHeld ?_
        rotate_left
        focus (intro w hSw; (try dsimp only at hSw); go_simp; (try with_reducible rfl); done)
        simp only [Act.put, List.setIfInBounds_toArray, List.set_cons_zero, List.set_cons_succ]
        refine tky 13 (some 31) (v := ?_) rfl (by kernel_rfl) (by kernel_rfl) (by kernel_rfl) (fun _ _ _ h => h) ?_ hHeld ?_
        rotate_left
        focus (intro w hSw; (try dsimp only at hSw); go_simp; (try with_reducible rfl); done)
        simp only [Act.put, List.setIfInBounds_toArray, List.set_cons_zero, List.set_cons_succ]
        refine tky 14 (some 32) (v := ?_) rfl (by kernel_rfl) (by kernel_rfl) (by kernel_rfl) (fun _ _ _ h => h) ?_ hHeld ?_
        rotate_left
        focus (intro w hSw; (try dsimp only at hSw); go_simp; (try with_reducible rfl); done)
        simp only [Act.put, List.setIfInBounds_toArray, List.set_cons_zero, List.set_cons_succ]
        refine tky 15 (some 33) (v := ?_) rfl (by kernel_rfl) (by kernel_rfl) (by kernel_rfl) (fun _ _ _ h => h) ?_ hHeld ?_
        rotate_left
        focus (intro w hSw; (try dsimp only at hSw); go_simp; (try with_reducible rfl); done)
        simp only [Act.put, List.setIfInBounds_toArray, List.set_cons_zero, List.set_cons_succ]
        refine tky 16 (some 34) (v := ?_) rfl (by kernel_rfl) (by kernel_rfl) (by kernel_rfl) (fun _ _ _ h => h) ?_ hHeld ?_
        rotate_left
        focus (intro w hSw; (try dsimp only at hSw); go_simp; (try with_reducible rfl); done)
        simp only [Act.put, List.setIfInBounds_toArray, List.set_cons_zero, List.set_cons_succ]
        refine tky 17 (some 35) (v := ?_) rfl (by kernel_rfl) (by kernel_rfl) (by kernel_rfl) (fun _ _ _ h => h) ?_ hHeld ?_
        rotate_left
        focus (intro w hSw; (try dsimp only at hSw); go_simp; (try with_reducible rfl); done)
        simp only [Act.put, List.setIfInBounds_toArray, List.set_cons_zero, List.set_cons_succ]
        refine tky 18 (some 36) (v := ?_) rfl (by kernel_rfl) (by kernel_rfl) (by kernel_rfl) (fun _ _ _ h => h) ?_ hHeld ?_
        rotate_left
        focus (intro w hSw; (try dsimp only at hSw); go_simp; (try with_reducible rfl); done)
        simp only [Act.put, List.setIfInBounds_toArray, List.set_cons_zero, List.set_cons_succ]
        refine tky 19 (some 37) (v := ?_) rfl (by kernel_rfl) (by kernel_rfl) (by kernel_rfl) (fun _ _ _ h => h) ?_ hHeld ?_
        rotate_left
        focus (intro w hSw; (try dsimp only at hSw); go_simp; (try with_reducible rfl); done)
        simp only [Act.put, List.setIfInBounds_toArray, List.set_cons_zero, List.set_cons_succ]
        refine tky 20 (some 38) (v := ?_) rfl (by kernel_rfl) (by kernel_rfl) (by kernel_rfl) (fun _ _ _ h => h) ?_ hHeld ?_
        rotate_left
        focus (intro w hSw; (try dsimp only at hSw); go_simp; (try with_reducible rfl); done)
        simp only [Act.put, List.setIfInBounds_toArray, List.set_cons_zero, List.set_cons_succ]
        refine tky 21 (some 39) (v := ?_) rfl (by kernel_rfl) (by kernel_rfl) (by kernel_rfl) (fun _ _ _ h => h) ?_ hHeld ?_
        rotate_left
        focus (intro w hSw; (try dsimp only at hSw); go_simp; (try with_reducible rfl); done)
        simp only [Act.put, List.setIfInBounds_toArray, List.set_cons_zero, List.set_cons_succ]
        refine tky 22 (some 40) (v := ?_) rfl (by kernel_rfl) (by kernel_rfl) (by kernel_rfl) (fun _ _ _ h => h) ?_ hHeld ?_
        rotate_left
        focus (intro w hSw; (try dsimp only at hSw); go_simp; (try with_reducible rfl); done)
        simp only [Act.put, List.setIfInBounds_toArray, List.set_cons_zero, List.set_cons_succ]
        refine tky 23 (some 41) (v := ?_) rfl (by kernel_rfl) (by kernel_rfl) (by kernel_rfl) (fun _ _ _ h => h) ?_ hHeld ?_
        rotate_left
        focus (intro w hSw; (try dsimp only at hSw); go_simp; (try with_reducible rfl); done)
        simp only [Act.put, List.setIfInBounds_toArray, List.set_cons_zero, List.set_cons_succ]
        refine tky 24 (some 42) (v := ?_) rfl (by kernel_rfl) (by kernel_rfl) (by kernel_rfl) (fun _ _ _ h => h) ?_ hHeld ?_
        rotate_left
        focus (intro w hSw; (try dsimp only at hSw); go_simp; (try with_reducible rfl); done)
        simp only [Act.put, List.setIfInBounds_toArray, List.set_cons_zero, List.set_cons_succ]
        refine tky 25 (some 43) (v := ?_) rfl (by kernel_rfl) (by kernel_rfl) (by kernel_rfl) (fun _ _ _ h => h) ?_ hHeld ?_
        rotate_left
        focus (intro w hSw; (try dsimp only at hSw); go_simp; (try with_reducible rfl); done)
        simp only [Act.put, List.setIfInBounds_toArray, List.set_cons_zero, List.set_cons_succ]
        refine tky 26 (some 44) (v := ?_) rfl (by kernel_rfl) (by kernel_rfl) (by kernel_rfl) (fun _ _ _ h => h) ?_ hHeld ?_
        rotate_left
        focus (intro w hSw; (try dsimp only at hSw); go_simp; (try with_reducible rfl); done)
        simp only [Act.put, List.setIfInBounds_toArray, List.set_cons_zero, List.set_cons_succ]
        refine tky 27 (some 45) (v := ?_) rfl (by kernel_rfl) (by kernel_rfl) (by kernel_rfl) (fun _ _ _ h => h) ?_ hHeld ?_
        rotate_left
        focus (intro w hSw; (try dsimp only at hSw); go_simp; (try with_reducible rfl); done)
        simp only [Act.put, List.setIfInBounds_toArray, List.set_cons_zero, List.set_cons_succ]
        refine tky 28 (some 46) (v := ?_) rfl (by kernel_rfl) (by kernel_rfl) (by kernel_rfl) (fun _ _ _ h => h) ?_ hHeld ?_
        rotate_left
        focus (intro w hSw; (try dsimp only at hSw); go_simp; (try with_reducible rfl); done)
        simp only [Act.put, List.setIfInBounds_toArray, List.set_cons_zero, List.set_cons_succ]
        refine tky 29 (some 47) (v := ?_) rfl (by kernel_rfl) (by kernel_rfl) (by kernel_rfl) (fun _ _ _ h => h) ?_ hHeld ?_
        rotate_left
        focus (intro w hSw; (try dsimp only at hSw); go_simp; (try with_reducible rfl); done)
        simp only [Act.put, List.setIfInBounds_toArray, List.set_cons_zero, List.set_cons_succ]
        refine tky 30 (some 48) (v := ?_) rfl (by kernel_rfl) (by kernel_rfl) (by kernel_rfl) (fun _ _ _ h => h) ?_ hHeld ?_
        rotate_left
        focus (intro w hSw; (try dsimp only at hSw); go_simp; (try with_reducible rfl); done)
        simp only [Act.put, List.setIfInBounds_toArray, List.set_cons_zero, List.set_cons_succ]
        refine tky 31 (some 49) (v := ?_) rfl (by kernel_rfl) (by kernel_rfl) (by kernel_rfl) (fun _ _ _ h => h) ?_ hHeld ?_
        rotate_left
        focus (intro w hSw; (try dsimp only at hSw); go_simp; (try with_reducible rfl); done)
        simp only [Act.put, List.setIfInBounds_toArray, List.set_cons_zero, List.set_cons_succ]
        refine tky 32 (some 50) (v := ?_) rfl (by kernel_rfl) (by kernel_rfl) (by kernel_rfl) (fun _ _ _ h => h) ?_ hHeld ?_
        rotate_left
        focus (intro w hSw; (try dsimp only at hSw); go_simp; (try with_reducible rfl); done)
        simp only [Act.put, List.setIfInBounds_toArray, List.set_cons_zero, List.set_cons_succ]
        refine tky 33 (some 51) (v := ?_) rfl (by kernel_rfl) (by kernel_rfl) (by kernel_rfl) (fun _ _ _ h => h) ?_ hHeld ?_
        rotate_left
        focus (intro w hSw; (try dsimp only at hSw); go_simp; (try with_reducible rfl); done)
        simp only [Act.put, List.setIfInBounds_toArray, List.set_cons_zero, List.set_cons_succ]
        refine tky 34 (some 52) (v := ?_) rfl (by kernel_rfl) (by kernel_rfl) (by kernel_rfl) (fun _ _ _ h => h) ?_ hHeld ?_
        rotate_left
        focus (intro w hSw; (try dsimp only at hSw); go_simp; (try with_reducible rfl); done)
        simp only [Act.put, List.setIfInBounds_toArray, List.set_cons_zero, List.set_cons_succ]
        refine tky 35 (some 53) (v := ?_) rfl (by kernel_rfl) (by kernel_rfl) (by kernel_rfl) (fun _ _ _ h => h) ?_ hHeld ?_
        rotate_left
        focus (intro w hSw; (try dsimp only at hSw); go_simp; (try with_reducible rfl); done)
        simp only [Act.put, List.setIfInBounds_toArray, List.set_cons_zero, List.set_cons_succ]
        refine tky 36 (some 54) (v := ?_) rfl (by kernel_rfl) (by kernel_rfl) (by kernel_rfl) (fun _ _ _ h => h) ?_ hHeld ?_
        rotate_left
        focus (intro w hSw; (try dsimp only at hSw); go_simp; (try with_reducible rfl); done)
        simp only [Act.put, List.setIfInBounds_toArray, List.set_cons_zero, List.set_cons_succ]
        refine tky 37 (some 55) (v := ?_) rfl (by kernel_rfl) (by kernel_rfl) (by kernel_rfl) (fun _ _ _ h => h) ?_ hHeld ?_
        rotate_left
        focus (intro w hSw; (try dsimp only at hSw); go_simp; (try with_reducible rfl); done)
        simp only [Act.put, List.setIfInBounds_toArray, List.set_cons_zero, List.set_cons_succ]
        refine tky 38 (some 56) (v := ?_) rfl (by kernel_rfl) (by kernel_rfl) (by kernel_rfl) (fun _ _ _ h => h) ?_ hHeld ?_
        rotate_left
        focus (intro w hSw; (try dsimp only at hSw); go_simp; (try with_reducible rfl); done)
        simp only [Act.put, List.setIfInBounds_toArray, List.set_cons_zero, List.set_cons_succ]
        refine tky 39 (some 57) (v := ?_) rfl (by kernel_rfl) (by kernel_rfl) (by kernel_rfl) (fun _ _ _ h => h) ?_ hHeld ?_
        rotate_left
        focus (intro w hSw; (try dsimp only at hSw); go_simp; (try with_reducible rfl); done)
        simp only [Act.put, List.setIfInBounds_toArray, List.set_cons_zero, List.set_cons_succ]
        refine tky 40 (some 58) (v := ?_) rfl (by kernel_rfl) (by kernel_rfl) (by kernel_rfl) (fun _ _ _ h => h) ?_ hHeld ?_
        rotate_left
        focus (intro w hSw; (try dsimp only at hSw); go_simp; (try with_reducible rfl); done)
        simp only [Act.put, List.setIfInBounds_toArray, List.set_cons_zero, List.set_cons_succ]
        refine wpAnyH_done (by kernel_rfl) ?_ _
        have HB2 : Hid (Below w.heap.size w wr.drew) := Lib.hid HBW.out.drew
        clear r0 r1 q0 q1 hHeld
        obtain ⟨hg1, hg2⟩ := HGG.out
        go_wp2_with fail
        go_roundg g
        case measure => omega
        case rel => exact ⟨i + 1, rfl, by omega, by omega, by omega, HB2⟩
    · have hin2 : i = n := by omega
      subst hin2
      clear hin
      go_wp2_with fail
      go_ret
      exact ⟨ret_b (by simp), HBW.out⟩
end Go.Proofs.YtgaknbnhmoddcaaGreatDoor
namespace Go.Proofs.YtgaknbnhmoddcaaGreatDoor
open Go.Lib
theorem var_true (T : List Tok) (a : Nat) : varP true T a = false := rfl
theorem mrk_kind {T : List Tok} {a : Nat} {s : List UInt8} (h : (lookP T a).kind ≠ 4) : mrkP T a s = false := by
  unfold mrkP
  rw [beq_eq_false_iff_ne.2 h]; rfl
theorem fixed_leaf (T : List Tok) (name : List UInt8) (a : Nat) (out : List Cel) (y : Nat × List Cel) (hb : begP true T a = true) (ho : opnP T a = false) (h : leafP true T name a out = .ok y) : varP false T a = false ∧ leafP false T name a out = .ok y := by
  have hv : varP false T a = false := by
    unfold begP at hb
    rw [ho, var_true] at hb
    simp only [Bool.or_false, Bool.or_eq_true, beq_iff_eq] at hb
    unfold varP
    rw [mrk_kind (by rcases hb with (e | e) | e <;> (rw [e]; decide))]
    rfl
  refine ⟨hv, ?_⟩
  unfold leafP at h ⊢
  rw [var_true] at h
  rw [hv]
  exact h
theorem fixed_itm (T : List Tok) (d : Nat) (ih : ∀ name a out y, valP true T d name a out = .ok y → valP false T d name a out = .ok y) (isO : Bool) : ∀ (f n : Nat) (nm : List (List UInt8)) (a : Nat) (out : List Cel) (y : Nat × Nat × List Cel), itmP (valP true T d) isO T f n nm a out = .ok y → itmP (valP false T d) isO T f n nm a out = .ok y
  | 0, n, nm, a, out, y, h => by rw [itmP] at h; cases h
  | f + 1, n, nm, a, out, y, h => by
    rw [itmP] at h ⊢
    by_cases hm : mrkP T a (if isO then [125] else [93]) = true
    · rw [if_pos hm] at h ⊢; exact h
    · rw [if_neg hm] at h ⊢
      cases hx : (if isO then memP nm T a else .ok ([], a)) with
      | error e => rw [hx] at h; cases h
      | ok z =>
        obtain ⟨s, a1⟩ := z
        rw [hx] at h
        simp only at h ⊢
        cases hv : valP true T d s a1 out with
        | error e => rw [hv] at h; cases h
        | ok q =>
          rw [hv] at h
          rw [ih _ _ _ _ hv]
          exact fixed_itm T d ih isO f _ _ _ _ _ h
theorem fixed_val (T : List Tok) : ∀ (d : Nat) (name : List UInt8) (a : Nat) (out : List Cel) (y : Nat × List Cel), valP true T d name a out = .ok y → valP false T d name a out = .ok y := by
  intro d
  induction d with
  | zero =>
    intro name a out y h
    unfold valP at h ⊢
    cases hb : begP true T a with
    | false => rw [hb] at h; cases h
    | true =>
      rw [hb] at h
      have hb2 : begP false T a = true := by
        unfold begP at hb ⊢
        rw [var_true, Bool.or_false] at hb
        rw [hb]; rfl
      rw [hb2]
      simp only [Bool.not_true, Bool.false_eq_true, if_false] at h ⊢
      split
      · rename_i hl; rw [if_pos hl] at h; cases h
      · rename_i hl
        rw [if_neg hl] at h
        split
        · rename_i ho; rw [if_pos ho] at h; cases h
        · rename_i ho
          rw [if_neg ho] at h
          exact (fixed_leaf T name a out y hb (by simpa using ho) h).2
  | succ d ih =>
    intro name a out y h
    unfold valP at h ⊢
    cases hb : begP true T a with
    | false => rw [hb] at h; cases h
    | true =>
      rw [hb] at h
      have hb2 : begP false T a = true := by
        unfold begP at hb ⊢
        rw [var_true, Bool.or_false] at hb
        rw [hb]; rfl
      rw [hb2]
      simp only [Bool.not_true, Bool.false_eq_true, if_false] at h ⊢
      split
      · rename_i hl; rw [if_pos hl] at h; cases h
      · rename_i hl
        rw [if_neg hl] at h
        split
        · rename_i ho
          rw [if_pos ho] at h
          cases hi : itmP (valP true T d) (mrkP T a [123]) T (T.length + 1) 0 [] (a + 1) (out ++ [⟨if mrkP T a [123] then 7 else 6, name, [], 0, 0⟩]) with
          | error e => rw [hi] at h; cases h
          | ok z =>
            rw [hi] at h
            rw [fixed_itm T d (fun name a out y => ih name a out y) _ _ _ _ _ _ _ hi]
            exact h
        · rename_i ho
          rw [if_neg ho] at h
          exact (fixed_leaf T name a out y hb (by simpa using ho) h).2
/-- No more cells than may be. -/
theorem small_itm (fixed : Bool) (T : List Tok) (d : Nat) (ih : ∀ name a out a2 o2, out.length ≤ 2048 → valP fixed T d name a out = .ok (a2, o2) → o2.length ≤ 2048) (isO : Bool) : ∀ (f n : Nat) (nm : List (List UInt8)) (a : Nat) (out : List Cel) (k a2 : Nat) (o2 : List Cel), out.length ≤ 2048 → itmP (valP fixed T d) isO T f n nm a out = .ok (k, a2, o2) → o2.length ≤ 2048
  | 0, n, nm, a, out, k, a2, o2, _, h => by rw [itmP] at h; cases h
  | f + 1, n, nm, a, out, k, a2, o2, hl, h => by
    rw [itmP] at h
    by_cases hm : mrkP T a (if isO then [125] else [93]) = true
    · rw [if_pos hm] at h
      injection h with h; injection h with _ h; injection h with _ h; subst h; exact hl
    · rw [if_neg hm] at h
      cases hx : (if isO then memP nm T a else .ok ([], a)) with
      | error e => rw [hx] at h; cases h
      | ok z =>
        obtain ⟨s, a1⟩ := z
        rw [hx] at h
        simp only at h
        cases hv : valP fixed T d s a1 out with
        | error e => rw [hv] at h; cases h
        | ok q =>
          obtain ⟨a3, o3⟩ := q
          rw [hv] at h
          exact small_itm fixed T d ih isO f _ _ _ _ _ _ _ (ih _ _ _ _ _ hl hv) h
theorem small_leaf (fixed : Bool) (T : List Tok) (name : List UInt8) (a : Nat) (out : List Cel) (a2 : Nat) (o2 : List Cel) (hl : out.length ≤ 2047) (h : leafP fixed T name a out = .ok (a2, o2)) : o2.length ≤ 2048 := by
  unfold leafP at h
  split at h
  · split at h
    · cases h
    · injection h with h; injection h with _ h; subst h; simp; omega
  · split at h
    · injection h with h; injection h with _ h; subst h; simp; omega
    · split at h
      · split at h
        · cases h
        · injection h with h; injection h with _ h; subst h; simp; omega
      · injection h with h; injection h with _ h; subst h; simp; omega
theorem small_val (fixed : Bool) (T : List Tok) : ∀ (d : Nat) (name : List UInt8) (a : Nat) (out : List Cel) (a2 : Nat) (o2 : List Cel), out.length ≤ 2048 → valP fixed T d name a out = .ok (a2, o2) → o2.length ≤ 2048 := by
  intro d
  induction d with
  | zero =>
    intro name a out a2 o2 hl h
    unfold valP at h
    split at h
    · cases h
    · split at h
      · cases h
      · rename_i hn
        split at h
        · cases h
        · exact small_leaf fixed T name a out a2 o2 (by omega) h
  | succ d ih =>
    intro name a out a2 o2 hl h
    unfold valP at h
    split at h
    · cases h
    · split at h
      · cases h
      · rename_i hn
        split at h
        · simp only at h
          split at h
          · cases h
          · rename_i n a3 o3 hi
            injection h with h; injection h with _ h; subst h
            unfold manyAt
            rw [List.length_modify]
            exact small_itm fixed T d (fun name a out a2 o2 => ih name a out a2 o2) _ _ _ _ _ _ _ _ _ (by simp; omega) hi
        · exact small_leaf fixed T name a out a2 o2 (by omega) h
/-- What is read fixed is read alike otherwise, and has no variable. -/
theorem lit_fixed (T : List Tok) (hT : OkK T) (a m : Nat) (v : List Cel) (h : litP true T a = .ok (m, v)) : litP false T a = .ok (m, v) ∧ ∀ x ∈ v, x.kind ≠ 5 := by
  refine ⟨fixed_val T 16 [] a [] (m, v) h, ?_⟩
  obtain ⟨c, new, e1, e2, e3, e4, e5, e6, e7⟩ := val_q true T hT 16 [] a [] m v (Or.inl rfl) h
  rw [List.nil_append] at e1
  subst e1
  exact fun x hx => (e4 x hx).2.2 rfl
/-- What is read may be, and has the tokens that it was read from. -/
theorem lit_read (fixed : Bool) (T : List Tok) (hT : OkK T) (a m : Nat) (w : List Cel) (h : litP fixed T a = .ok (m, w)) : litB w = true ∧ a < m ∧ m ≤ T.length ∧ samesK (tokK 16 w) (segK T a m) = true := by
  have hs := small_val fixed T 16 [] a [] m w (by decide) h
  obtain ⟨c, new, e1, e2, e3, e4, e5, e6, e7⟩ := val_q fixed T hT 16 [] a [] m w (Or.inl rfl) h
  rw [List.nil_append] at e1
  subst e1
  refine ⟨?_, e5, e6, e7⟩
  unfold litB mayB
  simp only [Bool.and_eq_true, decide_eq_true_eq, beq_iff_eq, List.all_eq_true, Bool.not_eq_true', Bool.and_eq_false_iff, Bool.or_eq_true]
  refine ⟨⟨⟨⟨by simp, hs⟩, ?_⟩, ?_⟩, fun x hx => ?_⟩
  · rw [List.headD_cons, e2]; rfl
  · rw [e3]; rfl
  · obtain ⟨l1, l2, _⟩ := e4 x hx
    refine ⟨?_, ?_⟩
    · rcases l1 with l1 | l1
      · exact Or.inl (by rw [l1]; rfl)
      · exact Or.inr l1
    · by_cases hk : x.kind = 4
      · exact Or.inr (l2 hk)
      · exact Or.inl (beq_eq_false_iff_ne.2 hk)
end Go.Proofs.YtgaknbnhmoddcaaGreatDoor
namespace Go.Proofs.YtgaknbnhmoddcaaGreatDoor
open Go.RowKit
theorem itm_pos (val : List UInt8 → Nat → List Cel → Except ErrP (Nat × List Cel)) (hv : ∀ s a out e, val s a out = .error e → 0 < e.1) (isO : Bool) (T : List Tok) : ∀ (f n : Nat) (nm : List (List UInt8)) (a : Nat) (out : List Cel) (e : ErrP), itmP val isO T f n nm a out = .error e → 0 < e.1
  | 0, _, _, _, _, e, h => by injection h with h; subst h; simp
  | f + 1, n, nm, a, out, e, h => by
    cases hm : mrkP T a (if isO then [125] else [93]) with
    | true => rw [itmP_end hm] at h; cases h
    | false =>
      rw [itmP_go hm] at h
      cases hm : (if isO then memP nm T a else .ok ([], a)) with
      | error e2 =>
        rw [hm] at h
        injection h with h
        subst h
        cases isO with
        | false => cases hm
        | true =>
          rw [if_pos rfl] at hm
          unfold memP namP at hm
          split at hm
          · rename_i e3 h3
            injection hm with hm
            subst hm
            split at h3
            · injection h3 with h3; subst h3; simp
            · split at h3
              · injection h3 with h3; subst h3; simp
              · cases h3
          · split at hm
            · cases hm
            · injection hm with hm; subst hm; simp
      | ok sa =>
        obtain ⟨s, a1⟩ := sa
        rw [hm] at h
        dsimp only at h
        cases hx : val s a1 out with
        | error e2 =>
          rw [hx] at h
          injection h with h
          subst h
          exact hv _ _ _ _ hx
        | ok y =>
          obtain ⟨a3, o3⟩ := y
          rw [hx] at h
          exact itm_pos val hv isO T f _ _ _ _ _ h
theorem leaf_pos (fixed : Bool) (T : List Tok) (name : List UInt8) (a : Nat) (out : List Cel) (e : ErrP) (h : leafP fixed T name a out = .error e) : 0 < e.1 := by
  unfold leafP namP at h
  split at h
  · split at h
    · rename_i e2 h2
      injection h with h
      subst h
      split at h2
      · injection h2 with h2; subst h2; simp
      · split at h2
        · injection h2 with h2; subst h2; simp
        · cases h2
    · cases h
  · split at h
    · cases h
    · split at h
      · split at h
        · injection h with h; subst h; simp
        · cases h
      · cases h
theorem val_pos_step (fixed : Bool) (T : List Tok) (d : Nat) (ih : ∀ e, d = e + 1 → ∀ s a out x, valP fixed T e s a out = .error x → 0 < x.1) : ∀ s a out x, valP fixed T d s a out = .error x → 0 < x.1 := by
  intro s a out x h
  unfold valP at h
  split at h
  · injection h with h; subst h; simp
  · split at h
    · injection h with h; subst h; simp
    · split at h
      · cases d with
        | zero => injection h with h; subst h; simp
        | succ d =>
          dsimp only at h
          split at h
          · rename_i e2 h2
            injection h with h
            subst h
            exact itm_pos _ (ih d rfl) _ T _ _ _ _ _ _ h2
          · cases h
      · exact leaf_pos fixed T s a out x h
theorem val_pos (fixed : Bool) (T : List Tok) : ∀ (d : Nat) s a out x, valP fixed T d s a out = .error x → 0 < x.1
  | 0 => val_pos_step fixed T 0 fun e h => by omega
  | d + 1 => val_pos_step fixed T (d + 1) fun e h => by
    have : e = d := by omega
    subst this
    exact val_pos fixed T e
theorem TokRow.seg {b off : Nat} {L : List Tok} {w : World} (h : TokRow b off L w) (k m : Nat) (hkm : k ≤ m) (hm : m ≤ L.length) : TokRow b (off + k * 3) (segK L k m) w := by
  intro i hi
  have hi2 := hi
  unfold segK at hi2
  rw [List.length_take, List.length_drop] at hi2
  have hki : k + i < L.length := by omega
  obtain ⟨h1, h2, h3⟩ := h (k + i) hki
  have hg : (segK L k m)[i]'hi = L[k + i] := by
    simp only [segK, List.getElem_take, List.getElem_drop]
  rw [hg]
  refine ⟨?_, ?_, ?_⟩
  · rw [← h1]; congr 2; omega
  · rw [← h2]; congr 2; omega
  · rw [← h3]; congr 2; omega
theorem segK_len (L : List Tok) (k m : Nat) (hkm : k ≤ m) (hm : m ≤ L.length) : (segK L k m).length = m - k := by
  unfold segK
  rw [List.length_take, List.length_drop]; omega
set_option maxRecDepth 100000 in
theorem fixed_long (s : ByteArray) (at_ : Int) (hs : 1000 < s.size) (w : World) (HA : Hid (Calls Tryz.prog 29 #[] w fun e w' => e = .returned (.bool true) ∧ Below w.heap.size w w')) :
    Calls Tryz.prog 5 #[.string s, .int .i64 at_] w fun e w' => e = .returned (.bool true) ∧ Below w.heap.size w w' := by
  have h1 : decide ((1000 : Int) < (s.size : Int)) = true := decide_eq_true (by omega)
  go_enter Tryz.func5, Tryz.ntmps5
  go_wp2_with fail
  refine HA.out.mono ?_; rintro e w1 ⟨rfl, hb⟩
  have HB1 := Lib.hid hb
  clear hb
  go_wp2_with fail
  go_ret
  exact ⟨rfl, HB1.out⟩
set_option maxRecDepth 100000 in
theorem fixed_lexerr (s : ByteArray) (at_ : Int) (hs : ¬ 1000 < s.size) (w : World) (HA : Hid (Calls Tryz.prog 29 #[] w fun e w' => e = .returned (.bool true) ∧ Below w.heap.size w w')) (ea na : Int) (he : ea ≠ 0) (HX : Hid (∀ W, Below w.heap.size w W → Calls Tryz.prog 21 #[.string s] W fun e w' => e = .returned (.tuple #[.slice none 0 0, .int .i64 na, .int .i64 ea]) ∧ Below W.heap.size W w')) :
    Calls Tryz.prog 5 #[.string s, .int .i64 at_] w fun e w' => e = .returned (.bool true) ∧ Below w.heap.size w w' := by
  have h1 : decide ((1000 : Int) < (s.size : Int)) = false := decide_eq_false (by omega)
  have h2 : (ea != 0) = true := by simpa using he
  go_enter Tryz.func5, Tryz.ntmps5
  go_wp2_with fail
  refine HA.out.mono ?_; rintro e w1 ⟨rfl, hb⟩
  have HB1 := Lib.hid hb
  clear hb
  go_wp2_with fail
  refine (HX.out _ HB1.out).mono ?_; rintro x w2 ⟨rfl, hb⟩
  have HB2 : Hid (Below w.heap.size w w2) := Lib.hid (HB1.out.trans (hb.mono HB1.out.size))
  clear hb
  go_wp2_with fail
  go_ret
  exact ⟨rfl, HB2.out⟩
set_option maxRecDepth 100000 in
theorem fixed_err (s : ByteArray) (at_ : Int) (hs : ¬ 1000 < s.size) (w : World) (HA : Hid (Calls Tryz.prog 29 #[] w fun e w' => e = .returned (.bool true) ∧ Below w.heap.size w w')) (L : List Tok) (n : Nat) (HX : Hid (∀ W, Below w.heap.size w W → Calls Tryz.prog 21 #[.string s] W fun e w' => (∃ g cap, e = .returned (.tuple #[.slice (some ⟨g, 0, none⟩) n cap, .int .i64 0, .int .i64 0]) ∧ n ≤ cap ∧ TokRow g 0 L w' ∧ g < w'.heap.size) ∧ Below W.heap.size W w')) (j1 e1 j2 e2 : Int) (h1 : e1 ≠ 0) (h2 : e2 ≠ 0)
    (HV1 : Hid (∀ W g cap, Below w.heap.size w W → TokRow g 0 L W → g < W.heap.size → Calls Tryz.prog 25 #[.slice (some ⟨g, 0, none⟩) n cap, .int .i64 at_, .bool true] W fun x w' => x = .returned (.tuple #[.slice none 0 0, .int .i64 j1, .int .i64 e1]) ∧ Below W.heap.size W w'))
    (HV2 : Hid (∀ W g cap, Below w.heap.size w W → TokRow g 0 L W → g < W.heap.size → Calls Tryz.prog 25 #[.slice (some ⟨g, 0, none⟩) n cap, .int .i64 at_, .bool false] W fun x w' => x = .returned (.tuple #[.slice none 0 0, .int .i64 j2, .int .i64 e2]) ∧ Below W.heap.size W w')) :
    Calls Tryz.prog 5 #[.string s, .int .i64 at_] w fun e w' => e = .returned (.bool true) ∧ Below w.heap.size w w' := by
  have h0 : decide ((1000 : Int) < (s.size : Int)) = false := decide_eq_false (by omega)
  have h1n : (e1 == 0) = false := by simpa using h1
  have h2n : (e2 != 0) = true := by simpa using h2
  go_enter Tryz.func5, Tryz.ntmps5
  go_wp2_with fail
  refine HA.out.mono ?_; rintro e w1 ⟨rfl, hb⟩
  have HB1 := Lib.hid hb
  clear hb
  go_wp2_with fail
  refine (HX.out _ HB1.out).mono ?_; rintro x w2 ⟨⟨g, cap, rfl, hcap, hr, hg⟩, hb⟩
  have HB2 : Hid (Below w.heap.size w w2) := Lib.hid (HB1.out.trans (hb.mono HB1.out.size))
  have HR2 := Lib.hid hr
  clear hb hr
  go_wp2_with fail
  refine (HV1.out w2 g cap HB2.out HR2.out hg).mono ?_; rintro x w3 ⟨rfl, hb⟩
  have HB3 : Hid (Below w.heap.size w w3) := Lib.hid (HB2.out.trans (hb.mono HB2.out.size))
  have HR3 := Lib.hid (HR2.out.below hb hg)
  have hg3 := Nat.lt_of_lt_of_le hg hb.size
  clear hb
  go_wp2_with fail
  refine (HV2.out w3 g cap HB3.out HR3.out hg3).mono ?_; rintro x w4 ⟨rfl, hb⟩
  have HB4 : Hid (Below w.heap.size w w4) := Lib.hid (HB3.out.trans (hb.mono HB3.out.size))
  clear hb
  go_wp2_with fail
  go_ret
  exact ⟨rfl, HB4.out⟩
set_option maxRecDepth 100000 in
set_option maxHeartbeats 2000000 in
theorem fixed_one (s : ByteArray) (k m : Nat) (hs : ¬ 1000 < s.size) (w : World) (HA : Hid (Calls Tryz.prog 29 #[] w fun e w' => e = .returned (.bool true) ∧ Below w.heap.size w w')) (L M : List Tok) (V : List Cel) (n : Nat) (HX : Hid (∀ W, Below w.heap.size w W → Calls Tryz.prog 21 #[.string s] W fun e w' => (∃ g cap, e = .returned (.tuple #[.slice (some ⟨g, 0, none⟩) n cap, .int .i64 0, .int .i64 0]) ∧ n ≤ cap ∧ TokRow g 0 L w' ∧ g < w'.heap.size) ∧ Below W.heap.size W w')) (j1 e1 : Int) (h1 : e1 ≠ 0) (hkm : k < m) (hmn : m ≤ n) (hn : n = L.length) (hn9 : n ≤ 2000) (HM : Hid (samesK M (segK L k m) = true))
    (HV1 : Hid (∀ W g cap, Below w.heap.size w W → TokRow g 0 L W → g < W.heap.size → Calls Tryz.prog 25 #[.slice (some ⟨g, 0, none⟩) n cap, .int .i64 (k : Int), .bool true] W fun x w' => x = .returned (.tuple #[.slice none 0 0, .int .i64 j1, .int .i64 e1]) ∧ Below W.heap.size W w'))
    (HV2 : Hid (∀ W g cap, Below w.heap.size w W → TokRow g 0 L W → g < W.heap.size → Calls Tryz.prog 25 #[.slice (some ⟨g, 0, none⟩) n cap, .int .i64 (k : Int), .bool false] W fun x w' => (∃ a nn c, x = .returned (.tuple #[.slice a nn c, .int .i64 (m : Int), .int .i64 0]) ∧ CelG w.heap.size V (.slice a nn c) w') ∧ Below W.heap.size W w'))
    (HT : Hid (∀ W u, Below w.heap.size w W → CelSl u V W → Calls Tryz.prog 11 #[u] W fun e w' => (∃ u', e = .returned (.tuple #[u', .int .i64 0]) ∧ OwnT W.heap.size u' M w') ∧ Below W.heap.size W w')) :
    Calls Tryz.prog 5 #[.string s, .int .i64 (k : Int)] w fun e w' => e = .returned (.bool true) ∧ Below w.heap.size w w' := by
  have h0 : decide ((1000 : Int) < (s.size : Int)) = false := decide_eq_false (by omega)
  have hk1 : ¬ (k : Int) < 0 := by omega
  have hk2 : ¬ (m : Int) < (k : Int) := by omega
  have hk3 : ¬ (n : Int) < (m : Int) := by omega
  have hk4 : IntKind.i64.wrap ((m : Int) - (k : Int)) = (m : Int) - (k : Int) := IntWalk.i64_in _ (by omega)
  have hk5 : (k : Int).toNat = k := by omega
  have hk6 : (m : Int).toNat = m := by omega
  have hk7 : (0 : Int) ≤ (k : Int) := by omega
  have hk8 : (k : Int) ≤ (m : Int) := by omega
  have hml : M.length = m - k := by rw [samesK_len _ _ HM.out, segK_len L k m (by omega) (by omega)]
  have hk9 : ((M.length : Nat) : Int) = (m : Int) - (k : Int) := by omega
  have HML := Lib.hid hml
  have HN := Lib.hid hn
  clear hn
  have h1n : (e1 == 0) = false := by simpa using h1
  go_enter Tryz.func5, Tryz.ntmps5
  go_wp2_with fail
  refine HA.out.mono ?_; rintro e w1 ⟨rfl, hb⟩
  have HB1 := Lib.hid hb
  clear hb
  go_wp2_with fail
  refine (HX.out _ HB1.out).mono ?_; rintro x w2 ⟨⟨g, cap, rfl, hcap, hr, hg⟩, hb⟩
  have HB2 : Hid (Below w.heap.size w w2) := Lib.hid (HB1.out.trans (hb.mono HB1.out.size))
  have HR2 := Lib.hid hr
  clear hb hr
  go_wp2_with fail
  refine (HV1.out w2 g cap HB2.out HR2.out hg).mono ?_; rintro x w3 ⟨rfl, hb⟩
  have HB3 : Hid (Below w.heap.size w w3) := Lib.hid (HB2.out.trans (hb.mono HB2.out.size))
  have HR3 := Lib.hid (HR2.out.below hb hg)
  have hg3 := Nat.lt_of_lt_of_le hg hb.size
  clear hb
  go_wp2_with fail
  refine (HV2.out w3 g cap HB3.out HR3.out hg3).mono ?_; rintro x w4 ⟨⟨a4, n4, c4, rfl, hv4⟩, hb⟩
  have HB4 : Hid (Below w.heap.size w w4) := Lib.hid (HB3.out.trans (hb.mono HB3.out.size))
  have HR4 := Lib.hid (HR3.out.below hb hg3)
  have hg4 := Nat.lt_of_lt_of_le hg3 hb.size
  have HU4 := Lib.hid hv4.2.sl
  clear hb hv4
  go_wp2_with fail
  refine (HT.out w4 _ HB4.out HU4.out).mono ?_; rintro x w7 ⟨⟨u7, rfl, hu7⟩, hb⟩
  have HB7 : Hid (Below w.heap.size w w7) := Lib.hid (HB4.out.trans (hb.mono HB4.out.size))
  have HR7 := Lib.hid (HR4.out.below hb hg4)
  obtain ⟨g7, n7, c7, rfl, hn7, _, _⟩ := hu7.formU (by omega)
  have hr7 : TokRow g7 0 M w7 := by
    rcases hu7.sl with ⟨ua, uc, hu2, hL, _⟩ | ⟨b2, off, cap2, hu2, hr⟩
    · rw [hL] at hml; simp at hml; omega
    · injection hu2 with e1 e2 e3
      injection e1 with e1
      injection e1 with e1 e2
      subst e1; subst e2
      exact hr
  have HRM := Lib.hid hr7
  have h7n : (n7 : Int) = (m : Int) - (k : Int) := by omega
  have HN7 := Lib.hid hn7
  have hcap2 : (m : Int) ≤ (cap : Int) := by omega
  have HSM : Hid (Calls Tryz.prog 30 #[.slice (some ⟨g7, 0, none⟩) n7 c7, .slice (some ⟨g, k * 3, none⟩) (m - k) (cap - k)] w7 fun e w' => e = .returned (.bool true) ∧ Below w7.heap.size w7 w') := Lib.hid (by
    have := same18_yes M (segK L k m) g7 0 c7 g (0 + k * 3) (cap - k) w7 HRM.out (HR7.out.seg k m (by omega) (by have := HN.out; omega)) HM.out (by omega)
    rw [← HN7.out, segK_len L k m (by omega) (by have := HN.out; omega), Nat.zero_add] at this
    exact this)
  clear hb hu7 hr7 hn7
  go_wp2_with fail
  refine HSM.out.mono ?_; rintro x w8 ⟨rfl, hb⟩
  have HB8 : Hid (Below w.heap.size w w8) := Lib.hid (HB7.out.trans (hb.mono HB7.out.size))
  clear hb
  go_wp2_with fail
  go_ret
  exact ⟨rfl, HB8.out⟩
set_option maxRecDepth 100000 in
set_option maxHeartbeats 4000000 in
theorem fixed_two (s : ByteArray) (k m : Nat) (hs : ¬ 1000 < s.size) (w : World) (HA : Hid (Calls Tryz.prog 29 #[] w fun e w' => e = .returned (.bool true) ∧ Below w.heap.size w w')) (L M : List Tok) (V : List Cel) (n : Nat) (HX : Hid (∀ W, Below w.heap.size w W → Calls Tryz.prog 21 #[.string s] W fun e w' => (∃ g cap, e = .returned (.tuple #[.slice (some ⟨g, 0, none⟩) n cap, .int .i64 0, .int .i64 0]) ∧ n ≤ cap ∧ TokRow g 0 L w' ∧ g < w'.heap.size) ∧ Below W.heap.size W w')) (hkm : k < m) (hmn : m ≤ n) (hn : n = L.length) (hn9 : n ≤ 2000) (HM : Hid (samesK M (segK L k m) = true))
    (HV1 : Hid (∀ W g cap, Below w.heap.size w W → TokRow g 0 L W → g < W.heap.size → Calls Tryz.prog 25 #[.slice (some ⟨g, 0, none⟩) n cap, .int .i64 (k : Int), .bool true] W fun x w' => (∃ a nn c, x = .returned (.tuple #[.slice a nn c, .int .i64 (m : Int), .int .i64 0]) ∧ CelG w.heap.size V (.slice a nn c) w') ∧ Below W.heap.size W w'))
    (HV2 : Hid (∀ W g cap, Below w.heap.size w W → TokRow g 0 L W → g < W.heap.size → Calls Tryz.prog 25 #[.slice (some ⟨g, 0, none⟩) n cap, .int .i64 (k : Int), .bool false] W fun x w' => (∃ a nn c, x = .returned (.tuple #[.slice a nn c, .int .i64 (m : Int), .int .i64 0]) ∧ CelG w.heap.size V (.slice a nn c) w') ∧ Below W.heap.size W w'))
    (HNV : Hid (∀ c ∈ V, c.kind ≠ 5)) (hV0 : 0 < V.length) (hV1 : V.length ≤ 2048)
    (HS : Hid (∀ W u v, Below w.heap.size w W → CelSl u V W → CelSl v V W → Calls Tryz.prog 20 #[u, v] W fun e w' => e = .returned (.bool true) ∧ Below W.heap.size W w'))
    (HT : Hid (∀ W u, Below w.heap.size w W → CelSl u V W → Calls Tryz.prog 11 #[u] W fun e w' => (∃ u', e = .returned (.tuple #[u', .int .i64 0]) ∧ OwnT W.heap.size u' M w') ∧ Below W.heap.size W w')) :
    Calls Tryz.prog 5 #[.string s, .int .i64 (k : Int)] w fun e w' => e = .returned (.bool true) ∧ Below w.heap.size w w' := by
  have h0 : decide ((1000 : Int) < (s.size : Int)) = false := decide_eq_false (by omega)
  have hk1 : ¬ (k : Int) < 0 := by omega
  have hk2 : ¬ (m : Int) < (k : Int) := by omega
  have hk3 : ¬ (n : Int) < (m : Int) := by omega
  have hk4 : IntKind.i64.wrap ((m : Int) - (k : Int)) = (m : Int) - (k : Int) := IntWalk.i64_in _ (by omega)
  have hk5 : (k : Int).toNat = k := by omega
  have hk6 : (m : Int).toNat = m := by omega
  have hk7 : (0 : Int) ≤ (k : Int) := by omega
  have hk8 : (k : Int) ≤ (m : Int) := by omega
  have hml : M.length = m - k := by rw [samesK_len _ _ HM.out, segK_len L k m (by omega) (by omega)]
  have hk9 : ((M.length : Nat) : Int) = (m : Int) - (k : Int) := by omega
  have HML := Lib.hid hml
  have HN := Lib.hid hn
  clear hn
  go_enter Tryz.func5, Tryz.ntmps5
  go_wp2_with fail
  refine HA.out.mono ?_; rintro e w1 ⟨rfl, hb⟩
  have HB1 := Lib.hid hb
  clear hb
  go_wp2_with fail
  refine (HX.out _ HB1.out).mono ?_; rintro x w2 ⟨⟨g, cap, rfl, hcap, hr, hg⟩, hb⟩
  have HB2 : Hid (Below w.heap.size w w2) := Lib.hid (HB1.out.trans (hb.mono HB1.out.size))
  have HR2 := Lib.hid hr
  clear hb hr
  go_wp2_with fail
  refine (HV1.out w2 g cap HB2.out HR2.out hg).mono ?_; rintro x w3 ⟨⟨a3, n3, c3, rfl, hv3⟩, hb⟩
  have HB3 : Hid (Below w.heap.size w w3) := Lib.hid (HB2.out.trans (hb.mono HB2.out.size))
  have HR3 := Lib.hid (HR2.out.below hb hg)
  have hg3 := Nat.lt_of_lt_of_le hg hb.size
  have HU3 := Lib.hid hv3.2.sl
  clear hb hv3
  go_wp2_with fail
  refine (HV2.out w3 g cap HB3.out HR3.out hg3).mono ?_; rintro x w4 ⟨⟨a4, n4, c4, rfl, hv4⟩, hb⟩
  have HB4 : Hid (Below w.heap.size w w4) := Lib.hid (HB3.out.trans (hb.mono HB3.out.size))
  have HR4 := Lib.hid (HR3.out.below hb hg3)
  have hg4 := Nat.lt_of_lt_of_le hg3 hb.size
  have HU4 := Lib.hid hv4.2.sl
  have hu34 := HU3.out.below hb
  clear hb hv4
  rcases hu34 with ⟨ua, uc, _, hV, _⟩ | ⟨b3, o3, cap3, hu2, hrow3, _⟩
  · rw [hV] at hV0; simp at hV0
  have HU34 := Lib.hid (HU3.out)
  injection hu2 with x1 x2 x3
  subst x1
  obtain ⟨nV, hnV⟩ : ∃ nV, V.length = nV := ⟨_, rfl⟩
  have HNN := Lib.hid hnV
  rw [hnV] at x2 hV0 hV1
  subst x2
  have HRW := Lib.hid hrow3
  have HUU : Hid (CelSl (.slice (some ⟨b3, o3, none⟩) n3 c3) V w4) := Lib.hid (Or.inr ⟨b3, o3, c3, by rw [hnV], hrow3, by omega⟩)
  clear hrow3 x3 hnV
  go_wp2_with fail
  go_loopg [15] (n3 + 1) (fun gk iv wr => ∃ i : Nat, iv = .int .i64 (i : Int) ∧ gk + i ≤ n3 + 1 ∧ n3 + 1 ≤ gk + i ∧ i ≤ n3 ∧ wr = w4)
  case atStart => exact ⟨0, by go_num, by omega, by omega, by omega, rfl⟩
  case round =>
    rename World => wr
    obtain ⟨i, rfl, hq1, hq2, hi, rfl⟩ := hrel
    obtain ⟨g9, rfl⟩ : ∃ g9, gk = g9 + 1 := ⟨gk - 1, by omega⟩
    have HGG := Lib.hid (And.intro hq1 hq2)
    clear hq1 hq2
    by_cases hin : i < n3
    · obtain ⟨r0, _⟩ := HRW.out i (by have := HNN.out; omega)
      have hne := HNV.out (V[i]'(by have := HNN.out; omega)) (List.getElem_mem _)
      have h5 : (((V[i]'(by have := HNN.out; omega)).kind.toNat : Int) == 5) = false := by
        rw [beq_eq_false_iff_ne]
        intro e
        exact hne (UInt8.toNat_inj.1 (by show _ = 5; omega))
      generalize ((V[i]'(by have := HNN.out; omega)).kind.toNat : Int) = kd at r0 h5
      have hi1 : (i : Int).toNat = i := by omega
      have hi2 : (0 : Int) ≤ (i : Int) := by omega
      have hi3 : (i : Int) < (n3 : Int) := by omega
      have hi4 : IntKind.i64.wrap ((i : Int) + 1) = ((i + 1 : Nat) : Int) := by rw [IntWalk.i64_in _ (by omega)]; omega
      clear hne
      go_wp2_with fail
      obtain ⟨hq1, hq2⟩ := HGG.out
      go_roundg g9
      case measure => omega
      case rel => exact ⟨i + 1, rfl, by omega, by omega, by omega, rfl⟩
    · have hin2 : i = n3 := by omega
      clear hin
      subst hin2
      go_wp2_with fail
      refine (HS.out wr _ _ HB4.out HUU.out HU4.out).mono ?_; rintro x w5 ⟨rfl, hb⟩
      have HB5 : Hid (Below w.heap.size w w5) := Lib.hid (HB4.out.trans (hb.mono HB4.out.size))
      have HR5 := Lib.hid (HR4.out.below hb hg4)
      have hg5 := Nat.lt_of_lt_of_le hg4 hb.size
      have HU5 := Lib.hid (HU4.out.below hb)
      clear hb
      go_wp2_with fail
      refine (HT.out w5 _ HB5.out HU5.out).mono ?_; rintro x w7 ⟨⟨u7, rfl, hu7⟩, hb⟩
      have HB7 : Hid (Below w.heap.size w w7) := Lib.hid (HB5.out.trans (hb.mono HB5.out.size))
      have HR7 := Lib.hid (HR5.out.below hb hg5)
      obtain ⟨g7, n7, c7, rfl, hn7, _, _⟩ := hu7.formU (by omega)
      have hr7 : TokRow g7 0 M w7 := by
        rcases hu7.sl with ⟨ua, uc, hu2, hL, _⟩ | ⟨b2, off, cap2, hu2, hr⟩
        · rw [hL] at hml; simp at hml; omega
        · injection hu2 with e1 e2 e3
          injection e1 with e1
          injection e1 with e1 e2
          subst e1; subst e2
          exact hr
      have HRM := Lib.hid hr7
      have h7n : (n7 : Int) = (m : Int) - (k : Int) := by omega
      have HN7 := Lib.hid hn7
      have hcap2 : (m : Int) ≤ (cap : Int) := by omega
      have HSM : Hid (Calls Tryz.prog 30 #[.slice (some ⟨g7, 0, none⟩) n7 c7, .slice (some ⟨g, k * 3, none⟩) (m - k) (cap - k)] w7 fun e w' => e = .returned (.bool true) ∧ Below w7.heap.size w7 w') := Lib.hid (by
        have := same18_yes M (segK L k m) g7 0 c7 g (0 + k * 3) (cap - k) w7 HRM.out (HR7.out.seg k m (by omega) (by have := HN.out; omega)) HM.out (by omega)
        rw [← HN7.out, segK_len L k m (by omega) (by have := HN.out; omega), Nat.zero_add] at this
        exact this)
      clear hb hu7 hr7 hn7
      go_wp2_with fail
      refine HSM.out.mono ?_; rintro x w8 ⟨rfl, hb⟩
      have HB8 : Hid (Below w.heap.size w w8) := Lib.hid (HB7.out.trans (hb.mono HB7.out.size))
      clear hb
      go_wp2_with fail
      go_ret
      exact ⟨rfl, HB8.out⟩
end Go.Proofs.YtgaknbnhmoddcaaGreatDoor
namespace Go.Proofs.YtgaknbnhmoddcaaGreatDoor
open Go.RowKit
theorem lex_row18 (s : ByteArray) (hs : s.size ≤ 1000000) (L : List Tok) (h : lex0 s.data.toList = .ok L) (h0 : 0 < L.length) (w : World) (hE : EnvU w) :
    Calls Tryz.prog 21 #[.string s] w fun e w' => (∃ g cap, e = .returned (.tuple #[.slice (some ⟨g, 0, none⟩) L.length cap, .int .i64 0, .int .i64 0]) ∧ L.length ≤ cap ∧ TokRow g 0 L w' ∧ g < w'.heap.size) ∧ Below w.heap.size w w' := by
  refine (lex_row s hs L h h0 w hE).mono ?_
  rintro e w' ⟨⟨g, cap, rfl, ho⟩, hb⟩
  refine ⟨⟨g, cap, rfl, ?_, ?_, ?_⟩, hb⟩
  · obtain ⟨g2, n2, c2, e1, e2, _, e3⟩ := ho.formU h0
    injection e1 with e1 e4 e5
    omega
  · rcases ho.sl with ⟨ua, uc, hu2, hL, _⟩ | ⟨b2, off, cap2, hu2, hr⟩
    · rw [hL] at h0; simp at h0
    · injection hu2 with e1 e2 e3
      injection e1 with e1
      injection e1 with e1 e2
      subst e1; subst e2
      exact hr
  · rcases ho.2 with ⟨e1, _⟩ | ⟨g2, cap2, cur, e1, _, hg, _⟩
    · cases e1
    · injection e1 with e1
      injection e1 with e1
      injection e1 with e1
      subst e1
      exact heap_lt hg
theorem litfixed_walk (s : ByteArray) (at_ : Int) (hz : s.size ≤ maxLen) (hr : R at_) (w : World) (he : EnvU w ∧ Env w ∧ EnvT w) :
    Calls Tryz.prog 5 #[.string s, .int .i64 at_] w fun e w' => e = .returned (.bool true) ∧ Below w.heap.size w w' := by
  obtain ⟨hU, hE, hT⟩ := he
  have HA := Lib.hid (lalive18 w hU hE)
  by_cases hs : 1000 < s.size
  · exact fixed_long s at_ hs w HA
  cases hx : lex0 s.data.toList with
  | error x =>
    obtain ⟨ea, na⟩ := x
    exact fixed_lexerr s at_ hs w HA ea na (lex0_err _ ea na hx) (Lib.hid fun W hW => lex_not s (by omega) ea na hx W (hU.below hW))
  | ok L =>
    obtain ⟨hok, hL0, hL1, hLt⟩ := lexed _ L (by rw [bsz]; omega) hx
    have HX : Hid (∀ W, Below w.heap.size w W → Calls Tryz.prog 21 #[.string s] W fun e w' => (∃ g cap, e = .returned (.tuple #[.slice (some ⟨g, 0, none⟩) L.length cap, .int .i64 0, .int .i64 0]) ∧ L.length ≤ cap ∧ TokRow g 0 L w' ∧ g < w'.heap.size) ∧ Below W.heap.size W w') := Lib.hid fun W hW => lex_row18 s (by omega) L hx hL0 W (hU.below hW)
    by_cases hout : at_ < 0 ∨ (L.length : Int) ≤ at_
    · exact fixed_err s at_ hs w HA L L.length HX 0 2 0 2 (by decide) (by decide) (Lib.hid fun W g cap hW _ _ => value_arg _ L.length cap at_ true (by omega) hout W) (Lib.hid fun W g cap hW _ _ => value_arg _ L.length cap at_ false (by omega) hout W)
    obtain ⟨k, hk⟩ : ∃ k : Nat, at_ = (k : Int) := ⟨at_.toNat, by omega⟩
    subst hk
    have hkL : k < L.length := by omega
    have HV : ∀ (b : Bool) W g cap, Below w.heap.size w W → TokRow g 0 L W → g < W.heap.size → Calls Tryz.prog 25 #[.slice (some ⟨g, 0, none⟩) L.length cap, .int .i64 (k : Int), .bool b] W fun x w' => ReadV (litP b L k) (CelG w.heap.size) x w' ∧ Below W.heap.size W w' := fun b W g cap hW hrow hg => by
      refine (value_ok (cap := cap) b W hrow hg ⟨by omega, hLt⟩ hkL (hE.below hW (Nat.le_refl _))).mono ?_
      rintro x w' ⟨h1, h2⟩
      refine ⟨?_, h2⟩
      have hz1 := hW.size
      cases hp : litP b L k with
      | error e => rw [hp] at h1; exact h1
      | ok y =>
        obtain ⟨k', out⟩ := y
        rw [hp] at h1
        obtain ⟨a, n, c, h3, h4⟩ := h1
        exact ⟨a, n, c, h3, h4.1, h4.2.less (by omega)⟩
    have HE : ∀ (b : Bool) (e : ErrP), litP b L k = .error e → ∀ W g cap, Below w.heap.size w W → TokRow g 0 L W → g < W.heap.size → Calls Tryz.prog 25 #[.slice (some ⟨g, 0, none⟩) L.length cap, .int .i64 (k : Int), .bool b] W fun x w' => x = .returned (.tuple #[.slice none 0 0, .int .i64 (e.2 : Int), .int .i64 e.1]) ∧ Below W.heap.size W w' := fun b e hp W g cap hW hrow hg => by
      have := HV b W g cap hW hrow hg
      rw [hp] at this
      exact this
    have HO : ∀ (b : Bool) (m : Nat) (V : List Cel), litP b L k = .ok (m, V) → ∀ W g cap, Below w.heap.size w W → TokRow g 0 L W → g < W.heap.size → Calls Tryz.prog 25 #[.slice (some ⟨g, 0, none⟩) L.length cap, .int .i64 (k : Int), .bool b] W fun x w' => (∃ a nn c, x = .returned (.tuple #[.slice a nn c, .int .i64 (m : Int), .int .i64 0]) ∧ CelG w.heap.size V (.slice a nn c) w') ∧ Below W.heap.size W w' := fun b m V hp W g cap hW hrow hg => by
      have := HV b W g cap hW hrow hg
      rw [hp] at this
      exact this
    cases h2 : litP false L k with
    | error e2 =>
      cases h1 : litP true L k with
      | ok y =>
        obtain ⟨n, v⟩ := y
        have := (lit_fixed L hok k n v h1).1
        rw [h2] at this; cases this
      | error e1 =>
        have p1 := val_pos true L 16 _ _ _ _ h1
        have p2 := val_pos false L 16 _ _ _ _ h2
        exact fixed_err s k hs w HA L L.length HX e1.2 e1.1 e2.2 e2.1 (by omega) (by omega) (Lib.hid (HE true e1 h1)) (Lib.hid (HE false e2 h2))
    | ok y =>
      obtain ⟨m, V⟩ := y
      obtain ⟨hB, hkm, hmL, hsame⟩ := lit_read false L hok k m V h2
      have hmay : mayB V = true := by unfold litB at hB; simp only [Bool.and_eq_true] at hB; exact hB.1
      obtain ⟨hV0, hV1, hV2⟩ := mayB_parts hmay
      have hsm : SmallV V := ⟨by omega, lit_sm false L hLt (by omega) rdV_RK k m V h2⟩
      have HT : Hid (∀ W u, Below w.heap.size w W → CelSl u V W → Calls Tryz.prog 11 #[u] W fun e w' => (∃ u', e = .returned (.tuple #[u', .int .i64 0]) ∧ OwnT W.heap.size u' (tokK 16 V) w') ∧ Below W.heap.size W w') := Lib.hid fun W u hW hu => by
        have := tokens_any V u W hu hsm (hU.below hW) (hT.stays hW)
        unfold toksE toksL at this
        rw [hB] at this
        exact this
      cases h1 : litP true L k with
      | error e1 =>
        have p1 := val_pos true L 16 _ _ _ _ h1
        exact fixed_one s k m hs w HA L (tokK 16 V) V L.length HX e1.2 e1.1 (by omega) hkm hmL rfl hL1 (Lib.hid hsame) (Lib.hid (HE true e1 h1)) (Lib.hid (HO false m V h2)) HT
      | ok z =>
        obtain ⟨n, v⟩ := z
        obtain ⟨q1, q2⟩ := lit_fixed L hok k n v h1
        rw [h2] at q1
        injection q1 with q1
        injection q1 with q1 q3
        subst q1; subst q3
        exact fixed_two s k m hs w HA L (tokK 16 V) V L.length HX hkm hmL rfl hL1 (Lib.hid hsame) (Lib.hid (HO true m V h1)) (Lib.hid (HO false m V h2)) (Lib.hid q2) hV0 hV1 (Lib.hid fun W u v hW hu hv => by
          have := rsame03_any V V u v (by omega) (by omega) W hu hv
          rw [(sameV_iff _ _).2 rfl] at this
          exact this) HT
end Go.Proofs.YtgaknbnhmoddcaaGreatDoor
namespace Go.Proofs.YtgaknbnhmoddcaaGreatDoor
open Go.RowKit Go.WideShapes Go.ChangeShapes
section
variable {H : Type} {enc : TypeId × Value → H} {P : Program}
/-- What 'post_of_same' asks of all addresses is asked here of the old blocks alone. -/
theorem post_below {f : Func} {s : ChangeSpec} {apart fresh handsOn again : Bool} {W W' : World} {args : Array Value} {v : Value} {ds gs : List (DataW H)} {before pa pv : List MemPlace}
    (hW : DataW.Whole enc P f.params.toList s.vars apart W args.toList ds gs before)
    (hres : ∀ (b : Nat) (sp : Nat → Bool) (hd : Bool), DataW.TrodAll enc P W' b sp hd f.resultTypes.toList (v.resultList f.resultTypes.size) (s.fn H (ds ++ gs)).results [])
    (hargs : ∀ sp : Nat → Bool, (∀ p ∈ before, sp p.block = true) → DataW.TrodAll enc P W' 0 sp true f.params.toList args.toList (s.fn H (ds ++ gs)).args pa)
    (hvars : ∀ sp : Nat → Bool, (∀ p ∈ before, sp p.block = true) → DataW.TrodVars enc P W' sp s.vars (s.fn H (ds ++ gs)).vars pv)
    (hps : before = pa ++ pv) (hb : Below W.heap.size W W')
    (hok : ∀ (j : Nat) (t : TypeId) (r : Value), f.resultTypes[j]? = some t → (v.resultList f.resultTypes.size)[j]? = some r → Value.okWide P W' .any 0 t r) :
    s.post enc P f apart fresh handsOn again W args v W' := by
  have old : ∀ p ∈ before, decide (p.block < W.heap.size) = true := fun p hp => decide_eq_true (hW.lt p hp)
  subst hps
  refine ⟨ds, gs, pa ++ pv, [], pa, pv, hW, hres _ _ _, hargs _ old, hvars _ old, World.keptBut_mono (fun p hp => ⟨hp, ?_⟩) (hb.frame (· ∈ pa ++ pv)), fun _ => ?_⟩
  · exact .inr (List.mem_append.1 hp)
  · obtain ⟨_, _, _, _, _, hz, hn⟩ := hW
    refine ⟨hok, _, _, ([] ++ pa) ++ pv, ⟨[] ++ pa, pv, trodAll_append (hargs _ (fun _ _ => rfl)) (hres _ _ _), hvars _ (fun _ _ => rfl), rfl, ?_, ?_⟩, ?_⟩
    · intro b off hp
      have hin : MemPlace.cell b off ∈ pa ++ pv := by simpa using hp
      rw [hb.frozen (of_decide_eq_true (old _ hin))]
      exact hz b off hin
    · intro ha
      simpa using hn ha
    · intro p hp _
      simpa using hp
end
end Go.Proofs.YtgaknbnhmoddcaaGreatDoor
