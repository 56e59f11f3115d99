/- The walk through the program's Write (json): a value, written behind. -/
import Derived.Test.YteapenemnnhonaaDoorJp
import Derived.Test.YteapenemnnhonaaDoorSw
import Derived.Test.YteapenemnnhonaaDoorWw
import Derived.Test.YteapenemnnhonaaDoorLq
import Derived.Test.YteapenemnnhonaaDoorCr
import Derived.Test.YteapenemnnhonaaDoorPn
import Derived.Deep.LoopGhost
import Derived.Laws.EntriesVeiled
set_option linter.unusedSimpArgs false
set_option linter.unusedVariables false
namespace Go.Proofs.YteapenemnnhonaaDoor
open Go.RowKit
theorem Bld.below {B b : Nat} {l : List UInt8} {w w' : World} (h : Bld B b l w) (hb : Below w.heap.size w w') : Bld B b l w' := by
  have key : ∀ p bs, Lib.BuilderAt 37 5 B b p bs w → Lib.BuilderAt 37 5 B b p bs w' := by
    rintro p bs ⟨hB, v, hbk, ⟨h1, h2⟩, hne⟩
    refine ⟨hB, v, (hb.block b (heap_lt hbk)).trans hbk, ⟨h1, ?_⟩, hne⟩
    rcases h2 with h2 | ⟨g, cap, cur, hv, hB, hg, hrest⟩
    · exact Or.inl h2
    · exact Or.inr ⟨g, cap, cur, hv, hB, (hb.block g (heap_lt hg)).trans hg, hrest⟩
  rcases h with h | h
  · exact Or.inl (key _ _ h)
  · exact Or.inr (key _ _ h)
/-- What json.Write's inner function finds: the cells, the builder, itself. -/
structure BJ (w0 : World) (V : List Cel) (b off cap bv bb bn : Nat) (l : List UInt8) (W : World) : Prop where
  hv : W.heap[bv]? = some (.cells #[.slice (some ⟨b, off, none⟩) V.length cap] 22 (0, 0))
  hn : W.heap[bn]? = some (.cells #[.func (.func 10) #[] #[.pointer (some ⟨bv, 0, none⟩), .pointer (some ⟨bb, 0, none⟩), .pointer (some ⟨bn, 0, none⟩)]] 38 (0, 0))
  hb : Bld w0.heap.size bb l W
  bel : Below w0.heap.size w0 W
  lv : w0.heap.size ≤ bv
  lb : w0.heap.size ≤ bb
  ln : w0.heap.size ≤ bn
  nv : bv ≠ bb
  nn : bn ≠ bb
def JK (B bb : Nat) (W W' : World) : Prop := Below B W W' ∧ Lib.OthersKept 5 (some bb) W W'
theorem JK.trans {B bb : Nat} {W W' W'' : World} (h : JK B bb W W') (h' : JK B bb W' W'') : JK B bb W W'' := ⟨h.1.trans h'.1, h.2.trans h'.2⟩
theorem kept_below {bb : Nat} {W W' : World} (h : Below W.heap.size W W') : Lib.OthersKept 5 (some bb) W W' := fun k o hk _ _ => (h.block k (heap_lt hk)).trans hk
theorem JK.of_below {B bb : Nat} {W W' : World} (h : Below W.heap.size W W') (hB : B ≤ W.heap.size) : JK B bb W W' := ⟨h.mono hB, kept_below h⟩
theorem JK.refl (B bb : Nat) (W : World) : JK B bb W W := ⟨Below.refl _ _, Lib.OthersKept.refl _ _ _⟩
section
variable {w0 : World} {V : List Cel} {b off cap bv bb bn : Nat} {l l' : List UInt8} {W W' : World}
theorem BJ.step (h : BJ w0 V b off cap bv bb bn l W) (hb : Bld w0.heap.size bb l' W') (hk : JK w0.heap.size bb W W') : BJ w0 V b off cap bv bb bn l' W' :=
  { h with
    hv := hk.2 _ _ h.hv (fun e => h.nv (Option.some.inj e)) (by intro c fz e; injection e with _ e2; exact absurd e2 (by decide))
    hn := hk.2 _ _ h.hn (fun e => h.nn (Option.some.inj e)) (by intro c fz e; injection e with _ e2; exact absurd e2 (by decide))
    hb := hb
    bel := h.bel.trans hk.1 }
theorem BJ.below (h : BJ w0 V b off cap bv bb bn l W) (hb : Below W.heap.size W W') : BJ w0 V b off cap bv bb bn l W' := h.step (h.hb.below hb) (JK.of_below hb h.bel.size)
end
theorem kept_cel {bb c : Nat} {cs : Array Value} {W W' : World} (hk : Lib.OthersKept 5 (some bb) W W') (h : W.heap[c]? = some (.cells cs 33 (0, 0))) (hne : c ≠ bb) : W'.heap[c]? = some (.cells cs 33 (0, 0)) :=
  hk _ _ h (fun e => hne (Option.some.inj e)) (by intro c fz e; injection e with _ e2; exact absurd e2 (by decide))
/-- What a call of it hands back: the place behind; its JSON stands behind what stood. -/
def JEnd (w0 : World) (V : List Cel) (b off cap bv bb bn : Nat) (l : List UInt8) (n : Int) (W : World) (e : Ending) (W' : World) : Prop := e = .returned (.int .i64 n) ∧ BJ w0 V b off cap bv bb bn l W' ∧ JK w0.heap.size bb W W'
set_option maxRecDepth 100000 in
set_option maxHeartbeats 1000000 in
theorem jw_null (w0 : World) (V : List Cel) (b off cap bv bb bn : Nat) (l : List UInt8) (W : World) (k : Nat) (kk : Nat) (nx tx : ByteArray) (nu mn : Int) (hB : BJ w0 V b off cap bv bb bn l W)
    (hk : k < V.length) (hl : V.length ≤ 2048) (hll : l.length ≤ 80000000)
    (c0 : W.cell? ⟨b, off + k * 5, none⟩ = some (.int .u8 (kk : Int))) (c1 : W.cell? ⟨b, off + k * 5 + 1, none⟩ = some (.string nx)) (c2 : W.cell? ⟨b, off + k * 5 + 2, none⟩ = some (.string tx)) (c3 : W.cell? ⟨b, off + k * 5 + 3, none⟩ = some (.int .i64 nu)) (c4 : W.cell? ⟨b, off + k * 5 + 4, none⟩ = some (.int .i64 mn))
    (h0 : kk = 0)  :
    Calls Tryd.prog 10 #[.int .i64 (k : Int), .pointer (some ⟨bv, 0, none⟩), .pointer (some ⟨bb, 0, none⟩), .pointer (some ⟨bn, 0, none⟩)] W fun e w' => JEnd w0 V b off cap bv bb bn (l ++ [110, 117, 108, 108]) ((k : Int) + 1) W e w' := by
  have v0 : W.cell? ⟨bv, 0, none⟩ = some (.slice (some ⟨b, off, none⟩) V.length cap) := by rw [Lib.cell_of_heap hB.hv]; rfl
  have lbv := heap_lt hB.hv
  have lbb : bb < W.heap.size := by
    rcases hB.hb with h | h
    · obtain ⟨_, v, h, _⟩ := h; exact heap_lt h
    · obtain ⟨_, v, h, _⟩ := h; exact heap_lt h
  have hz0 := hB.bel.size
  have HB := Lib.hid hB
  clear hB
  subst h0
  have hba : Below W.heap.size W (W.alloc (.cells #[.int .u8 ((0 : Nat) : Int), .string nx, .string tx, .int .i64 nu, .int .i64 mn] 33)) := (Below.refl _ _).alloc (Nat.le_refl _) _
  have HBA := Lib.hid (HB.out.below hba)
  have HJA : Hid (JK w0.heap.size bb W (W.alloc (.cells #[.int .u8 ((0 : Nat) : Int), .string nx, .string tx, .int .i64 nu, .int .i64 mn] 33))) := Lib.hid (JK.of_below hba hz0)
  clear hba
  go_enter Tryd.func10, Tryd.ntmps10
  go_wp2_with fail
  refine (wstr w0.heap.size bb l ⟨#[110, 117, 108, 108]⟩ _ HBA.out.hb (by have : (⟨#[110, 117, 108, 108]⟩ : ByteArray).size = 4 := rfl; omega) HBA.out.bel.size).mono ?_; rintro e wx ⟨rfl, hx1, hx2, hx3⟩
  have HFIN : Hid (BJ w0 V b off cap bv bb bn (l ++ [110, 117, 108, 108]) wx ∧ JK w0.heap.size bb W wx) := Lib.hid ⟨HBA.out.step (by simpa using hx1) ⟨hx2, hx3⟩, HJA.out.trans ⟨hx2, hx3⟩⟩
  clear hx1 hx2 hx3
  go_wp2_with fail
  go_ret
  exact ⟨rfl, HFIN.out⟩
set_option maxRecDepth 100000 in
set_option maxHeartbeats 1000000 in
theorem jw_true (w0 : World) (V : List Cel) (b off cap bv bb bn : Nat) (l : List UInt8) (W : World) (k : Nat) (kk : Nat) (nx tx : ByteArray) (nu mn : Int) (hB : BJ w0 V b off cap bv bb bn l W)
    (hk : k < V.length) (hl : V.length ≤ 2048) (hll : l.length ≤ 80000000)
    (c0 : W.cell? ⟨b, off + k * 5, none⟩ = some (.int .u8 (kk : Int))) (c1 : W.cell? ⟨b, off + k * 5 + 1, none⟩ = some (.string nx)) (c2 : W.cell? ⟨b, off + k * 5 + 2, none⟩ = some (.string tx)) (c3 : W.cell? ⟨b, off + k * 5 + 3, none⟩ = some (.int .i64 nu)) (c4 : W.cell? ⟨b, off + k * 5 + 4, none⟩ = some (.int .i64 mn))
    (h0 : kk = 1) (h1 : nu = 1) :
    Calls Tryd.prog 10 #[.int .i64 (k : Int), .pointer (some ⟨bv, 0, none⟩), .pointer (some ⟨bb, 0, none⟩), .pointer (some ⟨bn, 0, none⟩)] W fun e w' => JEnd w0 V b off cap bv bb bn (l ++ [116, 114, 117, 101]) ((k : Int) + 1) W e w' := by
  have v0 : W.cell? ⟨bv, 0, none⟩ = some (.slice (some ⟨b, off, none⟩) V.length cap) := by rw [Lib.cell_of_heap hB.hv]; rfl
  have lbv := heap_lt hB.hv
  have lbb : bb < W.heap.size := by
    rcases hB.hb with h | h
    · obtain ⟨_, v, h, _⟩ := h; exact heap_lt h
    · obtain ⟨_, v, h, _⟩ := h; exact heap_lt h
  have hz0 := hB.bel.size
  have HB := Lib.hid hB
  clear hB
  subst h0
  subst h1
  have ix := fun w : World => (show (Instr.index 43 (.agg #[.string ⟨#[102, 97, 108, 115, 101]⟩, .string ⟨#[116, 114, 117, 101]⟩]) (.int .i64 1)).run Tryd.prog w = .ok (.string ⟨#[116, 114, 117, 101]⟩) w by kernel_rfl)
  have hba : Below W.heap.size W (W.alloc (.cells #[.int .u8 ((1 : Nat) : Int), .string nx, .string tx, .int .i64 1, .int .i64 mn] 33)) := (Below.refl _ _).alloc (Nat.le_refl _) _
  have HBA := Lib.hid (HB.out.below hba)
  have HJA : Hid (JK w0.heap.size bb W (W.alloc (.cells #[.int .u8 ((1 : Nat) : Int), .string nx, .string tx, .int .i64 1, .int .i64 mn] 33))) := Lib.hid (JK.of_below hba hz0)
  clear hba
  go_enter Tryd.func10, Tryd.ntmps10
  go_wp2_with fail
  refine (wstr w0.heap.size bb l ⟨#[116, 114, 117, 101]⟩ _ HBA.out.hb (by have : (⟨#[116, 114, 117, 101]⟩ : ByteArray).size = 4 := rfl; omega) HBA.out.bel.size).mono ?_; rintro e wx ⟨rfl, hx1, hx2, hx3⟩
  have HFIN : Hid (BJ w0 V b off cap bv bb bn (l ++ [116, 114, 117, 101]) wx ∧ JK w0.heap.size bb W wx) := Lib.hid ⟨HBA.out.step (by simpa using hx1) ⟨hx2, hx3⟩, HJA.out.trans ⟨hx2, hx3⟩⟩
  clear hx1 hx2 hx3
  go_wp2_with fail
  go_ret
  exact ⟨rfl, HFIN.out⟩
set_option maxRecDepth 100000 in
set_option maxHeartbeats 1000000 in
theorem jw_false (w0 : World) (V : List Cel) (b off cap bv bb bn : Nat) (l : List UInt8) (W : World) (k : Nat) (kk : Nat) (nx tx : ByteArray) (nu mn : Int) (hB : BJ w0 V b off cap bv bb bn l W)
    (hk : k < V.length) (hl : V.length ≤ 2048) (hll : l.length ≤ 80000000)
    (c0 : W.cell? ⟨b, off + k * 5, none⟩ = some (.int .u8 (kk : Int))) (c1 : W.cell? ⟨b, off + k * 5 + 1, none⟩ = some (.string nx)) (c2 : W.cell? ⟨b, off + k * 5 + 2, none⟩ = some (.string tx)) (c3 : W.cell? ⟨b, off + k * 5 + 3, none⟩ = some (.int .i64 nu)) (c4 : W.cell? ⟨b, off + k * 5 + 4, none⟩ = some (.int .i64 mn))
    (h0 : kk = 1) (h1 : nu = 0) :
    Calls Tryd.prog 10 #[.int .i64 (k : Int), .pointer (some ⟨bv, 0, none⟩), .pointer (some ⟨bb, 0, none⟩), .pointer (some ⟨bn, 0, none⟩)] W fun e w' => JEnd w0 V b off cap bv bb bn (l ++ [102, 97, 108, 115, 101]) ((k : Int) + 1) W e w' := by
  have v0 : W.cell? ⟨bv, 0, none⟩ = some (.slice (some ⟨b, off, none⟩) V.length cap) := by rw [Lib.cell_of_heap hB.hv]; rfl
  have lbv := heap_lt hB.hv
  have lbb : bb < W.heap.size := by
    rcases hB.hb with h | h
    · obtain ⟨_, v, h, _⟩ := h; exact heap_lt h
    · obtain ⟨_, v, h, _⟩ := h; exact heap_lt h
  have hz0 := hB.bel.size
  have HB := Lib.hid hB
  clear hB
  subst h0
  subst h1
  have ix := fun w : World => (show (Instr.index 43 (.agg #[.string ⟨#[102, 97, 108, 115, 101]⟩, .string ⟨#[116, 114, 117, 101]⟩]) (.int .i64 0)).run Tryd.prog w = .ok (.string ⟨#[102, 97, 108, 115, 101]⟩) w by kernel_rfl)
  have hba : Below W.heap.size W (W.alloc (.cells #[.int .u8 ((1 : Nat) : Int), .string nx, .string tx, .int .i64 0, .int .i64 mn] 33)) := (Below.refl _ _).alloc (Nat.le_refl _) _
  have HBA := Lib.hid (HB.out.below hba)
  have HJA : Hid (JK w0.heap.size bb W (W.alloc (.cells #[.int .u8 ((1 : Nat) : Int), .string nx, .string tx, .int .i64 0, .int .i64 mn] 33))) := Lib.hid (JK.of_below hba hz0)
  clear hba
  go_enter Tryd.func10, Tryd.ntmps10
  go_wp2_with fail
  refine (wstr w0.heap.size bb l ⟨#[102, 97, 108, 115, 101]⟩ _ HBA.out.hb (by have : (⟨#[102, 97, 108, 115, 101]⟩ : ByteArray).size = 5 := rfl; omega) HBA.out.bel.size).mono ?_; rintro e wx ⟨rfl, hx1, hx2, hx3⟩
  have HFIN : Hid (BJ w0 V b off cap bv bb bn (l ++ [102, 97, 108, 115, 101]) wx ∧ JK w0.heap.size bb W wx) := Lib.hid ⟨HBA.out.step (by simpa using hx1) ⟨hx2, hx3⟩, HJA.out.trans ⟨hx2, hx3⟩⟩
  clear hx1 hx2 hx3
  go_wp2_with fail
  go_ret
  exact ⟨rfl, HFIN.out⟩
set_option maxRecDepth 100000 in
set_option maxHeartbeats 1000000 in
theorem jw_int (w0 : World) (V : List Cel) (b off cap bv bb bn : Nat) (l : List UInt8) (W : World) (k : Nat) (kk : Nat) (nx tx : ByteArray) (nu mn : Int) (hB : BJ w0 V b off cap bv bb bn l W)
    (hk : k < V.length) (hl : V.length ≤ 2048) (hll : l.length ≤ 80000000)
    (c0 : W.cell? ⟨b, off + k * 5, none⟩ = some (.int .u8 (kk : Int))) (c1 : W.cell? ⟨b, off + k * 5 + 1, none⟩ = some (.string nx)) (c2 : W.cell? ⟨b, off + k * 5 + 2, none⟩ = some (.string tx)) (c3 : W.cell? ⟨b, off + k * 5 + 3, none⟩ = some (.int .i64 nu)) (c4 : W.cell? ⟨b, off + k * 5 + 4, none⟩ = some (.int .i64 mn))
    (h0 : kk = 2) (q : List UInt8) (hq : q.length ≤ 20000)
    (HQ : Hid (∀ W' : World, Below w0.heap.size w0 W' → Calls Tryd.prog 12 #[.int .i64 nu] W' fun e w' => e = .returned (.string ⟨q.toArray⟩) ∧ Below W'.heap.size W' w')) :
    Calls Tryd.prog 10 #[.int .i64 (k : Int), .pointer (some ⟨bv, 0, none⟩), .pointer (some ⟨bb, 0, none⟩), .pointer (some ⟨bn, 0, none⟩)] W fun e w' => JEnd w0 V b off cap bv bb bn (l ++ q) ((k : Int) + 1) W e w' := by
  have v0 : W.cell? ⟨bv, 0, none⟩ = some (.slice (some ⟨b, off, none⟩) V.length cap) := by rw [Lib.cell_of_heap hB.hv]; rfl
  have lbv := heap_lt hB.hv
  have lbb : bb < W.heap.size := by
    rcases hB.hb with h | h
    · obtain ⟨_, v, h, _⟩ := h; exact heap_lt h
    · obtain ⟨_, v, h, _⟩ := h; exact heap_lt h
  have hz0 := hB.bel.size
  have HB := Lib.hid hB
  clear hB
  subst h0
  have hba : Below W.heap.size W (W.alloc (.cells #[.int .u8 ((2 : Nat) : Int), .string nx, .string tx, .int .i64 nu, .int .i64 mn] 33)) := (Below.refl _ _).alloc (Nat.le_refl _) _
  have HBA := Lib.hid (HB.out.below hba)
  have HJA : Hid (JK w0.heap.size bb W (W.alloc (.cells #[.int .u8 ((2 : Nat) : Int), .string nx, .string tx, .int .i64 nu, .int .i64 mn] 33))) := Lib.hid (JK.of_below hba hz0)
  clear hba
  go_enter Tryd.func10, Tryd.ntmps10
  go_wp2_with fail
  refine (HQ.out _ HBA.out.bel).mono ?_; rintro e w1 ⟨rfl, hb1⟩
  have HB1 := Lib.hid (HBA.out.below hb1)
  have HJ1 : Hid (JK w0.heap.size bb W w1) := Lib.hid (HJA.out.trans (JK.of_below hb1 HBA.out.bel.size))
  clear hb1
  go_wp2_with fail
  refine (wstr w0.heap.size bb l ⟨q.toArray⟩ _ HB1.out.hb (by have : (⟨q.toArray⟩ : ByteArray).size = q.length := (by show q.toArray.size = _; simp); omega) HB1.out.bel.size).mono ?_; rintro e wx ⟨rfl, hx1, hx2, hx3⟩
  have HFIN : Hid (BJ w0 V b off cap bv bb bn (l ++ q) wx ∧ JK w0.heap.size bb W wx) := Lib.hid ⟨HB1.out.step (by simpa using hx1) ⟨hx2, hx3⟩, HJ1.out.trans ⟨hx2, hx3⟩⟩
  clear hx1 hx2 hx3
  go_wp2_with fail
  go_ret
  exact ⟨rfl, HFIN.out⟩
set_option maxRecDepth 100000 in
set_option maxHeartbeats 1000000 in
theorem jw_text (w0 : World) (V : List Cel) (b off cap bv bb bn : Nat) (l : List UInt8) (W : World) (k : Nat) (kk : Nat) (nx tx : ByteArray) (nu mn : Int) (hB : BJ w0 V b off cap bv bb bn l W)
    (hk : k < V.length) (hl : V.length ≤ 2048) (hll : l.length ≤ 80000000)
    (c0 : W.cell? ⟨b, off + k * 5, none⟩ = some (.int .u8 (kk : Int))) (c1 : W.cell? ⟨b, off + k * 5 + 1, none⟩ = some (.string nx)) (c2 : W.cell? ⟨b, off + k * 5 + 2, none⟩ = some (.string tx)) (c3 : W.cell? ⟨b, off + k * 5 + 3, none⟩ = some (.int .i64 nu)) (c4 : W.cell? ⟨b, off + k * 5 + 4, none⟩ = some (.int .i64 mn))
    (h0 : kk = 3) (q : List UInt8) (hq : q.length ≤ 20000)
    (HQ : Hid (∀ W' : World, Below w0.heap.size w0 W' → Calls Tryd.prog 13 #[.string tx] W' fun e w' => e = .returned (.string ⟨q.toArray⟩) ∧ Below W'.heap.size W' w')) :
    Calls Tryd.prog 10 #[.int .i64 (k : Int), .pointer (some ⟨bv, 0, none⟩), .pointer (some ⟨bb, 0, none⟩), .pointer (some ⟨bn, 0, none⟩)] W fun e w' => JEnd w0 V b off cap bv bb bn (l ++ q) ((k : Int) + 1) W e w' := by
  have v0 : W.cell? ⟨bv, 0, none⟩ = some (.slice (some ⟨b, off, none⟩) V.length cap) := by rw [Lib.cell_of_heap hB.hv]; rfl
  have lbv := heap_lt hB.hv
  have lbb : bb < W.heap.size := by
    rcases hB.hb with h | h
    · obtain ⟨_, v, h, _⟩ := h; exact heap_lt h
    · obtain ⟨_, v, h, _⟩ := h; exact heap_lt h
  have hz0 := hB.bel.size
  have HB := Lib.hid hB
  clear hB
  subst h0
  have hba : Below W.heap.size W (W.alloc (.cells #[.int .u8 ((3 : Nat) : Int), .string nx, .string tx, .int .i64 nu, .int .i64 mn] 33)) := (Below.refl _ _).alloc (Nat.le_refl _) _
  have HBA := Lib.hid (HB.out.below hba)
  have HJA : Hid (JK w0.heap.size bb W (W.alloc (.cells #[.int .u8 ((3 : Nat) : Int), .string nx, .string tx, .int .i64 nu, .int .i64 mn] 33))) := Lib.hid (JK.of_below hba hz0)
  clear hba
  go_enter Tryd.func10, Tryd.ntmps10
  go_wp2_with fail
  refine (HQ.out _ HBA.out.bel).mono ?_; rintro e w1 ⟨rfl, hb1⟩
  have HB1 := Lib.hid (HBA.out.below hb1)
  have HJ1 : Hid (JK w0.heap.size bb W w1) := Lib.hid (HJA.out.trans (JK.of_below hb1 HBA.out.bel.size))
  clear hb1
  go_wp2_with fail
  refine (wstr w0.heap.size bb l ⟨q.toArray⟩ _ HB1.out.hb (by have : (⟨q.toArray⟩ : ByteArray).size = q.length := (by show q.toArray.size = _; simp); omega) HB1.out.bel.size).mono ?_; rintro e wx ⟨rfl, hx1, hx2, hx3⟩
  have HFIN : Hid (BJ w0 V b off cap bv bb bn (l ++ q) wx ∧ JK w0.heap.size bb W wx) := Lib.hid ⟨HB1.out.step (by simpa using hx1) ⟨hx2, hx3⟩, HJ1.out.trans ⟨hx2, hx3⟩⟩
  clear hx1 hx2 hx3
  go_wp2_with fail
  go_ret
  exact ⟨rfl, HFIN.out⟩
set_option maxRecDepth 100000 in
set_option maxHeartbeats 1000000 in
theorem jw_list (w0 : World) (V : List Cel) (b off cap bv bb bn : Nat) (l : List UInt8) (W : World) (k : Nat) (kk : Nat) (nx tx : ByteArray) (nu : Int) (m : Nat) (hB : BJ w0 V b off cap bv bb bn l W)
    (hk : k < V.length) (hl : V.length ≤ 2048) (hll : l.length ≤ 80000000)
    (c0 : W.cell? ⟨b, off + k * 5, none⟩ = some (.int .u8 (kk : Int))) (c1 : W.cell? ⟨b, off + k * 5 + 1, none⟩ = some (.string nx)) (c2 : W.cell? ⟨b, off + k * 5 + 2, none⟩ = some (.string tx)) (c3 : W.cell? ⟨b, off + k * 5 + 3, none⟩ = some (.int .i64 nu)) (c4 : W.cell? ⟨b, off + k * 5 + 4, none⟩ = some (.int .i64 (m : Int)))
    (t0 : ((kk : Int) == 0) = false) (t1 : ((kk : Int) == 1) = false) (t2 : ((kk : Int) == 2) = false) (t3 : ((kk : Int) == 3) = false) (t7 : ((kk : Int) == 7) = false)
    (hmx : (m : Int) ≤ 9223372036854775807) (HROW : Hid (CelRow b off V w0)) (hbl : b < w0.heap.size) (HSM : Hid (ShortV V)) (d1 n : Nat) (nm0 : List (List UInt8)) (hkids : KS V d1 k true (some n) m [] 0) (hroom : l.length + 20000 * (n + 2) ≤ 80000000)
    (HTL : Hid (∀ (p n1 : Nat), valN d1 (V.drop p) = some n1 → (textJ d1 (V.drop p)).length + 1804 ≤ 20000 * n1))
    (HQQ : Hid (∀ (W' : World) (x : ByteArray), x.size ≤ 100000 → Calls Tryd.prog 13 #[.string x] W' fun e w' => e = .returned (.string ⟨(quoteL x.data.toList).toArray⟩) ∧ Below W'.heap.size W' w'))
    (HIH : Hid (∀ (W' : World) (l' : List UInt8) (p n1 : Nat), p < V.length → valN d1 (V.drop p) = some n1 → l'.length + 20000 * (n1 + 1) ≤ 80000000 → BJ w0 V b off cap bv bb bn l' W' → Calls Tryd.prog 10 #[.int .i64 (p : Int), .pointer (some ⟨bv, 0, none⟩), .pointer (some ⟨bb, 0, none⟩), .pointer (some ⟨bn, 0, none⟩)] W' fun e w' => JEnd w0 V b off cap bv bb bn (l' ++ textJ d1 (V.drop p)) ((p + n1 : Nat) : Int) W' e w')) :
    Calls Tryd.prog 10 #[.int .i64 (k : Int), .pointer (some ⟨bv, 0, none⟩), .pointer (some ⟨bb, 0, none⟩), .pointer (some ⟨bn, 0, none⟩)] W fun e w' => JEnd w0 V b off cap bv bb bn (l ++ ([91] ++ (kidsJ (valN d1) (textJ d1) false m true (V.drop (k + 1)) ++ [93]))) (((k + 1 + n : Nat) : Int)) W e w' := by
  have v0 : W.cell? ⟨bv, 0, none⟩ = some (.slice (some ⟨b, off, none⟩) V.length cap) := by rw [Lib.cell_of_heap hB.hv]; rfl
  have lbv := heap_lt hB.hv
  have lbb : bb < W.heap.size := by
    rcases hB.hb with h | h
    · obtain ⟨_, v, h, _⟩ := h; exact heap_lt h
    · obtain ⟨_, v, h, _⟩ := h; exact heap_lt h
  have hz0 := hB.bel.size
  have HB := Lib.hid hB
  clear hB
  have HK0 := Lib.hid hkids
  have HROOM := Lib.hid hroom
  clear hroom
  obtain ⟨R, hR⟩ : ∃ R, l ++ ([91] ++ (kidsJ (valN d1) (textJ d1) false m true (V.drop (k + 1)) ++ [93])) = R := ⟨_, rfl⟩
  have HR0 : Hid ((l ++ [91]) ++ (kidsJ (valN d1) (textJ d1) false m (decide (0 = 0)) (V.drop (k + 1 + 0)) ++ [93]) = R) := Lib.hid (by rw [← hR]; simp)
  rw [hR]
  obtain ⟨K, hK⟩ : ∃ K, k + 1 + n = K := ⟨_, rfl⟩
  have HK := Lib.hid hK
  rw [hK]
  clear hR hK hkids
  have hba : Below W.heap.size W (W.alloc (.cells #[.int .u8 (kk : Int), .string nx, .string tx, .int .i64 nu, .int .i64 (m : Int)] 33)) := (Below.refl _ _).alloc (Nat.le_refl _) _
  have HBA := Lib.hid (HB.out.below hba)
  have HJA : Hid (JK w0.heap.size bb W (W.alloc (.cells #[.int .u8 (kk : Int), .string nx, .string tx, .int .i64 nu, .int .i64 (m : Int)] 33))) := Lib.hid (JK.of_below hba hz0)
  clear hba
  go_enter Tryd.func10, Tryd.ntmps10
  go_wp2_with fail
  refine (wbyte w0.heap.size bb l 91 91 rfl _ HBA.out.hb (by omega) HBA.out.bel.size).mono ?_; rintro e w1 ⟨rfl, hx1, hx2, hx3⟩
  have HB1 := Lib.hid (HBA.out.step hx1 ⟨hx2, hx3⟩)
  have HJ1 : Hid (JK w0.heap.size bb W w1) := Lib.hid (HJA.out.trans ⟨hx2, hx3⟩)
  have hc1 : w1.heap[W.heap.size]? = some (.cells #[.int .u8 (kk : Int), .string nx, .string tx, .int .i64 nu, .int .i64 (m : Int)] 33 (0, 0)) := kept_cel hx3 (heap_alloc_new W _) (by omega)
  have m4 : w1.cell? ⟨W.heap.size, 4, none⟩ = some (.int .i64 (m : Int)) := by rw [Lib.cell_of_heap hc1]; rfl
  have HC1 := Lib.hid hc1
  clear hx1 hx2 hx3 hc1
  go_wp2_with fail
  clear m4
  have hcb : W.heap.size ≠ bb := by omega
  generalize W.heap.size = cb at *
  go_loopg [0, 25] m (fun gk at_ ct wr => ∃ (j p u : Nat) (nm : List (List UInt8)) (L : List UInt8), at_ = .int .i64 (p : Int) ∧ ct = .int .i64 j ∧ (gk + j ≤ m ∧ m ≤ gk + j) ∧ p ≤ V.length ∧ Hid (p = k + 1 + u) ∧ j ≤ u ∧ Hid (L.length ≤ l.length + 1 + 20000 * u ∧ u ≤ n) ∧ Hid (KS V d1 k true (some n) gk nm u) ∧ Hid (L ++ (kidsJ (valN d1) (textJ d1) false gk (decide (j = 0)) (V.drop p) ++ [93]) = R) ∧ Hid (BJ w0 V b off cap bv bb bn L wr) ∧ Hid (JK w0.heap.size bb W wr) ∧ Hid (wr.heap[cb]? = some (.cells #[.int .u8 (kk : Int), .string nx, .string tx, .int .i64 nu, .int .i64 (m : Int)] 33 (0, 0))))
  case atStart => exact ⟨0, k + 1, 0, [], l ++ [91], by go_num, rfl, ⟨by omega, by omega⟩, by omega, Lib.hid rfl, Nat.le_refl _, Lib.hid ⟨by simp, Nat.zero_le _⟩, HK0, HR0, HB1, HJ1, HC1⟩
  case round =>
    rename World => wr
    obtain ⟨j, p, u, nm, L, rfl, rfl, ⟨hj, hj'⟩, hp, HPU, hju, HLEN, HKS, HRR, HBr, HJr, HCr⟩ := hrel
    have e0 : wr.cell? ⟨cb, 0, none⟩ = some (.int .u8 (kk : Int)) := by rw [Lib.cell_of_heap HCr.out]; rfl
    have hLL : L.length ≤ 80000000 := by have z1 := HROOM.out; have z2 := HLEN.out.1; have z3 := HLEN.out.2; omega
    by_cases hg0 : gk = 0
    · subst hg0
      have hdone := HKS.out.done
      have hjn : ¬ j < m := by omega
      clear hj hj' hju
      have hu : u = n := (Option.some.inj hdone).symm
      have HPK : Hid (p = K) := Lib.hid (by rw [HPU.out, hu]; exact HK.out)
      have HF : Hid (L ++ [93] = R) := Lib.hid (by have := HRR.out; rw [show kidsJ (valN d1) (textJ d1) false 0 (decide (j = 0)) (V.drop p) = [] from rfl] at this; exact this)
      clear hdone hu
      go_wp2_with fail
      refine (wbyte w0.heap.size bb L 93 93 rfl _ HBr.out.hb (by omega) HBr.out.bel.size).mono ?_; rintro e wx ⟨rfl, hx1, hx2, hx3⟩
      have HFIN : Hid (JEnd w0 V b off cap bv bb bn R (K : Int) W (.returned (.int .i64 (p : Int))) wx) := Lib.hid (by
        rw [← HF.out, HPK.out]
        exact ⟨rfl, HBr.out.step hx1 ⟨hx2, hx3⟩, HJr.out.trans ⟨hx2, hx3⟩⟩)
      clear hx1 hx2 hx3
      go_wp2_with fail
      go_ret
      exact HFIN.out
    · obtain ⟨g1, rfl⟩ : ∃ g1, gk = g1 + 1 := ⟨gk - 1, by omega⟩
      have hjm : j < m := by omega
      clear hg0
      obtain ⟨hpl, n1, hv1, hks⟩ := HKS.out.step HPU.out
      have hn1 := (valN_le _ _ _ hv1).1
      have hn2 := (valN_le _ _ _ hv1).2
      have hun1 : u + n1 ≤ n := by
        have := hks
        unfold KS at this
        obtain ⟨x, _, hx⟩ := Option.map_eq_some_iff.1 this
        omega
      rw [List.length_drop] at hn2
      have HT1 := Lib.hid (HTL.out p n1 hv1)
      have HUN := Lib.hid hun1
      clear hun1
      have hrr := HRR.out
      rw [kidsJ, hv1, Option.getD_some, List.drop_drop] at hrr
      have HI : Hid (∀ (W' : World) (l' : List UInt8), l'.length + 20000 * (n1 + 1) ≤ 80000000 → BJ w0 V b off cap bv bb bn l' W' → Calls Tryd.prog 10 #[.int .i64 (p : Int), .pointer (some ⟨bv, 0, none⟩), .pointer (some ⟨bb, 0, none⟩), .pointer (some ⟨bn, 0, none⟩)] W' fun e w' => JEnd w0 V b off cap bv bb bn (l' ++ textJ d1 (V.drop p)) ((p + n1 : Nat) : Int) W' e w') := Lib.hid fun W' l' h1 h2 => HIH.out W' l' p n1 hpl hv1 h1 h2
      obtain ⟨p2, hp2⟩ : ∃ p2, p + n1 = p2 := ⟨_, rfl⟩
      have HP2 : Hid (p2 = k + 1 + (u + n1)) := Lib.hid (by rw [← hp2, HPU.out]; omega)
      have hp3 : p2 ≤ V.length := by omega
      have HKS2 := Lib.hid hks
      rw [hp2] at HI hrr
      generalize textJ d1 (V.drop p) = tj at *
      by_cases hj0 : j = 0
      · have hj1 : ¬ 0 < j := by omega
        have hj2 : decide (0 < j) = false := decide_eq_false hj1
        unfold preJ at hrr
        have HRX : Hid (((L) ++ tj) ++ (kidsJ (valN d1) (textJ d1) false g1 (decide (j + 1 = 0)) (V.drop p2) ++ [93]) = R) := Lib.hid (by
          rw [show decide (j + 1 = 0) = false from decide_eq_false (by omega), ← hrr, decide_eq_true hj0]
          simp)
        clear hrr hj0
        have q0 : wr.cell? ⟨bn, 0, none⟩ = some (.func (.func 10) #[] #[.pointer (some ⟨bv, 0, none⟩), .pointer (some ⟨bb, 0, none⟩), .pointer (some ⟨bn, 0, none⟩)]) := by rw [Lib.cell_of_heap HBr.out.hn]; rfl
        go_wp2_with fail
        refine (HI.out _ (L) (by have z1 := HROOM.out; have z2 := HLEN.out.1; have z3 := HLEN.out.2; have z4 := HT1.out; have z5 := HUN.out; (try simp only [List.length_append, List.length_cons, List.length_nil]); omega) HBr.out).mono ?_; rintro e w6 ⟨rfl, hB6, hJ6⟩
        have HB6 := Lib.hid hB6
        have HJ6 := Lib.hid (HJr.out.trans hJ6)
        have HC6 := Lib.hid (kept_cel hJ6.2 HCr.out hcb)
        clear hB6 hJ6 q0
        go_wp2_with fail
        go_roundg g1
        case measure => omega
        case rel => exact ⟨j + 1, p2, u + n1, _, (L) ++ tj, rfl, by go_num, ⟨by omega, by omega⟩, hp3, HP2, by omega, Lib.hid ⟨by have z1 := HROOM.out; have z2 := HLEN.out.1; have z3 := HLEN.out.2; have z4 := HT1.out; have z5 := HUN.out; (try simp only [List.length_append, List.length_cons, List.length_nil]); omega, HUN.out⟩, HKS2, HRX, HB6, HJ6, HC6⟩
      · have hj1 : 0 < j := by omega
        have hj2 : decide (0 < j) = true := decide_eq_true hj1
        unfold preJ at hrr
        have HRX : Hid (((L ++ [44]) ++ tj) ++ (kidsJ (valN d1) (textJ d1) false g1 (decide (j + 1 = 0)) (V.drop p2) ++ [93]) = R) := Lib.hid (by
          rw [show decide (j + 1 = 0) = false from decide_eq_false (by omega), ← hrr, decide_eq_false hj0]
          simp)
        clear hrr hj0
        go_wp2_with fail
        refine (wbyte w0.heap.size bb L 44 44 rfl _ HBr.out.hb (by omega) HBr.out.bel.size).mono ?_; rintro e w3 ⟨rfl, hx1, hx2, hx3⟩
        have HB3 := Lib.hid (HBr.out.step hx1 ⟨hx2, hx3⟩)
        have HJ3 := Lib.hid (HJr.out.trans ⟨hx2, hx3⟩)
        have HC3 := Lib.hid (kept_cel hx3 HCr.out hcb)
        clear hx1 hx2 hx3 e0
        have e0 : w3.cell? ⟨cb, 0, none⟩ = some (.int .u8 (kk : Int)) := by rw [Lib.cell_of_heap HC3.out]; rfl
        have q0 : w3.cell? ⟨bn, 0, none⟩ = some (.func (.func 10) #[] #[.pointer (some ⟨bv, 0, none⟩), .pointer (some ⟨bb, 0, none⟩), .pointer (some ⟨bn, 0, none⟩)]) := by rw [Lib.cell_of_heap HB3.out.hn]; rfl
        go_wp2_with fail
        refine (HI.out _ (L ++ [44]) (by have z1 := HROOM.out; have z2 := HLEN.out.1; have z3 := HLEN.out.2; have z4 := HT1.out; have z5 := HUN.out; (try simp only [List.length_append, List.length_cons, List.length_nil]); omega) HB3.out).mono ?_; rintro e w6 ⟨rfl, hB6, hJ6⟩
        have HB6 := Lib.hid hB6
        have HJ6 := Lib.hid (HJ3.out.trans hJ6)
        have HC6 := Lib.hid (kept_cel hJ6.2 HC3.out hcb)
        clear hB6 hJ6 q0
        go_wp2_with fail
        go_roundg g1
        case measure => omega
        case rel => exact ⟨j + 1, p2, u + n1, _, (L ++ [44]) ++ tj, rfl, by go_num, ⟨by omega, by omega⟩, hp3, HP2, by omega, Lib.hid ⟨by have z1 := HROOM.out; have z2 := HLEN.out.1; have z3 := HLEN.out.2; have z4 := HT1.out; have z5 := HUN.out; (try simp only [List.length_append, List.length_cons, List.length_nil]); omega, HUN.out⟩, HKS2, HRX, HB6, HJ6, HC6⟩
set_option maxRecDepth 100000 in
set_option maxHeartbeats 1000000 in
theorem jw_obj (w0 : World) (V : List Cel) (b off cap bv bb bn : Nat) (l : List UInt8) (W : World) (k : Nat) (kk : Nat) (nx tx : ByteArray) (nu : Int) (m : Nat) (hB : BJ w0 V b off cap bv bb bn l W)
    (hk : k < V.length) (hl : V.length ≤ 2048) (hll : l.length ≤ 80000000)
    (c0 : W.cell? ⟨b, off + k * 5, none⟩ = some (.int .u8 (kk : Int))) (c1 : W.cell? ⟨b, off + k * 5 + 1, none⟩ = some (.string nx)) (c2 : W.cell? ⟨b, off + k * 5 + 2, none⟩ = some (.string tx)) (c3 : W.cell? ⟨b, off + k * 5 + 3, none⟩ = some (.int .i64 nu)) (c4 : W.cell? ⟨b, off + k * 5 + 4, none⟩ = some (.int .i64 (m : Int)))
    (t0 : ((kk : Int) == 0) = false) (t1 : ((kk : Int) == 1) = false) (t2 : ((kk : Int) == 2) = false) (t3 : ((kk : Int) == 3) = false) (t7 : ((kk : Int) == 7) = true)
    (hmx : (m : Int) ≤ 9223372036854775807) (HROW : Hid (CelRow b off V w0)) (hbl : b < w0.heap.size) (HSM : Hid (ShortV V)) (d1 n : Nat) (nm0 : List (List UInt8)) (hkids : KS V d1 k false (some n) m [] 0) (hroom : l.length + 20000 * (n + 2) ≤ 80000000)
    (HTL : Hid (∀ (p n1 : Nat), valN d1 (V.drop p) = some n1 → (textJ d1 (V.drop p)).length + 1804 ≤ 20000 * n1))
    (HQQ : Hid (∀ (W' : World) (x : ByteArray), x.size ≤ 100000 → Calls Tryd.prog 13 #[.string x] W' fun e w' => e = .returned (.string ⟨(quoteL x.data.toList).toArray⟩) ∧ Below W'.heap.size W' w'))
    (HIH : Hid (∀ (W' : World) (l' : List UInt8) (p n1 : Nat), p < V.length → valN d1 (V.drop p) = some n1 → l'.length + 20000 * (n1 + 1) ≤ 80000000 → BJ w0 V b off cap bv bb bn l' W' → Calls Tryd.prog 10 #[.int .i64 (p : Int), .pointer (some ⟨bv, 0, none⟩), .pointer (some ⟨bb, 0, none⟩), .pointer (some ⟨bn, 0, none⟩)] W' fun e w' => JEnd w0 V b off cap bv bb bn (l' ++ textJ d1 (V.drop p)) ((p + n1 : Nat) : Int) W' e w')) :
    Calls Tryd.prog 10 #[.int .i64 (k : Int), .pointer (some ⟨bv, 0, none⟩), .pointer (some ⟨bb, 0, none⟩), .pointer (some ⟨bn, 0, none⟩)] W fun e w' => JEnd w0 V b off cap bv bb bn (l ++ ([123] ++ (kidsJ (valN d1) (textJ d1) true m true (V.drop (k + 1)) ++ [125]))) (((k + 1 + n : Nat) : Int)) W e w' := by
  have v0 : W.cell? ⟨bv, 0, none⟩ = some (.slice (some ⟨b, off, none⟩) V.length cap) := by rw [Lib.cell_of_heap hB.hv]; rfl
  have lbv := heap_lt hB.hv
  have lbb : bb < W.heap.size := by
    rcases hB.hb with h | h
    · obtain ⟨_, v, h, _⟩ := h; exact heap_lt h
    · obtain ⟨_, v, h, _⟩ := h; exact heap_lt h
  have hz0 := hB.bel.size
  have HB := Lib.hid hB
  clear hB
  have HK0 := Lib.hid hkids
  have HROOM := Lib.hid hroom
  clear hroom
  obtain ⟨R, hR⟩ : ∃ R, l ++ ([123] ++ (kidsJ (valN d1) (textJ d1) true m true (V.drop (k + 1)) ++ [125])) = R := ⟨_, rfl⟩
  have HR0 : Hid ((l ++ [123]) ++ (kidsJ (valN d1) (textJ d1) true m (decide (0 = 0)) (V.drop (k + 1 + 0)) ++ [125]) = R) := Lib.hid (by rw [← hR]; simp)
  rw [hR]
  obtain ⟨K, hK⟩ : ∃ K, k + 1 + n = K := ⟨_, rfl⟩
  have HK := Lib.hid hK
  rw [hK]
  clear hR hK hkids
  have hba : Below W.heap.size W (W.alloc (.cells #[.int .u8 (kk : Int), .string nx, .string tx, .int .i64 nu, .int .i64 (m : Int)] 33)) := (Below.refl _ _).alloc (Nat.le_refl _) _
  have HBA := Lib.hid (HB.out.below hba)
  have HJA : Hid (JK w0.heap.size bb W (W.alloc (.cells #[.int .u8 (kk : Int), .string nx, .string tx, .int .i64 nu, .int .i64 (m : Int)] 33))) := Lib.hid (JK.of_below hba hz0)
  clear hba
  go_enter Tryd.func10, Tryd.ntmps10
  go_wp2_with fail
  refine (wbyte w0.heap.size bb l 123 123 rfl _ HBA.out.hb (by omega) HBA.out.bel.size).mono ?_; rintro e w1 ⟨rfl, hx1, hx2, hx3⟩
  have HB1 := Lib.hid (HBA.out.step hx1 ⟨hx2, hx3⟩)
  have HJ1 : Hid (JK w0.heap.size bb W w1) := Lib.hid (HJA.out.trans ⟨hx2, hx3⟩)
  have hc1 : w1.heap[W.heap.size]? = some (.cells #[.int .u8 (kk : Int), .string nx, .string tx, .int .i64 nu, .int .i64 (m : Int)] 33 (0, 0)) := kept_cel hx3 (heap_alloc_new W _) (by omega)
  have m4 : w1.cell? ⟨W.heap.size, 4, none⟩ = some (.int .i64 (m : Int)) := by rw [Lib.cell_of_heap hc1]; rfl
  have HC1 := Lib.hid hc1
  clear hx1 hx2 hx3 hc1
  go_wp2_with fail
  clear m4
  have hcb : W.heap.size ≠ bb := by omega
  generalize W.heap.size = cb at *
  go_loopg [0, 25] m (fun gk at_ ct wr => ∃ (j p u : Nat) (nm : List (List UInt8)) (L : List UInt8), at_ = .int .i64 (p : Int) ∧ ct = .int .i64 j ∧ (gk + j ≤ m ∧ m ≤ gk + j) ∧ p ≤ V.length ∧ Hid (p = k + 1 + u) ∧ j ≤ u ∧ Hid (L.length ≤ l.length + 1 + 20000 * u ∧ u ≤ n) ∧ Hid (KS V d1 k false (some n) gk nm u) ∧ Hid (L ++ (kidsJ (valN d1) (textJ d1) true gk (decide (j = 0)) (V.drop p) ++ [125]) = R) ∧ Hid (BJ w0 V b off cap bv bb bn L wr) ∧ Hid (JK w0.heap.size bb W wr) ∧ Hid (wr.heap[cb]? = some (.cells #[.int .u8 (kk : Int), .string nx, .string tx, .int .i64 nu, .int .i64 (m : Int)] 33 (0, 0))))
  case atStart => exact ⟨0, k + 1, 0, [], l ++ [123], by go_num, rfl, ⟨by omega, by omega⟩, by omega, Lib.hid rfl, Nat.le_refl _, Lib.hid ⟨by simp, Nat.zero_le _⟩, HK0, HR0, HB1, HJ1, HC1⟩
  case round =>
    rename World => wr
    obtain ⟨j, p, u, nm, L, rfl, rfl, ⟨hj, hj'⟩, hp, HPU, hju, HLEN, HKS, HRR, HBr, HJr, HCr⟩ := hrel
    have e0 : wr.cell? ⟨cb, 0, none⟩ = some (.int .u8 (kk : Int)) := by rw [Lib.cell_of_heap HCr.out]; rfl
    have hLL : L.length ≤ 80000000 := by have z1 := HROOM.out; have z2 := HLEN.out.1; have z3 := HLEN.out.2; omega
    by_cases hg0 : gk = 0
    · subst hg0
      have hdone := HKS.out.done
      have hjn : ¬ j < m := by omega
      clear hj hj' hju
      have hu : u = n := (Option.some.inj hdone).symm
      have HPK : Hid (p = K) := Lib.hid (by rw [HPU.out, hu]; exact HK.out)
      have HF : Hid (L ++ [125] = R) := Lib.hid (by have := HRR.out; rw [show kidsJ (valN d1) (textJ d1) true 0 (decide (j = 0)) (V.drop p) = [] from rfl] at this; exact this)
      clear hdone hu
      go_wp2_with fail
      refine (wbyte w0.heap.size bb L 125 125 rfl _ HBr.out.hb (by omega) HBr.out.bel.size).mono ?_; rintro e wx ⟨rfl, hx1, hx2, hx3⟩
      have HFIN : Hid (JEnd w0 V b off cap bv bb bn R (K : Int) W (.returned (.int .i64 (p : Int))) wx) := Lib.hid (by
        rw [← HF.out, HPK.out]
        exact ⟨rfl, HBr.out.step hx1 ⟨hx2, hx3⟩, HJr.out.trans ⟨hx2, hx3⟩⟩)
      clear hx1 hx2 hx3
      go_wp2_with fail
      go_ret
      exact HFIN.out
    · obtain ⟨g1, rfl⟩ : ∃ g1, gk = g1 + 1 := ⟨gk - 1, by omega⟩
      have hjm : j < m := by omega
      clear hg0
      obtain ⟨hpl, n1, hv1, hks⟩ := HKS.out.step HPU.out
      have hn1 := (valN_le _ _ _ hv1).1
      have hn2 := (valN_le _ _ _ hv1).2
      have hun1 : u + n1 ≤ n := by
        have := hks
        unfold KS at this
        obtain ⟨x, _, hx⟩ := Option.map_eq_some_iff.1 this
        omega
      rw [List.length_drop] at hn2
      have HT1 := Lib.hid (HTL.out p n1 hv1)
      have HUN := Lib.hid hun1
      clear hun1
      have hrr := HRR.out
      rw [kidsJ, hv1, Option.getD_some, List.drop_drop] at hrr
      have HI : Hid (∀ (W' : World) (l' : List UInt8), l'.length + 20000 * (n1 + 1) ≤ 80000000 → BJ w0 V b off cap bv bb bn l' W' → Calls Tryd.prog 10 #[.int .i64 (p : Int), .pointer (some ⟨bv, 0, none⟩), .pointer (some ⟨bb, 0, none⟩), .pointer (some ⟨bn, 0, none⟩)] W' fun e w' => JEnd w0 V b off cap bv bb bn (l' ++ textJ d1 (V.drop p)) ((p + n1 : Nat) : Int) W' e w') := Lib.hid fun W' l' h1 h2 => HIH.out W' l' p n1 hpl hv1 h1 h2
      obtain ⟨p2, hp2⟩ : ∃ p2, p + n1 = p2 := ⟨_, rfl⟩
      have HP2 : Hid (p2 = k + 1 + (u + n1)) := Lib.hid (by rw [← hp2, HPU.out]; omega)
      have hp3 : p2 ≤ V.length := by omega
      have HKS2 := Lib.hid hks
      rw [hp2] at HI hrr
      generalize textJ d1 (V.drop p) = tj at *
      by_cases hj0 : j = 0
      · have hj1 : ¬ 0 < j := by omega
        have hj2 : decide (0 < j) = false := decide_eq_false hj1
        have hshort := HSM.out V[p] (List.getElem_mem _)
        obtain ⟨_, r1, _⟩ := (HROW.out.below HBr.out.bel hbl) p hpl
        have hhd : ((V.drop p).headD ⟨0, [], [], 0, 0⟩).name = V[p].name := by rw [List.drop_eq_getElem_cons hpl]; rfl
        have hxz : (⟨V[p].name.toArray⟩ : ByteArray).size = V[p].name.length := by show V[p].name.toArray.size = _; simp
        have hxl : (⟨V[p].name.toArray⟩ : ByteArray).data.toList = V[p].name := by simp
        have hql := quoteL_len' V[p].name
        have HQ := Lib.hid (fun W' => HQQ.out W' ⟨V[p].name.toArray⟩ (by rw [hxz]; omega))
        rw [hxl] at HQ
        unfold preJ at hrr
        rw [hhd, if_pos rfl] at hrr
        have hq3 : (quoteL V[p].name).length ≤ 1802 := by omega
        clear hshort hhd hxz hxl hql
        generalize quoteL V[p].name = qn at *
        clear r1
        obtain ⟨x, hx0⟩ : ∃ x : ByteArray, (⟨V[p].name.toArray⟩ : ByteArray) = x := ⟨_, rfl⟩
        rw [hx0] at HQ
        have HRX : Hid (((L ++ (qn ++ [58])) ++ tj) ++ (kidsJ (valN d1) (textJ d1) true g1 (decide (j + 1 = 0)) (V.drop p2) ++ [125]) = R) := Lib.hid (by
          rw [show decide (j + 1 = 0) = false from decide_eq_false (by omega), ← hrr, decide_eq_true hj0]
          simp)
        clear hrr hj0
        have HX0 := Lib.hid hx0
        have r0 : wr.cell? ⟨bv, 0, none⟩ = some (.slice (some ⟨b, off, none⟩) V.length cap) := by rw [Lib.cell_of_heap HBr.out.hv]; rfl
        obtain ⟨_, r1, _⟩ := (HROW.out.below HBr.out.bel hbl) p hpl
        rw [HX0.out] at r1
        clear hx0
        go_wp2_with fail
        refine (HQ.out _).mono ?_; rintro e w4 ⟨rfl, hb4⟩
        have HB4 := Lib.hid (HBr.out.below hb4)
        have HJ4 : Hid (JK w0.heap.size bb W w4) := Lib.hid (HJr.out.trans (JK.of_below hb4 HBr.out.bel.size))
        have HC4 := Lib.hid ((hb4.block _ (heap_lt HCr.out)).trans HCr.out)
        clear hb4 r0 r1
        obtain ⟨y, hcat⟩ : ∃ y : ByteArray, (⟨qn.toArray⟩ : ByteArray) ++ ⟨#[58]⟩ = y := ⟨_, rfl⟩
        have HY : Hid (y.data.toList = qn ++ [58]) := Lib.hid (by rw [← hcat]; simp)
        have hyz : y.size = qn.length + 1 := by rw [← len_z, HY.out]; simp
        have hyz2 : y.size ≤ 1803 := by omega
        clear hyz
        have hqs : (⟨qn.toArray⟩ : ByteArray).size = qn.length := by show qn.toArray.size = _; simp
        have HCAT := Lib.hid hcat
        have HQS := Lib.hid hqs
        clear hcat hqs
        go_wp2_with fail
        rw [HCAT.out]
        refine (wstr w0.heap.size bb (L) y _ HB4.out.hb (by (try simp only [List.length_append, List.length_cons, List.length_nil]); omega) HB4.out.bel.size).mono ?_; rintro e w5 ⟨rfl, hx1, hx2, hx3⟩
        have HB5 : Hid (BJ w0 V b off cap bv bb bn ((L) ++ (qn ++ [58])) w5) := Lib.hid (HB4.out.step (by rw [← HY.out]; exact hx1) ⟨hx2, hx3⟩)
        have HJ5 := Lib.hid (HJ4.out.trans ⟨hx2, hx3⟩)
        have HC5 := Lib.hid (kept_cel hx3 HC4.out hcb)
        clear hx1 hx2 hx3
        have q0 : w5.cell? ⟨bn, 0, none⟩ = some (.func (.func 10) #[] #[.pointer (some ⟨bv, 0, none⟩), .pointer (some ⟨bb, 0, none⟩), .pointer (some ⟨bn, 0, none⟩)]) := by rw [Lib.cell_of_heap HB5.out.hn]; rfl
        go_wp2_with fail
        refine (HI.out _ (L ++ (qn ++ [58])) (by have z1 := HROOM.out; have z2 := HLEN.out.1; have z3 := HLEN.out.2; have z4 := HT1.out; have z5 := HUN.out; (try simp only [List.length_append, List.length_cons, List.length_nil]); omega) HB5.out).mono ?_; rintro e w6 ⟨rfl, hB6, hJ6⟩
        have HB6 := Lib.hid hB6
        have HJ6 := Lib.hid (HJ5.out.trans hJ6)
        have HC6 := Lib.hid (kept_cel hJ6.2 HC5.out hcb)
        clear hB6 hJ6 q0
        go_wp2_with fail
        go_roundg g1
        case measure => omega
        case rel => exact ⟨j + 1, p2, u + n1, _, (L ++ (qn ++ [58])) ++ tj, rfl, by go_num, ⟨by omega, by omega⟩, hp3, HP2, by omega, Lib.hid ⟨by have z1 := HROOM.out; have z2 := HLEN.out.1; have z3 := HLEN.out.2; have z4 := HT1.out; have z5 := HUN.out; (try simp only [List.length_append, List.length_cons, List.length_nil]); omega, HUN.out⟩, HKS2, HRX, HB6, HJ6, HC6⟩
      · have hj1 : 0 < j := by omega
        have hj2 : decide (0 < j) = true := decide_eq_true hj1
        have hshort := HSM.out V[p] (List.getElem_mem _)
        obtain ⟨_, r1, _⟩ := (HROW.out.below HBr.out.bel hbl) p hpl
        have hhd : ((V.drop p).headD ⟨0, [], [], 0, 0⟩).name = V[p].name := by rw [List.drop_eq_getElem_cons hpl]; rfl
        have hxz : (⟨V[p].name.toArray⟩ : ByteArray).size = V[p].name.length := by show V[p].name.toArray.size = _; simp
        have hxl : (⟨V[p].name.toArray⟩ : ByteArray).data.toList = V[p].name := by simp
        have hql := quoteL_len' V[p].name
        have HQ := Lib.hid (fun W' => HQQ.out W' ⟨V[p].name.toArray⟩ (by rw [hxz]; omega))
        rw [hxl] at HQ
        unfold preJ at hrr
        rw [hhd, if_pos rfl] at hrr
        have hq3 : (quoteL V[p].name).length ≤ 1802 := by omega
        clear hshort hhd hxz hxl hql
        generalize quoteL V[p].name = qn at *
        clear r1
        obtain ⟨x, hx0⟩ : ∃ x : ByteArray, (⟨V[p].name.toArray⟩ : ByteArray) = x := ⟨_, rfl⟩
        rw [hx0] at HQ
        have HRX : Hid ((((L ++ [44]) ++ (qn ++ [58])) ++ tj) ++ (kidsJ (valN d1) (textJ d1) true g1 (decide (j + 1 = 0)) (V.drop p2) ++ [125]) = R) := Lib.hid (by
          rw [show decide (j + 1 = 0) = false from decide_eq_false (by omega), ← hrr, decide_eq_false hj0]
          simp)
        clear hrr hj0
        have HX0 := Lib.hid hx0
        clear hx0
        go_wp2_with fail
        refine (wbyte w0.heap.size bb L 44 44 rfl _ HBr.out.hb (by omega) HBr.out.bel.size).mono ?_; rintro e w3 ⟨rfl, hx1, hx2, hx3⟩
        have HB3 := Lib.hid (HBr.out.step hx1 ⟨hx2, hx3⟩)
        have HJ3 := Lib.hid (HJr.out.trans ⟨hx2, hx3⟩)
        have HC3 := Lib.hid (kept_cel hx3 HCr.out hcb)
        clear hx1 hx2 hx3 e0
        have e0 : w3.cell? ⟨cb, 0, none⟩ = some (.int .u8 (kk : Int)) := by rw [Lib.cell_of_heap HC3.out]; rfl
        have r0 : w3.cell? ⟨bv, 0, none⟩ = some (.slice (some ⟨b, off, none⟩) V.length cap) := by rw [Lib.cell_of_heap HB3.out.hv]; rfl
        obtain ⟨_, r1, _⟩ := (HROW.out.below HB3.out.bel hbl) p hpl
        rw [HX0.out] at r1
        go_wp2_with fail
        refine (HQ.out _).mono ?_; rintro e w4 ⟨rfl, hb4⟩
        have HB4 := Lib.hid (HB3.out.below hb4)
        have HJ4 : Hid (JK w0.heap.size bb W w4) := Lib.hid (HJ3.out.trans (JK.of_below hb4 HB3.out.bel.size))
        have HC4 := Lib.hid ((hb4.block _ (heap_lt HC3.out)).trans HC3.out)
        clear hb4 r0 r1
        obtain ⟨y, hcat⟩ : ∃ y : ByteArray, (⟨qn.toArray⟩ : ByteArray) ++ ⟨#[58]⟩ = y := ⟨_, rfl⟩
        have HY : Hid (y.data.toList = qn ++ [58]) := Lib.hid (by rw [← hcat]; simp)
        have hyz : y.size = qn.length + 1 := by rw [← len_z, HY.out]; simp
        have hyz2 : y.size ≤ 1803 := by omega
        clear hyz
        have hqs : (⟨qn.toArray⟩ : ByteArray).size = qn.length := by show qn.toArray.size = _; simp
        have HCAT := Lib.hid hcat
        have HQS := Lib.hid hqs
        clear hcat hqs
        go_wp2_with fail
        rw [HCAT.out]
        refine (wstr w0.heap.size bb (L ++ [44]) y _ HB4.out.hb (by (try simp only [List.length_append, List.length_cons, List.length_nil]); omega) HB4.out.bel.size).mono ?_; rintro e w5 ⟨rfl, hx1, hx2, hx3⟩
        have HB5 : Hid (BJ w0 V b off cap bv bb bn ((L ++ [44]) ++ (qn ++ [58])) w5) := Lib.hid (HB4.out.step (by rw [← HY.out]; exact hx1) ⟨hx2, hx3⟩)
        have HJ5 := Lib.hid (HJ4.out.trans ⟨hx2, hx3⟩)
        have HC5 := Lib.hid (kept_cel hx3 HC4.out hcb)
        clear hx1 hx2 hx3
        have q0 : w5.cell? ⟨bn, 0, none⟩ = some (.func (.func 10) #[] #[.pointer (some ⟨bv, 0, none⟩), .pointer (some ⟨bb, 0, none⟩), .pointer (some ⟨bn, 0, none⟩)]) := by rw [Lib.cell_of_heap HB5.out.hn]; rfl
        go_wp2_with fail
        refine (HI.out _ ((L ++ [44]) ++ (qn ++ [58])) (by have z1 := HROOM.out; have z2 := HLEN.out.1; have z3 := HLEN.out.2; have z4 := HT1.out; have z5 := HUN.out; (try simp only [List.length_append, List.length_cons, List.length_nil]); omega) HB5.out).mono ?_; rintro e w6 ⟨rfl, hB6, hJ6⟩
        have HB6 := Lib.hid hB6
        have HJ6 := Lib.hid (HJ5.out.trans hJ6)
        have HC6 := Lib.hid (kept_cel hJ6.2 HC5.out hcb)
        clear hB6 hJ6 q0
        go_wp2_with fail
        go_roundg g1
        case measure => omega
        case rel => exact ⟨j + 1, p2, u + n1, _, ((L ++ [44]) ++ (qn ++ [58])) ++ tj, rfl, by go_num, ⟨by omega, by omega⟩, hp3, HP2, by omega, Lib.hid ⟨by have z1 := HROOM.out; have z2 := HLEN.out.1; have z3 := HLEN.out.2; have z4 := HT1.out; have z5 := HUN.out; (try simp only [List.length_append, List.length_cons, List.length_nil]); omega, HUN.out⟩, HKS2, HRX, HB6, HJ6, HC6⟩
end Go.Proofs.YteapenemnnhonaaDoor
