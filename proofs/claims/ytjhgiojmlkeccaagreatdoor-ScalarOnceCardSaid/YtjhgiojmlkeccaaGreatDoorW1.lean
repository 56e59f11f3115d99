/- Walks and plain laws of this proof, joined from smaller texts (1). -/
import Derived.Test.YtjhgiojmlkeccaaGreatDoorRows
import Derived.Tactics
import Derived.Tactics2
import Derived.Defers
import Derived.Laws.Pointers
import Derived.Laws.LoneSync
import Derived.RegionTactic
import Derived.RegionCalls
import Derived.ChangeAlike
import Derived.WalkKit
import Derived.Below
import Derived.Lib.Builder
import Derived.Lib.Hide
import Derived.Lib.ValidLaws
import Derived.WalkSpells
import Derived.Handy
import Derived.Lib.UnsafeStr
import Derived.Lib.BufferRead
import Derived.Laws.IdiomStrings
import Derived.Laws.AppendOwn
import Derived.OwnWalk
import Derived.Laws.Rows
import Derived.IntWalk
import Derived.LoopTactic
import Derived.Deep.LoopGhost
import Derived.Deep.QuietTactic
import Derived.BigQuiet
import Derived.Deep.RegionHeld3
import Derived.Outline
import Derived.Lib.ParseIntBCases
import Derived.Lib.ItoaMem
import Derived.Lib.SlTrimSet
import Derived.Lib.IndexBytes
import Derived.Lib.ItoaLen
import Derived.Maps.RangeWalk
import Derived.Shelf.Abstract
import Derived.Deep.DeepCutAuto
import Derived.Laws.CopyOwn
import Derived.Deep.Light
import Derived.Laws.StructEq
import Derived.LoopN
import Derived.Test.YtjhgiojmlkeccaaGreatDoorShelh
import Derived.Test.YtjhgiojmlkeccaaGreatDoorShelf
import Derived.Deep.Draws
import Derived.Deep.RegionWith
import Derived.Shelf.Strings.SlTrimAscii
set_option linter.unusedSimpArgs false
set_option linter.unusedVariables false
namespace Go.Proofs.YtjhgiojmlkeccaaGreatDoor
open Go.RowKit
theorem on_disable (w : World) : (callFunc 156 #[]).run Tryz.prog w = .ok (.value (.tuple #[])) w := run_call_mark0 Tryz.func156 (by kernel_rfl) (by kernel_rfl) (by kernel_rfl) .disable (by kernel_rfl) w
theorem on_enable (w : World) : (callFunc 158 #[]).run Tryz.prog w = .ok (.value (.tuple #[])) w := run_call_mark0 Tryz.func158 (by kernel_rfl) (by kernel_rfl) (by kernel_rfl) .enable (by kernel_rfl) w
theorem on_acquire (a : Addr) (w : World) : (callFunc 159 #[.pointer (some a)]).run Tryz.prog w = .ok (.value (.tuple #[])) w := run_call_marked Tryz.func159 (by kernel_rfl) (by kernel_rfl) (by kernel_rfl) .acquire (by kernel_rfl) a w
theorem on_release (a : Addr) (w : World) : (callFunc 161 #[.pointer (some a)]).run Tryz.prog w = .ok (.value (.tuple #[])) w := run_call_marked Tryz.func161 (by kernel_rfl) (by kernel_rfl) (by kernel_rfl) .releaseMerge (by kernel_rfl) a w
set_option maxRecDepth 100000 in
theorem on_ilock (a : Addr) (w : World) (hc : w.cell? a = some (.int .i32 0)) (hz : w.frozen? a = false) :
    Calls Tryz.prog 110 #[.pointer (some a)] w fun e w' => e = .returned (.tuple #[]) ∧ w' = w.setCell a (.int .i32 1) := by
  have hd := on_disable
  have he := on_enable
  have ha := on_acquire
  have hcas := run_call_cas_hit (P := Tryz.prog) Tryz.func157 (by kernel_rfl) (by kernel_rfl) (by kernel_rfl) .i32 (by kernel_rfl) (y := 1) hc hz
  have hc' : (w.setCell a (.int .i32 1)).cell? a = some (.int .i32 1) := World.cell?_setCell_same w a _ hc
  have hcv := run_convert_to_unsafe (P := Tryz.prog) (src := 216) (dst := 219) Tryz.underlying216 Tryz.underlying219 (by kernel_rfl) hc'
  go_enter Tryz.func110, Tryz.ntmps110
  go_wp2
  first | go_end0 | (simp only [Exit.inBlock, Exit.then]; refine bodyPost_ret (results_none rfl _ _ _) rfl ?_) | refine bodyPost_ret (results_none rfl _ _ _) rfl ?_
  exact ⟨rfl, rfl⟩
set_option maxRecDepth 100000 in
theorem on_iunlock (a : Addr) (w : World) (hc : w.cell? a = some (.int .i32 1)) (hz : w.frozen? a = false) :
    Calls Tryz.prog 111 #[.pointer (some a)] w fun e w' => e = .returned (.tuple #[]) ∧ w' = w.setCell a (.int .i32 0) := by
  have hd := on_disable
  have he := on_enable
  have hr := on_release
  have hadd := run_call_add (P := Tryz.prog) Tryz.func40 (by kernel_rfl) (by kernel_rfl) (by kernel_rfl) .i32 (by kernel_rfl) (y := -1) (s := 0) hc hz (by simp [go_sem]; rfl)
  have hcv := run_convert_to_unsafe (P := Tryz.prog) (src := 216) (dst := 219) Tryz.underlying216 Tryz.underlying219 (by kernel_rfl) hc
  go_enter Tryz.func111, Tryz.ntmps111
  go_wp2
  first | go_end0 | skip
  exact ⟨rfl, rfl⟩
set_option maxRecDepth 100000 in
theorem on_lock (b o : Nat) (w : World) (hc : w.cell? ⟨b, o, none⟩ = some (.int .i32 0)) (hz : w.frozen? ⟨b, o, none⟩ = false) :
    Calls Tryz.prog 65 #[.pointer (some ⟨b, o, none⟩)] w fun e w' => e = .returned (.tuple #[]) ∧ w' = w.setCell ⟨b, o, none⟩ (.int .i32 1) := by
  go_enter Tryz.func65, Tryz.ntmps65
  go_wp2_with fail
  refine (on_ilock ⟨b, o, none⟩ _ hc hz).mono ?_; rintro e w1 ⟨rfl, rfl⟩
  go_wp2_with fail
  go_end0
  all_goals exact ⟨rfl, rfl⟩
set_option maxRecDepth 100000 in
theorem on_unlock_d (b o : Nat) (u : FrameMode) (w : World) (hc : w.cell? ⟨b, o, none⟩ = some (.int .i32 1)) (hz : w.frozen? ⟨b, o, none⟩ = false) :
    CallsD Tryz.prog 66 #[.pointer (some ⟨b, o, none⟩)] u w fun e u' w' => u' = u ∧ (e = .returned (.tuple #[]) ∧ w' = w.setCell ⟨b, o, none⟩ (.int .i32 0)) := by
  go_enter_d Tryz.func66, Tryz.ntmps66
  go_wp2_with fail
  refine (on_iunlock ⟨b, o, none⟩ _ hc hz).mono ?_; rintro e w1 ⟨rfl, rfl⟩
  go_wp2_with fail
  go_end0
  all_goals exact ⟨rfl, rfl⟩
set_option maxRecDepth 100000 in
theorem on_store_d (b o : Nat) (x : Value) (u : FrameMode) (w : World) (hc : w.cell? ⟨b, o, none⟩ = some x) (hz : w.frozen? ⟨b, o, none⟩ = false) :
    CallsD Tryz.prog 67 #[.pointer (some ⟨b, o, none⟩), .bool true] u w fun e u' w' => u' = u ∧ (e = .returned (.tuple #[]) ∧ w' = w.drew.setCell ⟨b, o, none⟩ (.int .u32 1)) := by
  have hc' : w.drew.cell? ⟨b, o, none⟩ = some x := by go_simp
  have hz' : w.drew.frozen? ⟨b, o, none⟩ = false := by go_simp
  have hst := run_call_store (P := Tryz.prog) Tryz.func112 (by kernel_rfl) (by kernel_rfl) (by kernel_rfl) (by kernel_rfl) (k := .u32) (y := 1) hc' hz'
  go_enter_d Tryz.func67, Tryz.ntmps67
  go_wp2
  go_region_calls
  all_goals (go_end0; exact ⟨rfl, rfl⟩)
set_option maxRecDepth 100000 in
theorem on_load (b o : Nat) (x : Int) (t : Bool) (w : World) (hc : w.cell? ⟨b, o, none⟩ = some (.int .u32 x)) (ht : (x != 0) = t) :
    Calls Tryz.prog 41 #[.pointer (some ⟨b, o, none⟩)] w fun e w' => e = .returned (.bool t) ∧ w = w' := by
  have hl := run_call_load (P := Tryz.prog) Tryz.func64 (by kernel_rfl) (by kernel_rfl) (by kernel_rfl) .u32 (by kernel_rfl) hc
  go_enter Tryz.func41, Tryz.ntmps41
  go_wp2
  go_ret
  exact ⟨rfl, rfl⟩
/-- A block that begins with a Once: done, the lock's state, its count; then what the caller keeps. -/
theorem on_pset {b i : Nat} {W : World} {A A' : Array Value} {T : TypeId} (h : W.heap[b]? = some (.cells A T (0, 0))) (v : Value) (hA : A.setIfInBounds i v = A') : (W.setCell ⟨b, i, none⟩ v).heap[b]? = some (.cells A' T (0, 0)) := by
  subst hA
  have hlt : b < W.heap.size := (Array.getElem?_eq_some_iff.1 h).1
  simp only [World.setCell, Array.getElem?_modify]
  simp [h]
set_option maxRecDepth 100000 in
set_option maxHeartbeats 4000000 in
theorem on_slow (tb g : Nat) (T : TypeId) (s a : Int) (l0 : Value) (cap : Array Value) (P : Value → World → Prop) (w : World)
    (hh : w.heap[tb]? = some (.cells #[.int .u32 0, .int .i32 0, .int .u32 s, .int .i32 a, l0] T (0, 0)))
    (eg : ∀ args w, (callFunc g args).run Tryz.prog w = .ok (.enter g args) w)
    (HP : Hid (∀ l W W', P l W → (∀ b, b ≠ tb → W'.heap[b]? = W.heap[b]?) → P l W'))
    (HC : Hid (∀ W, W.heap[tb]? = some (.cells #[.int .u32 0, .int .i32 1, .int .u32 s, .int .i32 a, l0] T (0, 0)) → Below tb w W → (∀ b, b ≠ tb → W.heap[b]? = w.heap[b]?) → Calls Tryz.prog g cap W fun e w' => e = .returned (.tuple #[]) ∧ (∃ l1, w'.heap[tb]? = some (.cells #[.int .u32 0, .int .i32 1, .int .u32 s, .int .i32 a, l1] T (0, 0)) ∧ P l1 w') ∧ Below tb W w' ∧ (∀ b, b < W.heap.size → b ≠ tb → w'.heap[b]? = W.heap[b]?))) :
    Calls Tryz.prog 42 #[.pointer (some ⟨tb, 0, none⟩), .func (.func g) #[] cap] w fun e w' => e = .returned (.tuple #[]) ∧ (∃ l1, w'.heap[tb]? = some (.cells #[.int .u32 1, .int .i32 0, .int .u32 s, .int .i32 a, l1] T (0, 0)) ∧ P l1 w') ∧ Below tb w w' ∧ (∀ b, b < w.heap.size → b ≠ tb → w'.heap[b]? = w.heap[b]?) := by
  have c1 : w.cell? ⟨tb, 1, none⟩ = some (.int .i32 0) := (Lib.cell_of_heap hh 1).trans rfl
  have z1 : w.frozen? ⟨tb, 1, none⟩ = false := Lib.frozen_of_heap hh 1
  have h1 : (w.setCell ⟨tb, 1, none⟩ (.int .i32 1)).heap[tb]? = some (.cells #[.int .u32 0, .int .i32 1, .int .u32 s, .int .i32 a, l0] T (0, 0)) := on_pset hh _ rfl
  have hb1 : Below tb w (w.setCell ⟨tb, 1, none⟩ (.int .i32 1)) := (Below.refl tb w).setCell (p := ⟨tb, 1, none⟩) (Nat.le_refl tb) _
  have d0 : (w.setCell ⟨tb, 1, none⟩ (.int .i32 1)).cell? ⟨tb, 0, none⟩ = some (.int .u32 0) := (Lib.cell_of_heap h1 0).trans rfl
  go_enter_defers Tryz.func42, Tryz.ntmps42
  go_wp2_with fail
  refine (on_lock tb 1 w c1 z1).mono ?_; rintro e w1 ⟨rfl, rfl⟩
  go_wp2_with fail
  refine (on_load tb 0 0 false _ d0 rfl).mono ?_; rintro e w1 ⟨rfl, rfl⟩
  go_wp2_with fail
  refine (HC.out _ h1 hb1 (fun b hb => Below.heap_setCell _ _ _ _ hb)).mono ?_; rintro e w3 ⟨rfl, ⟨l1, h3, hp3⟩, hb3, hk3⟩
  have c0 : w3.cell? ⟨tb, 0, none⟩ = some (.int .u32 0) := (Lib.cell_of_heap h3 0).trans rfl
  have z0 : w3.frozen? ⟨tb, 0, none⟩ = false := Lib.frozen_of_heap h3 0
  have h4 : (w3.drew.setCell ⟨tb, 0, none⟩ (.int .u32 1)).heap[tb]? = some (.cells #[.int .u32 1, .int .i32 1, .int .u32 s, .int .i32 a, l1] T (0, 0)) := on_pset (W := w3.drew) h3 _ rfl
  have c4 : (w3.drew.setCell ⟨tb, 0, none⟩ (.int .u32 1)).cell? ⟨tb, 1, none⟩ = some (.int .i32 1) := (Lib.cell_of_heap h4 1).trans rfl
  have z4 : (w3.drew.setCell ⟨tb, 0, none⟩ (.int .u32 1)).frozen? ⟨tb, 1, none⟩ = false := Lib.frozen_of_heap h4 1
  have h5 : ((w3.drew.setCell ⟨tb, 0, none⟩ (.int .u32 1)).setCell ⟨tb, 1, none⟩ (.int .i32 0)).heap[tb]? = some (.cells #[.int .u32 1, .int .i32 0, .int .u32 s, .int .i32 a, l1] T (0, 0)) := on_pset h4 _ rfl
  have hp5 : P l1 ((w3.drew.setCell ⟨tb, 0, none⟩ (.int .u32 1)).setCell ⟨tb, 1, none⟩ (.int .i32 0)) := HP.out l1 w3 _ hp3 (fun b hb => by
    rw [Below.heap_setCell _ _ _ _ hb, Below.heap_setCell _ _ _ _ hb]; rfl)
  have hb5 : Below tb w ((w3.drew.setCell ⟨tb, 0, none⟩ (.int .u32 1)).setCell ⟨tb, 1, none⟩ (.int .i32 0)) := (((hb1.trans hb3).drew).setCell (p := ⟨tb, 0, none⟩) (Nat.le_refl tb) _).setCell (p := ⟨tb, 1, none⟩) (Nat.le_refl tb) _
  have hk5 : ∀ b, b < w.heap.size → b ≠ tb → ((w3.drew.setCell ⟨tb, 0, none⟩ (.int .u32 1)).setCell ⟨tb, 1, none⟩ (.int .i32 0)).heap[b]? = w.heap[b]? := fun b hb hne => by
    rw [Below.heap_setCell _ _ _ _ hne, Below.heap_setCell _ _ _ _ hne]
    show w3.heap[b]? = _
    rw [hk3 b (by simpa [World.setCell] using hb) hne, Below.heap_setCell _ _ _ _ hne]
  have HF := Lib.hid (And.intro h5 (And.intro hp5 (And.intro hb5 hk5)))
  clear h5 hp5 hb5 hk5 hk3 hb1 hb3 hp3 HP HC
  go_wp2_with fail
  refine leaves_cons (f := 67) (args := #[.pointer (some ⟨tb, 0, none⟩), .bool true]) (by simp) (by simp [go_sem]) ?_
  refine (on_store_d tb 0 (.int .u32 0) .returning _ c0 z0).mono ?_
  rintro e u' w5 ⟨rfl, rfl, rfl⟩
  refine leaves_cons (f := 66) (args := #[.pointer (some ⟨tb, 1, none⟩)]) (by simp [settle]) (by simp [go_sem]) ?_
  refine (on_unlock_d tb 1 _ _ c4 z4).mono ?_
  rintro e u' w6 ⟨rfl, rfl, rfl⟩
  have HG : (∃ l1', ((w3.drew.setCell ⟨tb, 0, none⟩ (.int .u32 1)).setCell ⟨tb, 1, none⟩ (.int .i32 0)).heap[tb]? = some (.cells #[.int .u32 1, .int .i32 0, .int .u32 s, .int .i32 a, l1'] T (0, 0)) ∧ P l1' ((w3.drew.setCell ⟨tb, 0, none⟩ (.int .u32 1)).setCell ⟨tb, 1, none⟩ (.int .i32 0))) ∧ Below tb w ((w3.drew.setCell ⟨tb, 0, none⟩ (.int .u32 1)).setCell ⟨tb, 1, none⟩ (.int .i32 0)) ∧ (∀ b, b < w.heap.size → b ≠ tb → ((w3.drew.setCell ⟨tb, 0, none⟩ (.int .u32 1)).setCell ⟨tb, 1, none⟩ (.int .i32 0)).heap[b]? = w.heap[b]?) := ⟨⟨l1, HF.out.1, HF.out.2.1⟩, HF.out.2.2⟩
  generalize (w3.drew.setCell ⟨tb, 0, none⟩ (.int .u32 1)).setCell ⟨tb, 1, none⟩ (.int .i32 0) = wf at *
  simp only [Leaves, settle, results, Tryz.results42]
  first | exact ⟨rfl, HG⟩ | (simp; exact HG)
set_option maxRecDepth 100000 in
set_option maxHeartbeats 4000000 in
theorem on_do (tb g : Nat) (T : TypeId) (s a : Int) (l0 : Value) (cap : Array Value) (P : Value → World → Prop) (w : World)
    (hh : w.heap[tb]? = some (.cells #[.int .u32 0, .int .i32 0, .int .u32 s, .int .i32 a, l0] T (0, 0)))
    (eg : ∀ args w, (callFunc g args).run Tryz.prog w = .ok (.enter g args) w)
    (HP : Hid (∀ l W W', P l W → (∀ b, b ≠ tb → W'.heap[b]? = W.heap[b]?) → P l W'))
    (HC : Hid (∀ W, W.heap[tb]? = some (.cells #[.int .u32 0, .int .i32 1, .int .u32 s, .int .i32 a, l0] T (0, 0)) → Below tb w W → (∀ b, b ≠ tb → W.heap[b]? = w.heap[b]?) → Calls Tryz.prog g cap W fun e w' => e = .returned (.tuple #[]) ∧ (∃ l1, w'.heap[tb]? = some (.cells #[.int .u32 0, .int .i32 1, .int .u32 s, .int .i32 a, l1] T (0, 0)) ∧ P l1 w') ∧ Below tb W w' ∧ (∀ b, b < W.heap.size → b ≠ tb → w'.heap[b]? = W.heap[b]?))) :
    Calls Tryz.prog 20 #[.pointer (some ⟨tb, 0, none⟩), .func (.func g) #[] cap] w fun e w' => e = .returned (.tuple #[]) ∧ (∃ l1, w'.heap[tb]? = some (.cells #[.int .u32 1, .int .i32 0, .int .u32 s, .int .i32 a, l1] T (0, 0)) ∧ P l1 w') ∧ Below tb w w' ∧ (∀ b, b < w.heap.size → b ≠ tb → w'.heap[b]? = w.heap[b]?) := by
  have HS := Lib.hid (on_slow tb g T s a l0 cap P w hh eg HP HC)
  have d0 : w.cell? ⟨tb, 0, none⟩ = some (.int .u32 0) := (Lib.cell_of_heap hh 0).trans rfl
  clear HP HC eg hh
  go_enter Tryz.func20, Tryz.ntmps20
  go_wp2_with fail
  refine (on_load tb 0 0 false _ d0 rfl).mono ?_; rintro e w1 ⟨rfl, rfl⟩
  go_wp2_with fail
  refine HS.out.mono ?_; rintro e w1 ⟨rfl, h1, h2⟩
  have H1 := Lib.hid h1
  have H2 := Lib.hid h2
  clear h1 h2
  go_wp2_with fail
  go_end0
  all_goals exact ⟨rfl, H1.out, H2.out⟩
set_option maxRecDepth 100000 in
theorem on_did (tb : Nat) (F : Value) (w : World) (d0 : w.cell? ⟨tb, 0, none⟩ = some (.int .u32 1)) :
    Calls Tryz.prog 20 #[.pointer (some ⟨tb, 0, none⟩), F] w fun e w' => e = .returned (.tuple #[]) ∧ w = w' := by
  go_enter Tryz.func20, Tryz.ntmps20
  go_wp2_with fail
  refine (on_load tb 0 1 true _ d0 rfl).mono ?_; rintro e w1 ⟨rfl, rfl⟩
  go_wp2_with fail
  go_end0
  all_goals exact ⟨rfl, rfl⟩
end Go.Proofs.YtjhgiojmlkeccaaGreatDoor
namespace Go.Proofs.YtjhgiojmlkeccaaGreatDoor
open Go.RowKit
set_option maxRecDepth 100000 in
theorem told_any (fn : Fn) (fa fc : Array Value) (w : World) :
    Calls Tryz.prog 28 #[.func fn fa fc] w fun e w' => (∃ p, e = .returned (.func (.func 46) #[] #[.pointer (some ⟨p, 0, none⟩)]) ∧ w.heap.size ≤ p ∧ w'.cell? ⟨p, 0, none⟩ = some (.func fn fa fc)) ∧ Below w.heap.size w w' := by
  go_enter Tryz.func28, Tryz.ntmps28
  go_wp2_with fail
  go_ret
  exact ⟨⟨w.heap.size, rfl, Nat.le_refl _, by simp⟩, (Below.refl _ _).alloc (Nat.le_refl _) _⟩
set_option maxRecDepth 100000 in
theorem digs_any (fn : Fn) (fa fc : Array Value) (w : World) :
    Calls Tryz.prog 31 #[.func fn fa fc] w fun e w' => (∃ p, e = .returned (.func (.func 48) #[] #[.pointer (some ⟨p, 0, none⟩)]) ∧ w.heap.size ≤ p ∧ w'.cell? ⟨p, 0, none⟩ = some (.func fn fa fc)) ∧ Below w.heap.size w w' := by
  go_enter Tryz.func31, Tryz.ntmps31
  go_wp2_with fail
  go_ret
  exact ⟨⟨w.heap.size, rfl, Nat.le_refl _, by simp⟩, (Below.refl _ _).alloc (Nat.le_refl _) _⟩
end Go.Proofs.YtjhgiojmlkeccaaGreatDoor
namespace Go.Proofs.YtjhgiojmlkeccaaGreatDoor
open Go.RowKit
theorem u8_info : (Tryz.prog.info? 5).map (fun i => (i.zero, i.size, i.bytes)) = some (some (.int .u8 0), 1, 1) := by kernel_rfl
/-- A slice of bytes of the call's own, from a block on, that reads as a list. -/
def Own (B : Nat) (v : Value) (l : List UInt8) (W : World) : Prop := W.ownsRow B 5 1 v l.length (Lib.byteCells l)
theorem Own.nil (B : Nat) (W : World) : Own B (.slice none 0 0) [] W := World.ownsRow_nil W B 5 1
theorem Own.below {B : Nat} {v : Value} {l : List UInt8} {w w' : World} (h : Own B v l w) (hb : Below w.heap.size w w') : Own B v l w' := by
  obtain ⟨h1, h2⟩ := h
  refine ⟨h1, ?_⟩
  rcases h2 with h2 | ⟨g, cap, cur, hv, hB, hg, hrest⟩
  · exact Or.inl h2
  · have hlt : g < w.heap.size := (Array.getElem?_eq_some_iff.1 hg).1
    exact Or.inr ⟨g, cap, cur, hv, hB, (hb.block g hlt).trans hg, hrest⟩
theorem Own.alloc {B : Nat} {v : Value} {l : List UInt8} {w : World} (h : Own B v l w) (o : Obj) : Own B v l (w.alloc o) := World.ownsRow.alloc h o
theorem Own.drew {B : Nat} {v : Value} {l : List UInt8} {w : World} (h : Own B v l w) : Own B v l w.drew := h
theorem Own.lt {B : Nat} {v : Value} {l : List UInt8} {w : World} (h : Own B v l w) : ∀ k, v.ownBlock = some k → B ≤ k := fun k hk => (World.ownsRow.lt h k hk).1
/-- 'append(v, x..)' of bytes that stand in a row. -/
theorem wpList_push {ops : Array Oper} {rest : List Oper} {o : Oper} {a : Act} {Q : Exit → Act → World → Prop} {w : World} (hgd : o.guard = none) (s x : Operand)
    (ho : o.op = .call { callee := .builtin .append, args := #[s, x], argTypes := #[131, 131] }) (B : Nat) (v : Value) (l : List UInt8) (hs : a.eval s = v) (hown : Own B v l w)
    (ad : Addr) (c : Nat) (news : List UInt8) (hx : a.eval x = .slice (some ad) news.length c) (hnew : ∀ j (h : j < news.length), w.cell? (ad.add j) = some (.int .u8 (news[j].toNat : Int))) (hlen : l.length + news.length ≤ 1000000000) (hB : B ≤ w.heap.size)
    (h : ∀ v' w', Own B v' (l ++ news) w' → w.grownBy w' v.ownBlock → wpList Tryz.prog ops Q rest (a.put o.dst v') w') : wpList Tryz.prog ops Q (o :: rest) a w := by
  obtain ⟨i0, hi, hz0, hz1, hz2⟩ := info_parts u8_info
  refine wpList_append_own w hgd s x 131 ho B 5 i0 (.int .u8 0) 1 1 Tryz.underlying131 hi hz0 hz1 hz2 rfl (by decide) v l.length (Lib.byteCells l) hs hown ad news.length c (Lib.byteCells news) hx (by simp [Lib.byteCells]) ?_ ?_ (by unfold maxLen; omega) (by omega) hB ?_
  · intro j u hj
    have hl : j < news.length := by
      have := (List.getElem?_eq_some_iff.1 hj).1
      simpa [Lib.byteCells] using this
    rw [hnew j hl]
    unfold Lib.byteCells at hj
    rw [List.getElem?_map, List.getElem?_eq_getElem hl] at hj
    exact hj
  · intro u hu
    unfold Lib.byteCells at hu
    obtain ⟨b, _, rfl⟩ := List.mem_map.1 hu
    rfl
  · intro v' w' h1 h2 _
    refine h v' w' ?_ h2
    unfold Own Lib.byteCells at *
    rw [List.length_append, List.map_append]
    exact h1
theorem run_convert_own {B : Nat} {v : Value} {l : List UInt8} {w : World} (h : Own B v l w) : (convert 131 9 v).run Tryz.prog w = .ok (.string ⟨l.toArray⟩) w := by
  obtain ⟨h1, h2⟩ := h
  rcases h2 with ⟨rfl, h2⟩ | ⟨g, cap, cur, rfl, hB, hg, hn, hc, hcs, ht⟩
  · have : l = [] := List.eq_nil_of_length_eq_zero h2
    subst this
    exact Lib.run_convert_nil_bytes w 131 9 5 0 Tryz.underlying131 Tryz.underlying5 Tryz.underlying9
  · exact Go.run_convert_bytes_back w 131 9 5 ⟨g, 0, none⟩ cap l Tryz.underlying131 Tryz.underlying5 Tryz.underlying9 (Lib.bytes_of_row hg (by rw [Nat.mul_one] at ht; exact ht))
/-- The cells of bytes that were just laid. -/
theorem new_bytes (W : World) (T : TypeId) (news : List UInt8) : ∀ j (h : j < news.length), (W.alloc (.cells (news.map (fun b => Value.int .u8 (b.toNat : Int))).toArray T)).cell? ((⟨W.heap.size, 0, none⟩ : Addr).add j) = some (.int .u8 (news[j].toNat : Int)) := by
  intro j h
  have e : (W.alloc (.cells (news.map (fun b => Value.int .u8 (b.toNat : Int))).toArray T)).heap[W.heap.size]? = some (.cells (news.map (fun b => Value.int .u8 (b.toNat : Int))).toArray T (0, 0)) := heap_alloc_new W _
  have ha : (⟨W.heap.size, 0, none⟩ : Addr).add j = ⟨W.heap.size, j, none⟩ := by
    unfold Addr.add
    split
    · rename_i h0; rw [h0]
    · simp
  rw [ha]
  refine (Lib.cell_of_heap e j).trans ?_
  simp [h]
end Go.Proofs.YtjhgiojmlkeccaaGreatDoor
namespace Go.Proofs.YtjhgiojmlkeccaaGreatDoor
open Go.RowKit Go.Lib
/-- An operation that is not wanted is taken first. -/
theorem tkn {P : Program} {ops : Array Oper} {Q : Exit → Act → World → Prop} {md : Region.Mode} {S : World → Prop} (i : Nat) (d : Option Tmp) {oi : Oper} {fuel : Nat} {listed : Array Bool} {a : Act} {w : World} (hi' : ops.toList[i]? = some oi)
    (hk : (Region.noSelect ops && Region.free md ops listed i && (Region.ready md ops listed).contains i) = true) (hw : Region.wanted oi (yielded ops a.tmps) = false)
    (hd : oi.dst = d) (hQ : ∀ c a w, Q (.panic c) (a.put d undef) w → Q (.panic c) a w) (hS : S w)
    (h : wpAnyH P md ops Q S fuel (listed.setIfInBounds i true) (a.put d undef) w) : wpAnyH P md ops Q S (fuel + 1) listed a w := by
  have hi : ops[i]? = some oi := by rw [← Array.getElem?_toList]; exact hi'
  subst hd
  simp only [Bool.and_eq_true] at hk
  exact wpAnyH_take hi hk.1.1 hk.1.2 hk.2 hQ (Or.inr ⟨hw, rfl⟩) hS h
/-- An operation that yields in every world that meets S is taken first. -/
theorem tky {P : Program} {ops : Array Oper} {Q : Exit → Act → World → Prop} {md : Region.Mode} {S : World → Prop} (i : Nat) (d : Option Tmp) {v : Value} {oi : Oper} {fuel : Nat} {listed : Array Bool} {a : Act} {w : World} (hi' : ops.toList[i]? = some oi)
    (hk : (Region.noSelect ops && Region.free md ops listed i && (Region.ready md ops listed).contains i) = true) (hw : Region.wanted oi (yielded ops a.tmps) = true)
    (hd : oi.dst = d) (hQ : ∀ c a w, Q (.panic c) (a.put d v) w → Q (.panic c) a w) (hy : ∀ w, S w → (execOp a.eval oi).run P w = .ok (.value v) w) (hS : S w)
    (h : wpAnyH P md ops Q S fuel (listed.setIfInBounds i true) (a.put d v) w) : wpAnyH P md ops Q S (fuel + 1) listed a w := by
  have hi : ops[i]? = some oi := by rw [← Array.getElem?_toList]; exact hi'
  subst hd
  simp only [Bool.and_eq_true] at hk
  exact wpAnyH_take hi hk.1.1 hk.1.2 hk.2 hQ (Or.inl ⟨hw, hy⟩) hS h
/-- What is carried out comes up alone. -/
theorem rcons {P : Program} {ops : Array Oper} {Q : Exit → Act → World → Prop} {md : Region.Mode} {S : World → Prop} (i : Nat) {fuel : Nat} {listed : Array Bool} {a : Act} {w : World} {o : Oper} (ho : ops.toList[i]? = some o) (hr : Region.ready md ops listed = [i])
    (h : ∀ K' : Act → World → Prop, Shut (∀ a w, S w → (S w → wpAnyH P md ops Q S fuel (listed.setIfInBounds i true) a w) → K' a w) → if Region.wanted o (yielded ops a.tmps) = true then Oper.wp P o a w K' Q else K' (a.put o.dst undef) w) : wpAnyH P md ops Q S (fuel + 1) listed a w :=
  wpAnyH_ready (rs := [i]) hr (by simp) (AllReadyH.cons (by rw [← Array.getElem?_toList]; exact ho) h AllReadyH.nil)
end Go.Proofs.YtjhgiojmlkeccaaGreatDoor
namespace Go.Proofs.YtjhgiojmlkeccaaGreatDoor
open Go.RowKit

/-- A number of 64 bits. -/
def R (n : Int) : Prop := -9223372036854775808 ≤ n ∧ n ≤ 9223372036854775807
/-- Is it one? -/
def inR (n : Int) : Bool := decide (-9223372036854775808 ≤ n ∧ n ≤ 9223372036854775807)
/-- A number that may be, or 0. -/
def val (n : Int) : Int := if -9223372036854775808 ≤ n ∧ n ≤ 9223372036854775807 then n else 0
/-- The error's number. -/
def err (n : Int) : Int := if -9223372036854775808 ≤ n ∧ n ≤ 9223372036854775807 then 0 else 20
theorem val_in {n : Int} (h : R n) : val n = n := if_pos h
theorem err_in {n : Int} (h : R n) : err n = 0 := if_pos h
theorem val_out {n : Int} (h : ¬ R n) : val n = 0 := if_neg h
theorem err_out {n : Int} (h : ¬ R n) : err n = 20 := if_neg h
theorem inR_iff (n : Int) : inR n = true ↔ R n := by simp [inR, R]
theorem R_of_wf {n : Int} (h : (Lit.int .i64 n).wf = true) : R n := by
  simp [Lit.wf, IntKind.min, IntKind.max, IntKind.signed, IntKind.bits] at h
  unfold R; omega
theorem ret2 {a b c d : Int} (h : a = c) (h' : b = d) : Ending.returned (.tuple #[.int .i64 a, .int .i64 b]) = .returned (.tuple #[.int .i64 c, .int .i64 d]) := by rw [h, h']
theorem ret1 {a c : Bool} (h : a = c) : Ending.returned (.bool a) = .returned (.bool c) := by rw [h]
def far (n : Int) : Int := if n < 0 then -n else n
end Go.Proofs.YtjhgiojmlkeccaaGreatDoor
namespace Go.Proofs.YtjhgiojmlkeccaaGreatDoor
open Go.RowKit Go.Lib

def isDig (c : UInt8) : Bool := decide (48 ≤ c.toNat ∧ c.toNat ≤ 57)
/-- Are they digits, one at least? -/
def digitsB (l : List UInt8) : Bool := l.all isDig && !l.isEmpty
/-- A digit's value. -/
def dv (c : UInt8) : Nat := c.toNat - 48
/-- The number of digits. -/
def numFrom (a : Nat) (l : List UInt8) : Nat := l.foldl (fun a c => a * 10 + dv c) a
def num (l : List UInt8) : Nat := numFrom 0 l
/-- Is there a sign? -/
def below (l : List UInt8) : Bool := match l with | c :: _ => c == 45 | [] => false
/-- What stands behind the sign. -/
def body (l : List UInt8) : List UInt8 := if below l then l.tail else l
/-- Digits without a nought ahead. -/
def okDigits (l : List UInt8) : Bool := digitsB l && !(l.head? == some 48 && decide (1 < l.length))
def signed (l : List UInt8) : Int := if below l then -(num (body l) : Int) else num (body l)
def rdV (l : List UInt8) : Int := if okDigits (body l) then val (signed l) else 0
def rdE (l : List UInt8) : Int := if okDigits (body l) then err (signed l) else 21
theorem numFrom_cons (a : Nat) (c : UInt8) (r : List UInt8) : numFrom a (c :: r) = numFrom (a * 10 + dv c) r := by unfold numFrom; rw [List.foldl_cons]
theorem numFrom_nil (a : Nat) : numFrom a [] = a := by unfold numFrom; rw [List.foldl_nil]
theorem num_one (c : UInt8) : num [c] = dv c := by rw [num, numFrom_cons, numFrom_nil]; omega
theorem numFrom_ge : ∀ (l : List UInt8) (a : Nat), a ≤ numFrom a l
  | [], a => by rw [numFrom_nil]; exact Nat.le_refl a
  | c :: r, a => by rw [numFrom_cons]; exact Nat.le_trans (by omega) (numFrom_ge r (a * 10 + dv c))
theorem numFrom_append (l m : List UInt8) : ∀ a, numFrom a (l ++ m) = numFrom (numFrom a l) m := by
  induction l with
  | nil => intro a; rw [List.nil_append, numFrom_nil]
  | cons c r ih => intro a; rw [List.cons_append, numFrom_cons, numFrom_cons]; exact ih _
theorem num_snoc (l : List UInt8) (c : UInt8) : num (l ++ [c]) = num l * 10 + dv c := by
  unfold num; rw [numFrom_append, numFrom_cons, numFrom_nil]
theorem hasPrefix_dash (l : List UInt8) : Lib.hasPrefix l [45] = below l := by
  cases l with
  | nil => rfl
  | cons c r =>
    show ([45] : List UInt8).isPrefixOf (c :: r) = (c == 45)
    simp only [List.isPrefixOf, Bool.and_true]
    rw [Bool.eq_iff_iff]; simp only [beq_iff_eq]; exact eq_comm
theorem trimPrefix_dash (l : List UInt8) : Lib.trimPrefix l [45] = body l := by
  unfold Lib.trimPrefix body
  rw [hasPrefix_dash]
  cases l <;> rfl
theorem dig_iff (c : UInt8) : ([48, 49, 50, 51, 52, 53, 54, 55, 56, 57] : List UInt8).contains c = isDig c := by
  have h : ∀ n : Fin 256, ([48, 49, 50, 51, 52, 53, 54, 55, 56, 57] : List UInt8).contains (UInt8.ofNat n.val) = isDig (UInt8.ofNat n.val) := by decide +kernel
  have := h ⟨c.toNat, c.toNat_lt⟩
  simpa using this
theorem dropWhile_all {p : UInt8 → Bool} {l : List UInt8} (h : l.all p = true) : l.dropWhile p = [] := by
  induction l with
  | nil => rfl
  | cons c r ih =>
    simp only [List.all_cons, Bool.and_eq_true] at h
    rw [List.dropWhile_cons, if_pos h.1]; exact ih h.2
theorem all_of_dropWhile {p : UInt8 → Bool} {l : List UInt8} (h : l.dropWhile p = []) : l.all p = true := by
  induction l with
  | nil => rfl
  | cons c r ih =>
    rw [List.dropWhile_cons] at h
    split at h
    · rename_i hc
      simp only [List.all_cons, Bool.and_eq_true]
      exact ⟨hc, ih h⟩
    · cases h
theorem all_reverse (p : UInt8 → Bool) (l : List UInt8) : l.reverse.all p = l.all p := by simp
/-- 'strings.Trim(s, set) == ""': are all bytes in the set? -/
theorem trimS_nil (l cs : List UInt8) : Lib.trimS l cs = [] ↔ l.all (cs.contains ·) = true := by
  unfold Lib.trimS Lib.trimLeftS Lib.trimRightS
  constructor
  · intro h
    have h1 := all_of_dropWhile h
    rw [all_reverse] at h1
    -- what is left by the trimming from the right has a last byte outside the set, unless it is empty
    rw [← all_reverse]
    cases hd : (l.reverse.dropWhile (cs.contains ·)) with
    | nil => exact all_of_dropWhile hd
    | cons c r =>
      rw [hd] at h1
      have hc : ¬ cs.contains c = true := by
        have := List.head_dropWhile_not (p := (cs.contains ·)) (l := l.reverse) (by rw [hd]; simp)
        simp only [hd, List.head_cons] at this
        exact fun e => by rw [this] at e; cases e
      simp only [List.all_cons, Bool.and_eq_true] at h1
      exact absurd h1.1 hc
  · intro h
    rw [← all_reverse] at h
    rw [dropWhile_all h]; rfl
theorem trim_digits (l : List UInt8) : Lib.trimS l [48, 49, 50, 51, 52, 53, 54, 55, 56, 57] = [] ↔ l.all isDig = true := by
  rw [trimS_nil, show (([48, 49, 50, 51, 52, 53, 54, 55, 56, 57] : List UInt8).contains ·) = isDig from funext dig_iff]
theorem parseM_cons (M a : Nat) (c : UInt8) (r : List UInt8) (hc : 48 ≤ c.toNat ∧ c.toNat ≤ 57) : Lib.parseUintM M a (c :: r) =
    if 1844674407370955162 ≤ a then .range else if M < a * 10 + (c.toNat - 48) then .range else Lib.parseUintM M (a * 10 + (c.toNat - 48)) r := by
  simp only [Lib.parseUintM, hc, and_self, if_true]
theorem parse_digits (M : Nat) (hM : M ≤ 18446744073709551615) (l : List UInt8) : ∀ (a : Nat), l.all isDig = true → a ≤ M →
    Lib.parseUintM M a l = if numFrom a l ≤ M then .ok (numFrom a l) else .range := by
  induction l with
  | nil => intro a _ ha; rw [numFrom_nil, if_pos ha, Lib.parseUintM]
  | cons c r ih =>
    intro a h ha
    simp only [List.all_cons, Bool.and_eq_true] at h
    obtain ⟨hc, hr⟩ := h
    simp only [isDig, decide_eq_true_eq] at hc
    have hge := numFrom_ge r (a * 10 + dv c)
    rw [parseM_cons _ _ _ _ hc, numFrom_cons]
    rw [show c.toNat - 48 = dv c from rfl]
    by_cases h1 : 1844674407370955162 ≤ a
    · rw [if_pos h1, if_neg (by omega)]
    · rw [if_neg h1]
      by_cases h2 : M < a * 10 + dv c
      · rw [if_pos h2, if_neg (by omega)]
      · rw [if_neg h2]
        exact ih _ hr (by omega)
theorem most64 : 2 ^ 64 - 1 = 18446744073709551615 := by decide
theorem parse_ok (l : List UInt8) (h : digitsB l = true) (hn : num l ≤ 18446744073709551615) : Lib.parseUintB 64 l = .ok (num l) := by
  simp only [digitsB, Bool.and_eq_true, Bool.not_eq_true', List.isEmpty_eq_false_iff] at h
  unfold Lib.parseUintB
  rw [if_neg h.2, most64, parse_digits _ (Nat.le_refl _) l 0 h.1 (Nat.zero_le _), if_pos (show numFrom 0 l ≤ _ from hn)]; rfl
theorem parse_range (l : List UInt8) (h : digitsB l = true) (hn : ¬ num l ≤ 18446744073709551615) : Lib.parseUintB 64 l = .range := by
  simp only [digitsB, Bool.and_eq_true, Bool.not_eq_true', List.isEmpty_eq_false_iff] at h
  unfold Lib.parseUintB
  rw [if_neg h.2, most64, parse_digits _ (Nat.le_refl _) l 0 h.1 (Nat.zero_le _), if_neg (show ¬ numFrom 0 l ≤ _ from hn)]
theorem digit_nat {d : Nat} (h : d < 10) : (UInt8.ofNat (48 + d)).toNat = 48 + d := by
  rw [UInt8.toNat_ofNat']; omega
theorem dec_all (u : Nat) : (Lib.decDigits u).all isDig = true ∧ Lib.decDigits u ≠ [] ∧ num (Lib.decDigits u) = u := by
  induction u using Nat.strongRecOn with
  | _ u ih =>
    rw [Lib.decDigits]
    by_cases h : u < 10
    · rw [dif_pos h]
      refine ⟨?_, by simp, ?_⟩
      · simp only [List.all_cons, List.all_nil, isDig, digit_nat h, Bool.and_true, decide_eq_true_eq]; omega
      · rw [num_one, dv, digit_nat h]; omega
    · rw [dif_neg h]
      obtain ⟨h1, h2, h3⟩ := ih (u / 10) (by omega)
      refine ⟨?_, by simp, ?_⟩
      · rw [List.all_append, h1]
        simp only [List.all_cons, List.all_nil, isDig, digit_nat (Nat.mod_lt u (by decide : 10 > 0)), Bool.and_true, Bool.true_and, decide_eq_true_eq]; omega
      · rw [num_snoc, h3, dv, digit_nat (Nat.mod_lt u (by decide : 10 > 0))]; omega
theorem dec_head (u : Nat) (h : 0 < u) : (Lib.decDigits u).head? ≠ some 48 := by
  induction u using Nat.strongRecOn with
  | _ u ih =>
    rw [Lib.decDigits]
    by_cases hu : u < 10
    · rw [dif_pos hu]
      simp only [List.head?_cons, ne_eq, Option.some.injEq]
      intro e
      have := congrArg UInt8.toNat e
      rw [digit_nat hu] at this
      simp at this; omega
    · rw [dif_neg hu, List.head?_append]
      have h1 := ih (u / 10) (by omega) (by omega)
      have h2 := (dec_all (u / 10)).2.1
      cases hd : Lib.decDigits (u / 10) with
      | nil => exact absurd hd h2
      | cons c r => rw [hd] at h1; simpa using h1
theorem dec_ok (u : Nat) : okDigits (Lib.decDigits u) = true := by
  obtain ⟨h1, h2, _⟩ := dec_all u
  unfold okDigits digitsB
  rw [h1]
  have : (Lib.decDigits u).isEmpty = false := by simpa using h2
  rw [this]
  by_cases h : 0 < u
  · have := dec_head u h
    simp [this]
  · obtain rfl : u = 0 := by omega
    decide +kernel
theorem dec_notdash (u : Nat) : below (Lib.decDigits u) = false := by
  obtain ⟨h1, h2, _⟩ := dec_all u
  cases hd : Lib.decDigits u with
  | nil => rfl
  | cons c r =>
    rw [hd] at h1
    simp only [List.all_cons, Bool.and_eq_true, isDig, decide_eq_true_eq] at h1
    show (c == 45) = false
    rw [beq_eq_false_iff_ne]
    rintro rfl
    exact absurd h1.1.1 (by decide)
theorem read_itoa (n : Int) : okDigits (body (Lib.itoa n)) = true ∧ signed (Lib.itoa n) = n := by
  unfold Lib.itoa
  by_cases h : n < 0
  · rw [if_pos h]
    have hb : below (45 :: Lib.decDigits n.natAbs) = true := rfl
    have e : body (45 :: Lib.decDigits n.natAbs) = Lib.decDigits n.natAbs := by unfold body; rw [hb]; rfl
    refine ⟨by rw [e]; exact dec_ok _, ?_⟩
    unfold signed
    rw [hb, e, (dec_all _).2.2]
    simp only [if_true]; omega
  · rw [if_neg h]
    have hb := dec_notdash n.toNat
    have e : body (Lib.decDigits n.toNat) = Lib.decDigits n.toNat := by unfold body; rw [hb]; rfl
    refine ⟨by rw [e]; exact dec_ok _, ?_⟩
    unfold signed
    rw [hb, e, (dec_all _).2.2]
    simp only [Bool.false_eq_true, if_false]; omega
end Go.Proofs.YtjhgiojmlkeccaaGreatDoor
namespace Go.Proofs.YtjhgiojmlkeccaaGreatDoor
open Go.RowKit
theorem dig_of (c : UInt8) : isDig c = true ↔ 48 ≤ (c.toNat : Int) ∧ (c.toNat : Int) ≤ 57 := by
  unfold isDig; rw [decide_eq_true_eq]; omega
theorem retB {a c : ByteArray} (h : a = c) : Ending.returned (.string a) = .returned (.string c) := by rw [h]
theorem len_itoa {n : Int} (h : R n) : (Lib.itoa n).length ≤ 21 := Lib.itoa_length_le n h.1 h.2
theorem cat (a b : List UInt8) : (⟨a.toArray⟩ : ByteArray) ++ ⟨b.toArray⟩ = ⟨(a ++ b).toArray⟩ := by
  apply ByteArray.ext; simp
/-- So far: the number of the first digits, by its sign. -/
def part (b : Bool) (l : List UInt8) (k : Nat) : Int := if b then -(num (l.take k) : Int) else num (l.take k)
theorem head_zero (s : ByteArray) (h : 0 < s.size) : (s.data.toList.head? == some 48) = ((s[0].toNat : Int) == 48) := by
  have e : s.data.toList.head? = some s[0] := by
    rw [List.head?_eq_getElem?, List.getElem?_eq_getElem (by simpa using h)]; rfl
  rw [e, Bool.eq_iff_iff]
  simp only [beq_iff_eq, Option.some.injEq]
  constructor
  · intro q; rw [q]; rfl
  · intro q; exact UInt8.toNat_inj.1 (by have : (48 : UInt8).toNat = 48 := rfl; omega)
theorem ok_size (s : ByteArray) (h : digitsB s.data.toList = true) (hp : 0 < s.size) (hz : (s[0].toNat : Int) = 48 → s.size ≤ 1) : okDigits s.data.toList = true := by
  unfold okDigits
  rw [h, head_zero s hp]
  by_cases h0 : (s[0].toNat : Int) = 48
  · have := hz h0
    have hl : decide (1 < s.data.toList.length) = false := by rw [Array.length_toList]; exact decide_eq_false (by change ¬ 1 < s.size; omega)
    rw [hl]; simp
  · have : ((s[0].toNat : Int) == 48) = false := by simpa using h0
    rw [this]; rfl
theorem not_ok_zero (s : ByteArray) (hp : 0 < s.size) (hz : (s[0].toNat : Int) = 48) (h1 : 1 < s.size) : okDigits s.data.toList = false := by
  unfold okDigits
  rw [head_zero s hp, hz]
  have hl : decide (1 < s.data.toList.length) = true := by rw [Array.length_toList]; exact decide_eq_true h1
  rw [hl]; simp
theorem not_ok_dig (l : List UInt8) (h : digitsB l = false) : okDigits l = false := by unfold okDigits; rw [h]; rfl
end Go.Proofs.YtjhgiojmlkeccaaGreatDoor
namespace Go.Proofs.YtjhgiojmlkeccaaGreatDoor
open Go.Lib
structure Cel where
  kind : UInt8
  name : List UInt8
  text : List UInt8
  num : Int
  many : Int
end Go.Proofs.YtjhgiojmlkeccaaGreatDoor
namespace Go.Proofs.YtjhgiojmlkeccaaGreatDoor
open Go.RowKit
theorem ret_i {a c : Int} (h : a = c) : Ending.returned (.int .i64 a) = .returned (.int .i64 c) := by rw [h]
theorem lt_of_cell {W : World} {b o : Nat} {v : Value} (h : W.cell? ⟨b, o, none⟩ = some v) : b < W.heap.size := by
  rcases Nat.lt_or_ge b W.heap.size with h' | h'
  · exact h'
  · exfalso
    have : W.heap[b]? = none := Array.getElem?_eq_none h'
    simp [World.cell?, this] at h
theorem heap_lt {b : Nat} {W : World} {o : Obj} (h : W.heap[b]? = some o) : b < W.heap.size := (Array.getElem?_eq_some_iff.1 h).1
theorem heap_old {b : Nat} {W : World} {o o' : Obj} (h : W.heap[b]? = some o) : (W.alloc o').heap[b]? = some o := by
  rw [Below.heap_alloc _ _ _ (Array.getElem?_eq_some_iff.1 h).1]; exact h
theorem heap_new (W : World) (o : Obj) (b : Nat) (hb : b = W.heap.size) : (W.alloc o).heap[b]? = some o := by rw [hb]; exact heap_alloc_new W o
/-- Cells that stand in a row from a place of a block on. -/
def CelRow (b off : Nat) (V : List Cel) (W : World) : Prop := ∀ (k : Nat) (h : k < V.length), W.cell? ⟨b, off + k * 5, none⟩ = some (.int .u8 (V[k].kind.toNat : Int)) ∧ W.cell? ⟨b, off + k * 5 + 1, none⟩ = some (.string ⟨V[k].name.toArray⟩) ∧ W.cell? ⟨b, off + k * 5 + 2, none⟩ = some (.string ⟨V[k].text.toArray⟩) ∧ W.cell? ⟨b, off + k * 5 + 3, none⟩ = some (.int .i64 V[k].num) ∧ W.cell? ⟨b, off + k * 5 + 4, none⟩ = some (.int .i64 V[k].many)
theorem CelRow.below {b off : Nat} {V : List Cel} {w w' : World} {B : Nat} (h : CelRow b off V w) (hb : Below B w w') (hlt : b < B) : CelRow b off V w' := by
  intro k hk
  obtain ⟨h0, h1, h2, h3, h4⟩ := h k hk
  exact ⟨(hb.cell (p := ⟨b, _, none⟩) hlt).trans h0, (hb.cell (p := ⟨b, _, none⟩) hlt).trans h1, (hb.cell (p := ⟨b, _, none⟩) hlt).trans h2, (hb.cell (p := ⟨b, _, none⟩) hlt).trans h3, (hb.cell (p := ⟨b, _, none⟩) hlt).trans h4⟩
theorem CelRow.below' {b off : Nat} {V : List Cel} {w w' : World} (h : CelRow b off V w) (hb : Below w.heap.size w w') : CelRow b off V w' := by
  intro k hk
  exact h.below hb (lt_of_cell (h k hk).1) k hk
theorem CelRow.lt {b off : Nat} {V : List Cel} {w : World} (h : CelRow b off V w) (hV : 0 < V.length) : b < w.heap.size := lt_of_cell (h 0 hV).1
/-- A slice that reads as cells. -/
def CelSl (v : Value) (V : List Cel) (W : World) : Prop := (∃ a cap, v = .slice a 0 cap ∧ V = [] ∧ (a = none → cap = 0)) ∨ ∃ b off cap, v = .slice (some ⟨b, off, none⟩) V.length cap ∧ CelRow b off V W ∧ 0 < V.length
theorem CelSl.below {v : Value} {V : List Cel} {w w' : World} (h : CelSl v V w) (hb : Below w.heap.size w w') : CelSl v V w' := by
  rcases h with h | ⟨b, off, cap, h1, h2, h3⟩
  · exact Or.inl h
  · exact Or.inr ⟨b, off, cap, h1, h2.below' hb, h3⟩
end Go.Proofs.YtjhgiojmlkeccaaGreatDoor
namespace Go.Proofs.YtjhgiojmlkeccaaGreatDoor
open Go.RowKit
/-- What the table's row holds: eight scalars of four values each; what their readers hold. -/
def TabP (tb : Nat) (lv : Value) (W : World) : Prop := ∃ lb p2 p4 q4 p5 p6 p7 q7 p8 : Nat, lv = .slice (some ⟨lb, 0, none⟩) 8 8 ∧ W.heap[lb]? = some (.cells #[.func (.func 24) #[] #[], .func (.func 25) #[] #[], .func (.func 27) #[] #[], .bool false, .func (.func 46) #[] #[.pointer (some ⟨p2, 0, none⟩)], .func (.func 22) #[] #[], Value.nilFunc, .bool true, .func (.func 30) #[] #[], Value.nilFunc, Value.nilFunc, .bool false, .func (.func 48) #[] #[.pointer (some ⟨q4, 0, none⟩)], .func (.func 22) #[] #[], Value.nilFunc, .bool true, .func (.func 46) #[] #[.pointer (some ⟨p5, 0, none⟩)], .func (.func 34) #[] #[], Value.nilFunc, .bool false, .func (.func 46) #[] #[.pointer (some ⟨p6, 0, none⟩)], .func (.func 22) #[] #[], Value.nilFunc, .bool false, .func (.func 48) #[] #[.pointer (some ⟨q7, 0, none⟩)], .func (.func 37) #[] #[], .func (.func 38) #[] #[], .bool false, .func (.func 46) #[] #[.pointer (some ⟨p8, 0, none⟩)], Value.nilFunc, Value.nilFunc, .bool true] 41 (0, 0)) ∧
  (tb < lb ∧ tb < p2 ∧ tb < p4 ∧ tb < q4 ∧ tb < p5 ∧ tb < p6 ∧ tb < p7 ∧ tb < q7 ∧ tb < p8) ∧ W.cell? ⟨p2, 0, none⟩ = some (.func (.func 29) #[] #[]) ∧ W.cell? ⟨p4, 0, none⟩ = some (.func (.func 32) #[] #[]) ∧ W.cell? ⟨q4, 0, none⟩ = some (.func (.func 46) #[] #[.pointer (some ⟨p4, 0, none⟩)]) ∧ W.cell? ⟨p5, 0, none⟩ = some (.func (.func 33) #[] #[]) ∧ W.cell? ⟨p6, 0, none⟩ = some (.func (.func 35) #[] #[]) ∧ W.cell? ⟨p7, 0, none⟩ = some (.func (.func 36) #[] #[]) ∧ W.cell? ⟨q7, 0, none⟩ = some (.func (.func 46) #[] #[.pointer (some ⟨p7, 0, none⟩)]) ∧ W.cell? ⟨p8, 0, none⟩ = some (.func (.func 39) #[] #[])
theorem TabP.kept {tb : Nat} {l : Value} {W W' : World} (h : TabP tb l W) (hk : ∀ b, b ≠ tb → W'.heap[b]? = W.heap[b]?) : TabP tb l W' := by
  obtain ⟨lb, p2, p4, q4, p5, p6, p7, q7, p8, e, h0, ⟨n0, n1, n2, n3, n4, n5, n6, n7, n8⟩, c1, c2, c3, c4, c5, c6, c7, c8⟩ := h
  have ck : ∀ p v, tb < p → W.cell? ⟨p, 0, none⟩ = some v → W'.cell? ⟨p, 0, none⟩ = some v := fun p v hp h => by
    have hb := hk p (by omega)
    unfold World.cell? at h ⊢
    simp only at h ⊢
    rw [hb]; exact h
  exact ⟨lb, p2, p4, q4, p5, p6, p7, q7, p8, e, (hk lb (by omega)).trans h0, ⟨n0, n1, n2, n3, n4, n5, n6, n7, n8⟩, ck _ _ n1 c1, ck _ _ n2 c2, ck _ _ n3 c3, ck _ _ n4 c4, ck _ _ n5 c5, ck _ _ n6 c6, ck _ _ n7 c7, ck _ _ n8 c8⟩
theorem keep_s {w W W' : World} {tv tb : Nat} (hb : Below W.heap.size W W') (h : (fun W => (Below tb w W ∧ tb ≤ W.heap.size ∧ tv ≠ tb) ∧ W.cell? ⟨tv, 0, none⟩ = some (.pointer (some ⟨tb, 0, none⟩)) ∧ ∃ l, W.cell? ⟨tb, 4, none⟩ = some l ∧ W.frozen? ⟨tb, 4, none⟩ = false) W) : (fun W => (Below tb w W ∧ tb ≤ W.heap.size ∧ tv ≠ tb) ∧ W.cell? ⟨tv, 0, none⟩ = some (.pointer (some ⟨tb, 0, none⟩)) ∧ ∃ l, W.cell? ⟨tb, 4, none⟩ = some l ∧ W.frozen? ⟨tb, 4, none⟩ = false) W' :=
  ⟨⟨h.1.1.trans (hb.mono h.1.2.1), Nat.le_trans h.1.2.1 hb.size, h.1.2.2⟩, (hb.cell (p := ⟨_, _, none⟩) (lt_of_cell h.2.1)).trans h.2.1, (by obtain ⟨_, _, l, h3, h4⟩ := h; exact ⟨l, (hb.cell (p := ⟨_, _, none⟩) (lt_of_cell h3)).trans h3, (hb.frozen (p := ⟨_, _, none⟩) (lt_of_cell h3)).trans h4⟩)⟩
set_option maxRecDepth 100000 in
set_option maxHeartbeats 4000000 in
theorem tab_made (tv tb : Nat) (d m sm a l0 : Value) (T0 : TypeId) (w : World) (hne : tv ≠ tb) (ct : w.cell? ⟨tv, 0, none⟩ = some (.pointer (some ⟨tb, 0, none⟩))) (hh : w.heap[tb]? = some (.cells #[d, m, sm, a, l0] T0 (0, 0))) :
    Calls Tryz.prog 21 #[.pointer (some ⟨tv, 0, none⟩)] w fun e w' => e = .returned (.tuple #[]) ∧ (∃ l1, w'.heap[tb]? = some (.cells #[d, m, sm, a, l1] T0 (0, 0)) ∧ TabP tb l1 w') ∧ Below tb w w' ∧ (∀ b, b < w.heap.size → b ≠ tb → w'.heap[b]? = w.heap[b]?) := by
  have cl : w.cell? ⟨tb, 4, none⟩ = some l0 := (Lib.cell_of_heap hh 4).trans rfl
  have zl : w.frozen? ⟨tb, 4, none⟩ = false := Lib.frozen_of_heap hh 4
  go_enter Tryz.func21, Tryz.ntmps21
  go_wp2_with fail
  refine wp_region_held_drew (S := fun W => (Below tb w W ∧ tb ≤ W.heap.size ∧ tv ≠ tb) ∧ W.cell? ⟨tv, 0, none⟩ = some (.pointer (some ⟨tb, 0, none⟩)) ∧ ∃ l, W.cell? ⟨tb, 4, none⟩ = some l ∧ W.frozen? ⟨tb, 4, none⟩ = false) (by kernel_rfl) (⟨⟨⟨rfl, rfl, rfl, Nat.le_refl _, fun _ _ => rfl⟩, Nat.le_of_lt (heap_lt hh), hne⟩, ct, l0, cl, zl⟩) (fun hHeld => ?_)
  refine tky 0 (some 2) (v := ?_) rfl (by kernel_rfl) (by kernel_rfl) (by kernel_rfl) (fun _ _ _ h => h) ?_ hHeld ?_
  rotate_left
  focus (intro w hSw; (try dsimp only at hSw); go_simp; (try with_reducible rfl); done)
  go_frame
  refine tky 1 (some 3) (v := ?_) rfl (by kernel_rfl) (by kernel_rfl) (by kernel_rfl) (fun _ _ _ h => h) ?_ hHeld ?_
  rotate_left
  focus (intro w hSw; (try dsimp only at hSw); go_simp; (try with_reducible rfl); done)
  go_frame
  refine tky 3 (some 5) (v := ?_) rfl (by kernel_rfl) (by kernel_rfl) (by kernel_rfl) (fun _ _ _ h => h) ?_ hHeld ?_
  rotate_left
  focus (intro w hSw; (try dsimp only at hSw); go_simp; (try with_reducible rfl); done)
  go_frame
  refine tky 5 (some 7) (v := ?_) rfl (by kernel_rfl) (by kernel_rfl) (by kernel_rfl) (fun _ _ _ h => h) ?_ hHeld ?_
  rotate_left
  focus (intro w hSw; (try dsimp only at hSw); go_simp; (try with_reducible rfl); done)
  go_frame
  refine tky 8 (some 10) (v := ?_) rfl (by kernel_rfl) (by kernel_rfl) (by kernel_rfl) (fun _ _ _ h => h) ?_ hHeld ?_
  rotate_left
  focus (intro w hSw; (try dsimp only at hSw); go_simp; (try with_reducible rfl); done)
  go_frame
  refine tky 13 (some 15) (v := ?_) rfl (by kernel_rfl) (by kernel_rfl) (by kernel_rfl) (fun _ _ _ h => h) ?_ hHeld ?_
  rotate_left
  focus (intro w hSw; (try dsimp only at hSw); go_simp; (try with_reducible rfl); done)
  go_frame
  refine rcons 2 rfl (by kernel_rfl) (fun K hK => ?_)
  go_simp
  refine (told_any _ _ _ _).mono ?_; rintro e wc0 ⟨⟨p2, rfl, hle0, hc0⟩, hb⟩; have HB0 := Lib.hid hb; have HC0 := Lib.hid hc0; clear hc0
  (try dsimp only)
  refine hK.out _ _ (keep_s hb hHeld) (fun hHeld2 => ?_)
  clear hK K hHeld
  have hHeld := hHeld2
  clear hHeld2
  (try go_frame)
  refine tky 4 (some 6) (v := ?_) rfl (by kernel_rfl) (by kernel_rfl) (by kernel_rfl) (fun _ _ _ h => h) ?_ hHeld ?_
  rotate_left
  focus (intro w hSw; (try dsimp only at hSw); go_simp; (try with_reducible rfl); done)
  go_frame
  refine rcons 6 rfl (by kernel_rfl) (fun K hK => ?_)
  go_simp
  refine (told_any _ _ _ _).mono ?_; rintro e wc1 ⟨⟨p4, rfl, hle1, hc1⟩, hb⟩; have HB1 := Lib.hid hb; have HC1 := Lib.hid hc1; clear hc1
  (try dsimp only)
  refine hK.out _ _ (keep_s hb hHeld) (fun hHeld2 => ?_)
  clear hK K hHeld
  have hHeld := hHeld2
  clear hHeld2
  (try go_frame)
  refine rcons 7 rfl (by kernel_rfl) (fun K hK => ?_)
  go_simp
  refine (digs_any _ _ _ _).mono ?_; rintro e wc2 ⟨⟨q4, rfl, hle2, hc2⟩, hb⟩; have HB2 := Lib.hid hb; have HC2 := Lib.hid hc2; clear hc2
  (try dsimp only)
  refine hK.out _ _ (keep_s hb hHeld) (fun hHeld2 => ?_)
  clear hK K hHeld
  have hHeld := hHeld2
  clear hHeld2
  (try go_frame)
  refine tky 9 (some 11) (v := ?_) rfl (by kernel_rfl) (by kernel_rfl) (by kernel_rfl) (fun _ _ _ h => h) ?_ hHeld ?_
  rotate_left
  focus (intro w hSw; (try dsimp only at hSw); go_simp; (try with_reducible rfl); done)
  go_frame
  refine rcons 10 rfl (by kernel_rfl) (fun K hK => ?_)
  go_simp
  refine (told_any _ _ _ _).mono ?_; rintro e wc3 ⟨⟨p5, rfl, hle3, hc3⟩, hb⟩; have HB3 := Lib.hid hb; have HC3 := Lib.hid hc3; clear hc3
  (try dsimp only)
  refine hK.out _ _ (keep_s hb hHeld) (fun hHeld2 => ?_)
  clear hK K hHeld
  have hHeld := hHeld2
  clear hHeld2
  (try go_frame)
  refine tky 11 (some 13) (v := ?_) rfl (by kernel_rfl) (by kernel_rfl) (by kernel_rfl) (fun _ _ _ h => h) ?_ hHeld ?_
  rotate_left
  focus (intro w hSw; (try dsimp only at hSw); go_simp; (try with_reducible rfl); done)
  go_frame
  refine rcons 12 rfl (by kernel_rfl) (fun K hK => ?_)
  go_simp
  refine (told_any _ _ _ _).mono ?_; rintro e wc4 ⟨⟨p6, rfl, hle4, hc4⟩, hb⟩; have HB4 := Lib.hid hb; have HC4 := Lib.hid hc4; clear hc4
  (try dsimp only)
  refine hK.out _ _ (keep_s hb hHeld) (fun hHeld2 => ?_)
  clear hK K hHeld
  have hHeld := hHeld2
  clear hHeld2
  (try go_frame)
  refine tky 14 (some 16) (v := ?_) rfl (by kernel_rfl) (by kernel_rfl) (by kernel_rfl) (fun _ _ _ h => h) ?_ hHeld ?_
  rotate_left
  focus (intro w hSw; (try dsimp only at hSw); go_simp; (try with_reducible rfl); done)
  go_frame
  refine rcons 15 rfl (by kernel_rfl) (fun K hK => ?_)
  go_simp
  refine (told_any _ _ _ _).mono ?_; rintro e wc5 ⟨⟨p7, rfl, hle5, hc5⟩, hb⟩; have HB5 := Lib.hid hb; have HC5 := Lib.hid hc5; clear hc5
  (try dsimp only)
  refine hK.out _ _ (keep_s hb hHeld) (fun hHeld2 => ?_)
  clear hK K hHeld
  have hHeld := hHeld2
  clear hHeld2
  (try go_frame)
  refine rcons 16 rfl (by kernel_rfl) (fun K hK => ?_)
  go_simp
  refine (digs_any _ _ _ _).mono ?_; rintro e wc6 ⟨⟨q7, rfl, hle6, hc6⟩, hb⟩; have HB6 := Lib.hid hb; have HC6 := Lib.hid hc6; clear hc6
  (try dsimp only)
  refine hK.out _ _ (keep_s hb hHeld) (fun hHeld2 => ?_)
  clear hK K hHeld
  have hHeld := hHeld2
  clear hHeld2
  (try go_frame)
  refine tky 17 (some 19) (v := ?_) rfl (by kernel_rfl) (by kernel_rfl) (by kernel_rfl) (fun _ _ _ h => h) ?_ hHeld ?_
  rotate_left
  focus (intro w hSw; (try dsimp only at hSw); go_simp; (try with_reducible rfl); done)
  go_frame
  refine rcons 18 rfl (by kernel_rfl) (fun K hK => ?_)
  go_simp
  refine (told_any _ _ _ _).mono ?_; rintro e wc7 ⟨⟨p8, rfl, hle7, hc7⟩, hb⟩; have HB7 := Lib.hid hb; have HC7 := Lib.hid hc7; clear hc7
  (try dsimp only)
  refine hK.out _ _ (keep_s hb hHeld) (fun hHeld2 => ?_)
  clear hK K hHeld
  have hHeld := hHeld2
  clear hHeld2
  (try go_frame)
  refine tky 19 (some 21) (v := ?_) rfl (by kernel_rfl) (by kernel_rfl) (by kernel_rfl) (fun _ _ _ h => h) ?_ hHeld ?_
  rotate_left
  focus (intro w hSw; (try dsimp only at hSw); go_simp; (try with_reducible rfl); done)
  go_frame
  refine rcons 20 rfl (by kernel_rfl) (fun K hK => ?_)
  go_simp
  refine hK.out _ _ (keep_s ((Below.refl _ _).alloc (Nat.le_refl _) _) hHeld) (fun hHeld2 => ?_)
  clear hK K hHeld
  have hHeld := hHeld2
  clear hHeld2
  (try go_frame)
  refine tky 21 (some 23) (v := ?_) rfl (by kernel_rfl) (by kernel_rfl) (by kernel_rfl) (fun _ _ _ h => h) ?_ hHeld ?_
  rotate_left
  focus (intro w hSw; (try dsimp only at hSw); go_simp; (try with_reducible rfl); done)
  go_frame
  refine tky 22 (some 24) (v := ?_) rfl (by kernel_rfl) (by kernel_rfl) (by kernel_rfl) (fun _ _ _ h => h) ?_ hHeld ?_
  rotate_left
  focus (intro w hSw; (try dsimp only at hSw); go_simp; (try with_reducible rfl); done)
  go_frame
  refine rcons 23 rfl (by kernel_rfl) (fun K hK => ?_)
  have hHx := hHeld; obtain ⟨hs1, hs2, lx, hs3, hs4⟩ := hHx
  go_simp
  refine hK.out _ _ (⟨⟨hs1.1.setCell (p := ⟨tb, 4, none⟩) (Nat.le_refl tb) _, by simpa [World.setCell] using hs1.2.1, hs1.2.2⟩, (World.cell?_setCell_other _ ⟨tb, 4, none⟩ ⟨tv, 0, none⟩ _ (by simp)).trans hs2, _, World.cell?_setCell_same _ _ _ hs3, by simp [hs4]⟩) (fun hHeld2 => ?_)
  clear hK K hHeld
  have hHeld := hHeld2
  clear hHeld2
  (try go_frame)
  refine wpAnyH_done (by kernel_rfl) ?_ _
  have t0 := HB0.out
  have t1 := t0.trans (HB1.out.mono t0.size)
  have t2 := t1.trans (HB2.out.mono t1.size)
  have t3 := t2.trans (HB3.out.mono t2.size)
  have t4 := t3.trans (HB4.out.mono t3.size)
  have t5 := t4.trans (HB5.out.mono t4.size)
  have t6 := t5.trans (HB6.out.mono t5.size)
  have t7 := t6.trans (HB7.out.mono t6.size)
  have s7 := Below.refl wc7.heap.size wc7
  have s6 : Below wc6.heap.size wc6 wc7 := HB7.out.trans (s7.mono HB7.out.size)
  have s5 : Below wc5.heap.size wc5 wc7 := HB6.out.trans (s6.mono HB6.out.size)
  have s4 : Below wc4.heap.size wc4 wc7 := HB5.out.trans (s5.mono HB5.out.size)
  have s3 : Below wc3.heap.size wc3 wc7 := HB4.out.trans (s4.mono HB4.out.size)
  have s2 : Below wc2.heap.size wc2 wc7 := HB3.out.trans (s3.mono HB3.out.size)
  have s1 : Below wc1.heap.size wc1 wc7 := HB2.out.trans (s2.mono HB2.out.size)
  have s0 : Below wc0.heap.size wc0 wc7 := HB1.out.trans (s1.mono HB1.out.size)
  have g0 := (s0.cell (p := ⟨_, _, none⟩) (lt_of_cell HC0.out)).trans HC0.out
  have g1 := (s1.cell (p := ⟨_, _, none⟩) (lt_of_cell HC1.out)).trans HC1.out
  have g2 := (s2.cell (p := ⟨_, _, none⟩) (lt_of_cell HC2.out)).trans HC2.out
  have g3 := (s3.cell (p := ⟨_, _, none⟩) (lt_of_cell HC3.out)).trans HC3.out
  have g4 := (s4.cell (p := ⟨_, _, none⟩) (lt_of_cell HC4.out)).trans HC4.out
  have g5 := (s5.cell (p := ⟨_, _, none⟩) (lt_of_cell HC5.out)).trans HC5.out
  have g6 := (s6.cell (p := ⟨_, _, none⟩) (lt_of_cell HC6.out)).trans HC6.out
  have g7 := (s7.cell (p := ⟨_, _, none⟩) (lt_of_cell HC7.out)).trans HC7.out
  have z0 : w.heap.size ≤ p2 := hle0
  have z1 : w.heap.size ≤ p4 := Nat.le_trans t0.size hle1
  have z2 : w.heap.size ≤ q4 := Nat.le_trans t1.size hle2
  have z3 : w.heap.size ≤ p5 := Nat.le_trans t2.size hle3
  have z4 : w.heap.size ≤ p6 := Nat.le_trans t3.size hle4
  have z5 : w.heap.size ≤ p7 := Nat.le_trans t4.size hle5
  have z6 : w.heap.size ≤ q7 := Nat.le_trans t5.size hle6
  have z7 : w.heap.size ≤ p8 := Nat.le_trans t6.size hle7
  have hlt : tb < w.heap.size := heap_lt hh
  have hT : wc7.heap[tb]? = some (.cells #[d, m, sm, a, l0] T0 (0, 0)) := (t7.block _ hlt).trans hh
  have hA : (wc7.alloc (.cells #[.func (.func 24) #[] #[], .func (.func 25) #[] #[], .func (.func 27) #[] #[], .bool false, .func (.func 46) #[] #[.pointer (some ⟨p2, 0, none⟩)], .func (.func 22) #[] #[], Value.nilFunc, .bool true, .func (.func 30) #[] #[], Value.nilFunc, Value.nilFunc, .bool false, .func (.func 48) #[] #[.pointer (some ⟨q4, 0, none⟩)], .func (.func 22) #[] #[], Value.nilFunc, .bool true, .func (.func 46) #[] #[.pointer (some ⟨p5, 0, none⟩)], .func (.func 34) #[] #[], Value.nilFunc, .bool false, .func (.func 46) #[] #[.pointer (some ⟨p6, 0, none⟩)], .func (.func 22) #[] #[], Value.nilFunc, .bool false, .func (.func 48) #[] #[.pointer (some ⟨q7, 0, none⟩)], .func (.func 37) #[] #[], .func (.func 38) #[] #[], .bool false, .func (.func 46) #[] #[.pointer (some ⟨p8, 0, none⟩)], Value.nilFunc, Value.nilFunc, .bool true] 41 (0, 0))).heap[tb]? = some (.cells #[d, m, sm, a, l0] T0 (0, 0)) := heap_old hT
  have hL : (wc7.alloc (.cells #[.func (.func 24) #[] #[], .func (.func 25) #[] #[], .func (.func 27) #[] #[], .bool false, .func (.func 46) #[] #[.pointer (some ⟨p2, 0, none⟩)], .func (.func 22) #[] #[], Value.nilFunc, .bool true, .func (.func 30) #[] #[], Value.nilFunc, Value.nilFunc, .bool false, .func (.func 48) #[] #[.pointer (some ⟨q4, 0, none⟩)], .func (.func 22) #[] #[], Value.nilFunc, .bool true, .func (.func 46) #[] #[.pointer (some ⟨p5, 0, none⟩)], .func (.func 34) #[] #[], Value.nilFunc, .bool false, .func (.func 46) #[] #[.pointer (some ⟨p6, 0, none⟩)], .func (.func 22) #[] #[], Value.nilFunc, .bool false, .func (.func 48) #[] #[.pointer (some ⟨q7, 0, none⟩)], .func (.func 37) #[] #[], .func (.func 38) #[] #[], .bool false, .func (.func 46) #[] #[.pointer (some ⟨p8, 0, none⟩)], Value.nilFunc, Value.nilFunc, .bool true] 41 (0, 0))).heap[wc7.heap.size]? = some (.cells #[.func (.func 24) #[] #[], .func (.func 25) #[] #[], .func (.func 27) #[] #[], .bool false, .func (.func 46) #[] #[.pointer (some ⟨p2, 0, none⟩)], .func (.func 22) #[] #[], Value.nilFunc, .bool true, .func (.func 30) #[] #[], Value.nilFunc, Value.nilFunc, .bool false, .func (.func 48) #[] #[.pointer (some ⟨q4, 0, none⟩)], .func (.func 22) #[] #[], Value.nilFunc, .bool true, .func (.func 46) #[] #[.pointer (some ⟨p5, 0, none⟩)], .func (.func 34) #[] #[], Value.nilFunc, .bool false, .func (.func 46) #[] #[.pointer (some ⟨p6, 0, none⟩)], .func (.func 22) #[] #[], Value.nilFunc, .bool false, .func (.func 48) #[] #[.pointer (some ⟨q7, 0, none⟩)], .func (.func 37) #[] #[], .func (.func 38) #[] #[], .bool false, .func (.func 46) #[] #[.pointer (some ⟨p8, 0, none⟩)], Value.nilFunc, Value.nilFunc, .bool true] 41 (0, 0)) := heap_new _ _ _ rfl
  have hF := on_pset hA (i := 4) (.slice (some ⟨wc7.heap.size, 0, none⟩) 8 8) rfl
  have sz7 : w.heap.size ≤ wc7.heap.size := t7.size
  have nb7 : wc7.heap.size ≠ tb := by omega
  have keepc : ∀ p v, w.heap.size ≤ p → wc7.cell? ⟨p, 0, none⟩ = some v → ((wc7.alloc (.cells #[.func (.func 24) #[] #[], .func (.func 25) #[] #[], .func (.func 27) #[] #[], .bool false, .func (.func 46) #[] #[.pointer (some ⟨p2, 0, none⟩)], .func (.func 22) #[] #[], Value.nilFunc, .bool true, .func (.func 30) #[] #[], Value.nilFunc, Value.nilFunc, .bool false, .func (.func 48) #[] #[.pointer (some ⟨q4, 0, none⟩)], .func (.func 22) #[] #[], Value.nilFunc, .bool true, .func (.func 46) #[] #[.pointer (some ⟨p5, 0, none⟩)], .func (.func 34) #[] #[], Value.nilFunc, .bool false, .func (.func 46) #[] #[.pointer (some ⟨p6, 0, none⟩)], .func (.func 22) #[] #[], Value.nilFunc, .bool false, .func (.func 48) #[] #[.pointer (some ⟨q7, 0, none⟩)], .func (.func 37) #[] #[], .func (.func 38) #[] #[], .bool false, .func (.func 46) #[] #[.pointer (some ⟨p8, 0, none⟩)], Value.nilFunc, Value.nilFunc, .bool true] 41 (0, 0))).setCell ⟨tb, 4, none⟩ (.slice (some ⟨wc7.heap.size, 0, none⟩) 8 8)).cell? ⟨p, 0, none⟩ = some v := fun p v hp h => by
    rw [World.cell?_setCell_other _ ⟨tb, 4, none⟩ ⟨p, 0, none⟩ _ (by simp)]
    exact (((Below.refl wc7.heap.size wc7).alloc (Nat.le_refl _) _).cell (p := ⟨p, 0, none⟩) (lt_of_cell h)).trans h
  have hLF : ((wc7.alloc (.cells #[.func (.func 24) #[] #[], .func (.func 25) #[] #[], .func (.func 27) #[] #[], .bool false, .func (.func 46) #[] #[.pointer (some ⟨p2, 0, none⟩)], .func (.func 22) #[] #[], Value.nilFunc, .bool true, .func (.func 30) #[] #[], Value.nilFunc, Value.nilFunc, .bool false, .func (.func 48) #[] #[.pointer (some ⟨q4, 0, none⟩)], .func (.func 22) #[] #[], Value.nilFunc, .bool true, .func (.func 46) #[] #[.pointer (some ⟨p5, 0, none⟩)], .func (.func 34) #[] #[], Value.nilFunc, .bool false, .func (.func 46) #[] #[.pointer (some ⟨p6, 0, none⟩)], .func (.func 22) #[] #[], Value.nilFunc, .bool false, .func (.func 48) #[] #[.pointer (some ⟨q7, 0, none⟩)], .func (.func 37) #[] #[], .func (.func 38) #[] #[], .bool false, .func (.func 46) #[] #[.pointer (some ⟨p8, 0, none⟩)], Value.nilFunc, Value.nilFunc, .bool true] 41 (0, 0))).setCell ⟨tb, 4, none⟩ (.slice (some ⟨wc7.heap.size, 0, none⟩) 8 8)).heap[wc7.heap.size]? = some (.cells #[.func (.func 24) #[] #[], .func (.func 25) #[] #[], .func (.func 27) #[] #[], .bool false, .func (.func 46) #[] #[.pointer (some ⟨p2, 0, none⟩)], .func (.func 22) #[] #[], Value.nilFunc, .bool true, .func (.func 30) #[] #[], Value.nilFunc, Value.nilFunc, .bool false, .func (.func 48) #[] #[.pointer (some ⟨q4, 0, none⟩)], .func (.func 22) #[] #[], Value.nilFunc, .bool true, .func (.func 46) #[] #[.pointer (some ⟨p5, 0, none⟩)], .func (.func 34) #[] #[], Value.nilFunc, .bool false, .func (.func 46) #[] #[.pointer (some ⟨p6, 0, none⟩)], .func (.func 22) #[] #[], Value.nilFunc, .bool false, .func (.func 48) #[] #[.pointer (some ⟨q7, 0, none⟩)], .func (.func 37) #[] #[], .func (.func 38) #[] #[], .bool false, .func (.func 46) #[] #[.pointer (some ⟨p8, 0, none⟩)], Value.nilFunc, Value.nilFunc, .bool true] 41 (0, 0)) := by
    rw [Below.heap_setCell _ _ _ _ nb7]; exact hL
  have HE := Lib.hid (And.intro hF (And.intro hLF hHeld.1.1))
  have HG := Lib.hid (And.intro (keepc _ _ z0 g0) (And.intro (keepc _ _ z1 g1) (And.intro (keepc _ _ z2 g2) (And.intro (keepc _ _ z3 g3) (And.intro (keepc _ _ z4 g4) (And.intro (keepc _ _ z5 g5) (And.intro (keepc _ _ z6 g6) (keepc _ _ z7 g7))))))))
  have HN : Hid (tb < wc7.heap.size ∧ tb < p2 ∧ tb < p4 ∧ tb < q4 ∧ tb < p5 ∧ tb < p6 ∧ tb < p7 ∧ tb < q7 ∧ tb < p8) := Lib.hid ⟨by omega, by omega, by omega, by omega, by omega, by omega, by omega, by omega, by omega⟩
  have HK : Hid (∀ b, b < w.heap.size → b ≠ tb → ((wc7.alloc (.cells #[.func (.func 24) #[] #[], .func (.func 25) #[] #[], .func (.func 27) #[] #[], .bool false, .func (.func 46) #[] #[.pointer (some ⟨p2, 0, none⟩)], .func (.func 22) #[] #[], Value.nilFunc, .bool true, .func (.func 30) #[] #[], Value.nilFunc, Value.nilFunc, .bool false, .func (.func 48) #[] #[.pointer (some ⟨q4, 0, none⟩)], .func (.func 22) #[] #[], Value.nilFunc, .bool true, .func (.func 46) #[] #[.pointer (some ⟨p5, 0, none⟩)], .func (.func 34) #[] #[], Value.nilFunc, .bool false, .func (.func 46) #[] #[.pointer (some ⟨p6, 0, none⟩)], .func (.func 22) #[] #[], Value.nilFunc, .bool false, .func (.func 48) #[] #[.pointer (some ⟨q7, 0, none⟩)], .func (.func 37) #[] #[], .func (.func 38) #[] #[], .bool false, .func (.func 46) #[] #[.pointer (some ⟨p8, 0, none⟩)], Value.nilFunc, Value.nilFunc, .bool true] 41 (0, 0))).setCell ⟨tb, 4, none⟩ (.slice (some ⟨wc7.heap.size, 0, none⟩) 8 8)).heap[b]? = w.heap[b]?) := Lib.hid fun b hb hn => by
    rw [Below.heap_setCell _ _ _ _ hn, Below.heap_alloc _ _ _ (by omega)]
    exact t7.block b hb
  clear keepc hF hLF hHeld
  go_wp2_with fail
  go_end0
  all_goals exact ⟨rfl, ⟨_, HE.out.1, _, _, _, _, _, _, _, _, _, rfl, HE.out.2.1, HN.out, HG.out⟩, HE.out.2.2, HK.out⟩
end Go.Proofs.YtjhgiojmlkeccaaGreatDoor
namespace Go.Proofs.YtjhgiojmlkeccaaGreatDoor
open Go.RowKit Go.Shelf
set_option maxRecDepth 100000 in
theorem on_add (b o : Nat) (a : Int) (ha : 0 ≤ a ∧ a ≤ 100000) (w : World) (hc : w.cell? ⟨b, o, none⟩ = some (.int .i32 a)) (hz : w.frozen? ⟨b, o, none⟩ = false) :
    Calls Tryz.prog 19 #[.pointer (some ⟨b, o, none⟩), .int .i32 1] w fun e w' => e = .returned (.int .i32 (a + 1)) ∧ w' = w.setCell ⟨b, o, none⟩ (.int .i32 (a + 1)) := by
  have hw : IntKind.i32.wrap (a + 1) = a + 1 := by
    rw [IntKind.wrap_i32]; omega
  have hadd := run_call_add (P := Tryz.prog) Tryz.func40 (by kernel_rfl) (by kernel_rfl) (by kernel_rfl) .i32 (by kernel_rfl) (y := 1) (s := a + 1) hc hz (by simp [go_sem, hw])
  clear hw
  go_enter Tryz.func19, Tryz.ntmps19
  go_wp2
  go_ret
  exact ⟨rfl, rfl⟩
theorem ac1_ent : ∀ args w, (callFunc 21 args).run Tryz.prog w = .ok (.enter 21 args) w := enters_of Tryz.func21 (by kernel_rfl) rfl
set_option maxRecDepth 100000 in
set_option maxHeartbeats 4000000 in
theorem all_first (tb : Nat) (l0 : Value) (w : World) (hh : w.heap[tb]? = some (.cells #[.int .u32 0, .int .i32 0, .int .u32 0, .int .i32 0, l0] 63 (0, 0))) :
    Calls Tryz.prog 18 #[.pointer (some ⟨tb, 0, none⟩)] w fun e w' => (∃ l1, e = .returned l1 ∧ w'.heap[tb]? = some (.cells #[.int .u32 1, .int .i32 0, .int .u32 0, .int .i32 1, l1] 63 (0, 0)) ∧ TabP tb l1 w') ∧ Below tb w w' := by
  have hlt : tb < w.heap.size := heap_lt hh
  obtain ⟨w1, hw1⟩ : ∃ w1, w.alloc (.cells #[.pointer (some ⟨tb, 0, none⟩)] 46 (0, 0)) = w1 := ⟨_, rfl⟩
  have h1 : w1.heap[tb]? = some (.cells #[.int .u32 0, .int .i32 0, .int .u32 0, .int .i32 0, l0] 63 (0, 0)) := by rw [← hw1]; exact heap_old hh
  have hv : w1.heap[w.heap.size]? = some (.cells #[.pointer (some ⟨tb, 0, none⟩)] 46 (0, 0)) := by rw [← hw1]; exact heap_new _ _ _ rfl
  have hb1 : Below tb w w1 := by rw [← hw1]; exact (Below.refl tb w).alloc (Nat.le_of_lt hlt) _
  have c3 : w1.cell? ⟨tb, 3, none⟩ = some (.int .i32 0) := (Lib.cell_of_heap h1 3).trans rfl
  have z3 : w1.frozen? ⟨tb, 3, none⟩ = false := Lib.frozen_of_heap h1 3
  have h2 : (w1.setCell ⟨tb, 3, none⟩ (.int .i32 (0 + 1))).heap[tb]? = some (.cells #[.int .u32 0, .int .i32 0, .int .u32 0, .int .i32 1, l0] 63 (0, 0)) := on_pset h1 _ rfl
  have hv2 : (w1.setCell ⟨tb, 3, none⟩ (.int .i32 (0 + 1))).heap[w.heap.size]? = some (.cells #[.pointer (some ⟨tb, 0, none⟩)] 46 (0, 0)) := by
    rw [Below.heap_setCell _ _ _ _ (show w.heap.size ≠ tb by omega)]; exact hv
  have hb2 : Below tb w (w1.setCell ⟨tb, 3, none⟩ (.int .i32 (0 + 1))) := hb1.setCell (p := ⟨tb, 3, none⟩) (Nat.le_refl tb) _
  have ct1 : w1.cell? ⟨w.heap.size, 0, none⟩ = some (.pointer (some ⟨tb, 0, none⟩)) := (Lib.cell_of_heap hv 0).trans rfl
  have ct2 : (w1.setCell ⟨tb, 3, none⟩ (.int .i32 (0 + 1))).cell? ⟨w.heap.size, 0, none⟩ = some (.pointer (some ⟨tb, 0, none⟩)) := (Lib.cell_of_heap hv2 0).trans rfl
  obtain ⟨w2, hw2⟩ : ∃ w2, w1.setCell ⟨tb, 3, none⟩ (.int .i32 (0 + 1)) = w2 := ⟨_, rfl⟩
  rw [hw2] at h2 hb2 hv2 ct2
  have hs2 : w.heap.size < w2.heap.size := heap_lt hv2
  have HD := Lib.hid (on_do tb 21 63 0 1 l0 #[.pointer (some ⟨w.heap.size, 0, none⟩)] (TabP tb) w2 h2 ac1_ent (Lib.hid fun l W W' h hk => h.kept hk) (Lib.hid fun W hW hb hk => tab_made w.heap.size tb _ _ _ _ l0 63 W (by omega) ((Lib.cell_of_heap ((hk w.heap.size (by omega)).trans hv2) 0).trans rfl) hW))
  go_enter Tryz.func18, Tryz.ntmps18
  go_upto_region 1 with fail
  try rw [hw1]
  obtain ⟨tv, htv⟩ : ∃ tv, w.heap.size = tv := ⟨_, rfl⟩
  rw [htv] at ct1 ct2 HD
  try rw [htv]
  go_wp2_with fail
  refine (on_add tb 3 0 (by omega) w1 c3 z3).mono ?_; rintro e w9 ⟨rfl, rfl⟩
  rw [hw2]
  go_wp2_with fail
  refine HD.out.mono ?_; rintro e w5 ⟨rfl, ⟨l1, h5, hp5⟩, hb5, hk5⟩
  have c5 : w5.cell? ⟨tv, 0, none⟩ = some (.pointer (some ⟨tb, 0, none⟩)) := (Lib.cell_of_heap ((hk5 tv (by omega) (by omega)).trans (by rw [← htv]; exact hv2)) 0).trans rfl
  have l5 : w5.cell? ⟨tb, 4, none⟩ = some l1 := (Lib.cell_of_heap h5 4).trans rfl
  have HE := Lib.hid (And.intro h5 (And.intro hp5 (hb2.trans hb5)))
  clear h5 hp5 hb5 hk5 hb2 HD
  go_wp2_with fail
  go_ret
  exact ⟨⟨l1, rfl, HE.out.1, HE.out.2.1⟩, HE.out.2.2⟩
set_option maxRecDepth 100000 in
set_option maxHeartbeats 4000000 in
theorem all_again (tb : Nat) (a : Int) (ha : 0 ≤ a ∧ a ≤ 100000) (l1 : Value) (w : World) (hh : w.heap[tb]? = some (.cells #[.int .u32 1, .int .i32 0, .int .u32 0, .int .i32 a, l1] 63 (0, 0))) (hp : TabP tb l1 w) :
    Calls Tryz.prog 18 #[.pointer (some ⟨tb, 0, none⟩)] w fun e w' => (e = .returned l1 ∧ w'.heap[tb]? = some (.cells #[.int .u32 1, .int .i32 0, .int .u32 0, .int .i32 (a + 1), l1] 63 (0, 0)) ∧ TabP tb l1 w') ∧ Below tb w w' := by
  have hlt : tb < w.heap.size := heap_lt hh
  obtain ⟨w1, hw1⟩ : ∃ w1, w.alloc (.cells #[.pointer (some ⟨tb, 0, none⟩)] 46 (0, 0)) = w1 := ⟨_, rfl⟩
  have h1 : w1.heap[tb]? = some (.cells #[.int .u32 1, .int .i32 0, .int .u32 0, .int .i32 a, l1] 63 (0, 0)) := by rw [← hw1]; exact heap_old hh
  have hv : w1.heap[w.heap.size]? = some (.cells #[.pointer (some ⟨tb, 0, none⟩)] 46 (0, 0)) := by rw [← hw1]; exact heap_new _ _ _ rfl
  have hb1 : Below tb w w1 := by rw [← hw1]; exact (Below.refl tb w).alloc (Nat.le_of_lt hlt) _
  have hp1 : TabP tb l1 w1 := by
    obtain ⟨lb, p2, p4, q4, p5, p6, p7, q7, p8, e, h0, hn, c1, c2, c3, c4, c5, c6, c7, c8⟩ := hp
    have hbw : Below w.heap.size w w1 := by rw [← hw1]; exact (Below.refl _ w).alloc (Nat.le_refl _) _
    have ck : ∀ p v, w.cell? ⟨p, 0, none⟩ = some v → w1.cell? ⟨p, 0, none⟩ = some v := fun p v h => (hbw.cell (p := ⟨p, 0, none⟩) (lt_of_cell h)).trans h
    exact ⟨lb, p2, p4, q4, p5, p6, p7, q7, p8, e, (hbw.block _ (heap_lt h0)).trans h0, hn, ck _ _ c1, ck _ _ c2, ck _ _ c3, ck _ _ c4, ck _ _ c5, ck _ _ c6, ck _ _ c7, ck _ _ c8⟩
  have c3 : w1.cell? ⟨tb, 3, none⟩ = some (.int .i32 a) := (Lib.cell_of_heap h1 3).trans rfl
  have z3 : w1.frozen? ⟨tb, 3, none⟩ = false := Lib.frozen_of_heap h1 3
  have h2 : (w1.setCell ⟨tb, 3, none⟩ (.int .i32 (a + 1))).heap[tb]? = some (.cells #[.int .u32 1, .int .i32 0, .int .u32 0, .int .i32 (a + 1), l1] 63 (0, 0)) := on_pset h1 _ rfl
  have hv2 : (w1.setCell ⟨tb, 3, none⟩ (.int .i32 (a + 1))).heap[w.heap.size]? = some (.cells #[.pointer (some ⟨tb, 0, none⟩)] 46 (0, 0)) := by
    rw [Below.heap_setCell _ _ _ _ (show w.heap.size ≠ tb by omega)]; exact hv
  have hb2 : Below tb w (w1.setCell ⟨tb, 3, none⟩ (.int .i32 (a + 1))) := hb1.setCell (p := ⟨tb, 3, none⟩) (Nat.le_refl tb) _
  have hp2 : TabP tb l1 (w1.setCell ⟨tb, 3, none⟩ (.int .i32 (a + 1))) := hp1.kept fun b hb => Below.heap_setCell _ _ _ _ hb
  have ct1 : w1.cell? ⟨w.heap.size, 0, none⟩ = some (.pointer (some ⟨tb, 0, none⟩)) := (Lib.cell_of_heap hv 0).trans rfl
  have ct2 : (w1.setCell ⟨tb, 3, none⟩ (.int .i32 (a + 1))).cell? ⟨w.heap.size, 0, none⟩ = some (.pointer (some ⟨tb, 0, none⟩)) := (Lib.cell_of_heap hv2 0).trans rfl
  have d0 : (w1.setCell ⟨tb, 3, none⟩ (.int .i32 (a + 1))).cell? ⟨tb, 0, none⟩ = some (.int .u32 1) := (Lib.cell_of_heap h2 0).trans rfl
  have l4 : (w1.setCell ⟨tb, 3, none⟩ (.int .i32 (a + 1))).cell? ⟨tb, 4, none⟩ = some l1 := (Lib.cell_of_heap h2 4).trans rfl
  obtain ⟨w2, hw2⟩ : ∃ w2, w1.setCell ⟨tb, 3, none⟩ (.int .i32 (a + 1)) = w2 := ⟨_, rfl⟩
  rw [hw2] at h2 hb2 ct2 d0 l4 hp2
  have HE := Lib.hid (And.intro h2 (And.intro hp2 hb2))
  clear h1 hv hv2 hb1 hp hp1 h2 hb2 hp2 hh
  go_enter Tryz.func18, Tryz.ntmps18
  go_upto_region 1 with fail
  try rw [hw1]
  obtain ⟨tv, htv⟩ : ∃ tv, w.heap.size = tv := ⟨_, rfl⟩
  rw [htv] at ct1 ct2
  try rw [htv]
  go_wp2_with fail
  refine (on_add tb 3 a ha w1 c3 z3).mono ?_; rintro e w9 ⟨rfl, rfl⟩
  rw [hw2]
  go_wp2_with fail
  refine (on_did tb _ w2 d0).mono ?_; rintro e w5 ⟨rfl, rfl⟩
  go_wp2_with fail
  go_ret
  exact ⟨⟨rfl, HE.out.1, HE.out.2.1⟩, HE.out.2.2⟩
end Go.Proofs.YtjhgiojmlkeccaaGreatDoor
namespace Go.Proofs.YtjhgiojmlkeccaaGreatDoor
open Go.RowKit Go.Shelf
set_option maxRecDepth 100000 in
set_option maxHeartbeats 4000000 in
theorem of_low (w : World) :
    Calls Tryz.prog 15 #[.int .u8 0] w fun e w' => e = .returned (.tuple #[.agg #[.nilFunc, .nilFunc, .nilFunc, .bool false], .int .i64 2]) ∧ Below w.heap.size w w' := by
  go_enter Tryz.func15, Tryz.ntmps15
  have HL : ((w.alloc (.cells #[.nilFunc, .nilFunc, .nilFunc, .bool false] 41 (0, 0))).alloc (.cells #[.int .u32 0, .int .i32 0, .int .u32 0, .int .i32 0, .slice none 0 0] 63 (0, 0))).heap[w.heap.size]? = some (.cells #[.nilFunc, .nilFunc, .nilFunc, .bool false] 41 (0, 0)) := (heap_old (heap_new _ _ _ rfl))
  have HK0 := Lib.hid HL
  clear HL
  go_wp2_with (refine wpList_store_row rfl 41 _ _ rfl w.heap.size #[.nilFunc, .nilFunc, .nilFunc, .bool false] rfl rfl 41 #[.nilFunc, .nilFunc, .nilFunc, .bool false] HK0.out (by kernel_rfl) rfl (by kernel_rfl) ?_)
  have HR := setRow_heap _ _ _ #[.nilFunc, .nilFunc, .nilFunc, .bool false] _ _ HK0.out
  obtain ⟨wf, hwf⟩ : ∃ wf : World, wf = World.setRow ((w.alloc (.cells #[.nilFunc, .nilFunc, .nilFunc, .bool false] 41 (0, 0))).alloc (.cells #[.int .u32 0, .int .i32 0, .int .u32 0, .int .i32 0, .slice none 0 0] 63 (0, 0))) w.heap.size #[.nilFunc, .nilFunc, .nilFunc, .bool false] := ⟨_, rfl⟩
  rw [← hwf] at HR
  rw [← hwf]
  have r0 : wf.cell? ⟨w.heap.size, 0, none⟩ = some (.nilFunc) := (Lib.cell_of_heap HR 0).trans rfl
  have r1 : wf.cell? ⟨w.heap.size, 1, none⟩ = some (.nilFunc) := (Lib.cell_of_heap HR 1).trans rfl
  have r2 : wf.cell? ⟨w.heap.size, 2, none⟩ = some (.nilFunc) := (Lib.cell_of_heap HR 2).trans rfl
  have r3 : wf.cell? ⟨w.heap.size, 3, none⟩ = some (.bool false) := (Lib.cell_of_heap HR 3).trans rfl
  refine bodyPost_ret (v := .tuple #[.agg #[.nilFunc, .nilFunc, .nilFunc, .bool false], .int .i64 2]) (by simp [results, Tryz.results15, go_sem, r0, r1, r2, r3]; try rfl) rfl ?_
  rw [hwf]
  exact ⟨rfl, below_setRow (((Below.refl _ _).alloc (Nat.le_refl _) _).alloc (by simp) _) (Nat.le_refl _) _⟩
set_option maxRecDepth 100000 in
set_option maxHeartbeats 4000000 in
theorem of_high (k : Int) (h1 : 9 ≤ k) (h2 : k ≤ 255) (w : World) :
    Calls Tryz.prog 15 #[.int .u8 k] w fun e w' => e = .returned (.tuple #[.agg #[.nilFunc, .nilFunc, .nilFunc, .bool false], .int .i64 2]) ∧ Below w.heap.size w w' := by
  have hk1 : decide (k < 1) = false := by simp; omega
  have hk2 : decide (8 < k) = true := by simp; omega
  go_enter Tryz.func15, Tryz.ntmps15
  go_wp2_with fail
  refine (all_first (w.heap.size + 1) _ _ (heap_new _ _ _ (by simp))).mono ?_; rintro e w1 ⟨⟨l1, rfl, g1, hp1⟩, hb1⟩
  have hz1 : w.heap.size + 1 < w1.heap.size := heap_lt g1
  have k0 : w1.heap[w.heap.size]? = some (.cells #[.nilFunc, .nilFunc, .nilFunc, .bool false] 41 (0, 0)) := (hb1.block _ (by omega)).trans (heap_old (heap_new _ _ _ rfl))
  have hbw1 : Below w.heap.size w w1 := (((Below.refl _ _).alloc (Nat.le_refl _) _).alloc (by simp) _).trans (hb1.mono (by omega))
  have hq1 := hp1
  obtain ⟨lb, p2, p4, q4, p5, p6, p7, q7, p8, rfl, h0, hn, hc1, hc2, hc3, hc4, hc5, hc6, hc7, hc8⟩ := hp1
  have HQ := Lib.hid (And.intro hq1 (And.intro g1 hbw1))
  have HK0 := Lib.hid k0
  clear hc1 hc2 hc3 hc4 hc5 hc6 hc7 hc8 hq1 g1 hbw1 k0 h0 hn
  clear hb1
  go_wp2_with (refine wpList_store_row rfl 41 _ _ rfl w.heap.size #[.nilFunc, .nilFunc, .nilFunc, .bool false] rfl rfl 41 #[.nilFunc, .nilFunc, .nilFunc, .bool false] HK0.out (by kernel_rfl) rfl (by kernel_rfl) ?_)
  have HR := setRow_heap _ _ _ #[.nilFunc, .nilFunc, .nilFunc, .bool false] _ _ HK0.out
  obtain ⟨wf, hwf⟩ : ∃ wf : World, wf = World.setRow (w1) w.heap.size #[.nilFunc, .nilFunc, .nilFunc, .bool false] := ⟨_, rfl⟩
  rw [← hwf] at HR
  rw [← hwf]
  have r0 : wf.cell? ⟨w.heap.size, 0, none⟩ = some (.nilFunc) := (Lib.cell_of_heap HR 0).trans rfl
  have r1 : wf.cell? ⟨w.heap.size, 1, none⟩ = some (.nilFunc) := (Lib.cell_of_heap HR 1).trans rfl
  have r2 : wf.cell? ⟨w.heap.size, 2, none⟩ = some (.nilFunc) := (Lib.cell_of_heap HR 2).trans rfl
  have r3 : wf.cell? ⟨w.heap.size, 3, none⟩ = some (.bool false) := (Lib.cell_of_heap HR 3).trans rfl
  refine bodyPost_ret (v := .tuple #[.agg #[.nilFunc, .nilFunc, .nilFunc, .bool false], .int .i64 2]) (by simp [results, Tryz.results15, go_sem, r0, r1, r2, r3]; try rfl) rfl ?_
  rw [hwf]
  exact ⟨rfl, below_setRow HQ.out.2.2 (Nat.le_refl _) _⟩
set_option maxRecDepth 100000 in
set_option maxHeartbeats 4000000 in
theorem of_1 (w : World) :
    Calls Tryz.prog 15 #[.int .u8 1] w fun e w' => (e = .returned (.tuple #[.agg #[.func (.func 24) #[] #[], .func (.func 25) #[] #[], .func (.func 27) #[] #[], .bool false], .int .i64 0])) ∧ Below w.heap.size w w' := by
  go_enter Tryz.func15, Tryz.ntmps15
  go_wp2_with fail
  refine (all_first (w.heap.size + 1) _ _ (heap_new _ _ _ (by simp))).mono ?_; rintro e w1 ⟨⟨l1, rfl, h1, hp1⟩, hb1⟩
  have hz1 : w.heap.size + 1 < w1.heap.size := heap_lt h1
  have k0 : w1.heap[w.heap.size]? = some (.cells #[.nilFunc, .nilFunc, .nilFunc, .bool false] 41 (0, 0)) := (hb1.block _ (by omega)).trans (heap_old (heap_new _ _ _ rfl))
  have hbw1 : Below w.heap.size w w1 := (((Below.refl _ _).alloc (Nat.le_refl _) _).alloc (by simp) _).trans (hb1.mono (by omega))
  have hq1 := hp1
  obtain ⟨lb, p2, p4, q4, p5, p6, p7, q7, p8, rfl, h0, hn, hc1, hc2, hc3, hc4, hc5, hc6, hc7, hc8⟩ := hp1
  have HQ := Lib.hid (And.intro hq1 (And.intro h1 hbw1))
  have HK0 := Lib.hid k0
  clear hc1 hc2 hc3 hc4 hc5 hc6 hc7 hc8 hq1 h1 hbw1 k0 h0 hn
  clear hb1
  go_wp2_with fail
  refine (all_again (w.heap.size + 1) 1 (by omega) _ w1 HQ.out.2.1 HQ.out.1).mono ?_; rintro e w2 ⟨⟨rfl, h2, hp2⟩, hb2⟩
  have k2 : w2.heap[w.heap.size]? = some (.cells #[.nilFunc, .nilFunc, .nilFunc, .bool false] 41 (0, 0)) := (hb2.block _ (by omega)).trans HK0.out
  obtain ⟨lb', p2, p4, q4, p5, p6, p7, q7, p8, he, h0, hn, hc1, hc2, hc3, hc4, hc5, hc6, hc7, hc8⟩ := hp2
  obtain rfl : lb = lb' := by injection he with he _ _; injection he with he; injection he
  have HB := Lib.hid (HQ.out.2.2.trans (hb2.mono (by omega)))
  have HK := Lib.hid k2
  have HC := Lib.hid (And.intro hc1 (And.intro hc2 (And.intro hc3 (And.intro hc4 (And.intro hc5 (And.intro hc6 (And.intro hc7 hc8)))))))
  have HN := Lib.hid hn
  have hlw : w.heap.size < lb := by have := hn.1; omega
  have d0 : w2.cell? ⟨lb, 0, none⟩ = some (.func (.func 24) #[] #[]) := (Lib.cell_of_heap h0 0).trans rfl
  have d1 : w2.cell? ⟨lb, 1, none⟩ = some (.func (.func 25) #[] #[]) := (Lib.cell_of_heap h0 1).trans rfl
  have d2 : w2.cell? ⟨lb, 2, none⟩ = some (.func (.func 27) #[] #[]) := (Lib.cell_of_heap h0 2).trans rfl
  have d3 : w2.cell? ⟨lb, 3, none⟩ = some (.bool false) := (Lib.cell_of_heap h0 3).trans rfl
  clear he h0 hn hc1 hc2 hc3 hc4 hc5 hc6 hc7 hc8 hb2 h2 k2
  go_wp2_with (refine wpList_store_row rfl 41 _ _ rfl w.heap.size #[.func (.func 24) #[] #[], .func (.func 25) #[] #[], .func (.func 27) #[] #[], .bool false] rfl rfl 41 #[.nilFunc, .nilFunc, .nilFunc, .bool false] HK.out (by kernel_rfl) rfl (by kernel_rfl) ?_)
  have HR := setRow_heap _ _ _ #[.func (.func 24) #[] #[], .func (.func 25) #[] #[], .func (.func 27) #[] #[], .bool false] _ _ HK.out
  obtain ⟨wf, hwf⟩ : ∃ wf : World, wf = World.setRow (w2) w.heap.size #[.func (.func 24) #[] #[], .func (.func 25) #[] #[], .func (.func 27) #[] #[], .bool false] := ⟨_, rfl⟩
  rw [← hwf] at HR
  rw [← hwf]
  have r0 : wf.cell? ⟨w.heap.size, 0, none⟩ = some (.func (.func 24) #[] #[]) := (Lib.cell_of_heap HR 0).trans rfl
  have r1 : wf.cell? ⟨w.heap.size, 1, none⟩ = some (.func (.func 25) #[] #[]) := (Lib.cell_of_heap HR 1).trans rfl
  have r2 : wf.cell? ⟨w.heap.size, 2, none⟩ = some (.func (.func 27) #[] #[]) := (Lib.cell_of_heap HR 2).trans rfl
  have r3 : wf.cell? ⟨w.heap.size, 3, none⟩ = some (.bool false) := (Lib.cell_of_heap HR 3).trans rfl
  refine bodyPost_ret (v := .tuple #[.agg #[.func (.func 24) #[] #[], .func (.func 25) #[] #[], .func (.func 27) #[] #[], .bool false], .int .i64 0]) (by simp [results, Tryz.results15, go_sem, r0, r1, r2, r3]; try rfl) rfl ?_
  rw [hwf]
  have kc : ∀ p v, w2.cell? ⟨p, 0, none⟩ = some v → w.heap.size < p → (w2.setRow w.heap.size #[.func (.func 24) #[] #[], .func (.func 25) #[] #[], .func (.func 27) #[] #[], .bool false]).cell? ⟨p, 0, none⟩ = some v := fun p v h hp => by rw [cell_setRow_other _ _ _ _ (by show p ≠ _; omega)]; exact h
  have HCO := HC.out
  obtain ⟨n0, n1, n2, n3, n4, n5, n6, n7, n8⟩ := HN.out
  exact ⟨rfl, below_setRow HB.out (Nat.le_refl _) _⟩
set_option maxRecDepth 100000 in
set_option maxHeartbeats 4000000 in
theorem of_2 (w : World) :
    Calls Tryz.prog 15 #[.int .u8 2] w fun e w' => (∃ p2 : Nat, e = .returned (.tuple #[.agg #[.func (.func 46) #[] #[.pointer (some ⟨p2, 0, none⟩)], .func (.func 22) #[] #[], Value.nilFunc, .bool true], .int .i64 0]) ∧ w'.cell? ⟨p2, 0, none⟩ = some (.func (.func 29) #[] #[])) ∧ Below w.heap.size w w' := by
  go_enter Tryz.func15, Tryz.ntmps15
  go_wp2_with fail
  refine (all_first (w.heap.size + 1) _ _ (heap_new _ _ _ (by simp))).mono ?_; rintro e w1 ⟨⟨l1, rfl, h1, hp1⟩, hb1⟩
  have hz1 : w.heap.size + 1 < w1.heap.size := heap_lt h1
  have k0 : w1.heap[w.heap.size]? = some (.cells #[.nilFunc, .nilFunc, .nilFunc, .bool false] 41 (0, 0)) := (hb1.block _ (by omega)).trans (heap_old (heap_new _ _ _ rfl))
  have hbw1 : Below w.heap.size w w1 := (((Below.refl _ _).alloc (Nat.le_refl _) _).alloc (by simp) _).trans (hb1.mono (by omega))
  have hq1 := hp1
  obtain ⟨lb, p2, p4, q4, p5, p6, p7, q7, p8, rfl, h0, hn, hc1, hc2, hc3, hc4, hc5, hc6, hc7, hc8⟩ := hp1
  have HQ := Lib.hid (And.intro hq1 (And.intro h1 hbw1))
  have HK0 := Lib.hid k0
  clear hc1 hc2 hc3 hc4 hc5 hc6 hc7 hc8 hq1 h1 hbw1 k0 h0 hn
  clear hb1
  go_wp2_with fail
  refine (all_again (w.heap.size + 1) 1 (by omega) _ w1 HQ.out.2.1 HQ.out.1).mono ?_; rintro e w2 ⟨⟨rfl, h2, hp2⟩, hb2⟩
  have k2 : w2.heap[w.heap.size]? = some (.cells #[.nilFunc, .nilFunc, .nilFunc, .bool false] 41 (0, 0)) := (hb2.block _ (by omega)).trans HK0.out
  obtain ⟨lb', p2, p4, q4, p5, p6, p7, q7, p8, he, h0, hn, hc1, hc2, hc3, hc4, hc5, hc6, hc7, hc8⟩ := hp2
  obtain rfl : lb = lb' := by injection he with he _ _; injection he with he; injection he
  have HB := Lib.hid (HQ.out.2.2.trans (hb2.mono (by omega)))
  have HK := Lib.hid k2
  have HC := Lib.hid (And.intro hc1 (And.intro hc2 (And.intro hc3 (And.intro hc4 (And.intro hc5 (And.intro hc6 (And.intro hc7 hc8)))))))
  have HN := Lib.hid hn
  have hlw : w.heap.size < lb := by have := hn.1; omega
  have d0 : w2.cell? ⟨lb, 4, none⟩ = some (.func (.func 46) #[] #[.pointer (some ⟨p2, 0, none⟩)]) := (Lib.cell_of_heap h0 4).trans rfl
  have d1 : w2.cell? ⟨lb, 5, none⟩ = some (.func (.func 22) #[] #[]) := (Lib.cell_of_heap h0 5).trans rfl
  have d2 : w2.cell? ⟨lb, 6, none⟩ = some (Value.nilFunc) := (Lib.cell_of_heap h0 6).trans rfl
  have d3 : w2.cell? ⟨lb, 7, none⟩ = some (.bool true) := (Lib.cell_of_heap h0 7).trans rfl
  clear he h0 hn hc1 hc2 hc3 hc4 hc5 hc6 hc7 hc8 hb2 h2 k2
  go_wp2_with (refine wpList_store_row rfl 41 _ _ rfl w.heap.size #[.func (.func 46) #[] #[.pointer (some ⟨p2, 0, none⟩)], .func (.func 22) #[] #[], Value.nilFunc, .bool true] rfl rfl 41 #[.nilFunc, .nilFunc, .nilFunc, .bool false] HK.out (by kernel_rfl) rfl (by kernel_rfl) ?_)
  have HR := setRow_heap _ _ _ #[.func (.func 46) #[] #[.pointer (some ⟨p2, 0, none⟩)], .func (.func 22) #[] #[], Value.nilFunc, .bool true] _ _ HK.out
  obtain ⟨wf, hwf⟩ : ∃ wf : World, wf = World.setRow (w2) w.heap.size #[.func (.func 46) #[] #[.pointer (some ⟨p2, 0, none⟩)], .func (.func 22) #[] #[], Value.nilFunc, .bool true] := ⟨_, rfl⟩
  rw [← hwf] at HR
  rw [← hwf]
  have r0 : wf.cell? ⟨w.heap.size, 0, none⟩ = some (.func (.func 46) #[] #[.pointer (some ⟨p2, 0, none⟩)]) := (Lib.cell_of_heap HR 0).trans rfl
  have r1 : wf.cell? ⟨w.heap.size, 1, none⟩ = some (.func (.func 22) #[] #[]) := (Lib.cell_of_heap HR 1).trans rfl
  have r2 : wf.cell? ⟨w.heap.size, 2, none⟩ = some (Value.nilFunc) := (Lib.cell_of_heap HR 2).trans rfl
  have r3 : wf.cell? ⟨w.heap.size, 3, none⟩ = some (.bool true) := (Lib.cell_of_heap HR 3).trans rfl
  refine bodyPost_ret (v := .tuple #[.agg #[.func (.func 46) #[] #[.pointer (some ⟨p2, 0, none⟩)], .func (.func 22) #[] #[], Value.nilFunc, .bool true], .int .i64 0]) (by simp [results, Tryz.results15, go_sem, r0, r1, r2, r3]; try rfl) rfl ?_
  rw [hwf]
  have kc : ∀ p v, w2.cell? ⟨p, 0, none⟩ = some v → w.heap.size < p → (w2.setRow w.heap.size #[.func (.func 46) #[] #[.pointer (some ⟨p2, 0, none⟩)], .func (.func 22) #[] #[], Value.nilFunc, .bool true]).cell? ⟨p, 0, none⟩ = some v := fun p v h hp => by rw [cell_setRow_other _ _ _ _ (by show p ≠ _; omega)]; exact h
  have HCO := HC.out
  obtain ⟨n0, n1, n2, n3, n4, n5, n6, n7, n8⟩ := HN.out
  exact ⟨⟨_, rfl, kc _ _ HCO.1 (by omega)⟩, below_setRow HB.out (Nat.le_refl _) _⟩
set_option maxRecDepth 100000 in
set_option maxHeartbeats 4000000 in
theorem of_3 (w : World) :
    Calls Tryz.prog 15 #[.int .u8 3] w fun e w' => (e = .returned (.tuple #[.agg #[.func (.func 30) #[] #[], Value.nilFunc, Value.nilFunc, .bool false], .int .i64 0])) ∧ Below w.heap.size w w' := by
  go_enter Tryz.func15, Tryz.ntmps15
  go_wp2_with fail
  refine (all_first (w.heap.size + 1) _ _ (heap_new _ _ _ (by simp))).mono ?_; rintro e w1 ⟨⟨l1, rfl, h1, hp1⟩, hb1⟩
  have hz1 : w.heap.size + 1 < w1.heap.size := heap_lt h1
  have k0 : w1.heap[w.heap.size]? = some (.cells #[.nilFunc, .nilFunc, .nilFunc, .bool false] 41 (0, 0)) := (hb1.block _ (by omega)).trans (heap_old (heap_new _ _ _ rfl))
  have hbw1 : Below w.heap.size w w1 := (((Below.refl _ _).alloc (Nat.le_refl _) _).alloc (by simp) _).trans (hb1.mono (by omega))
  have hq1 := hp1
  obtain ⟨lb, p2, p4, q4, p5, p6, p7, q7, p8, rfl, h0, hn, hc1, hc2, hc3, hc4, hc5, hc6, hc7, hc8⟩ := hp1
  have HQ := Lib.hid (And.intro hq1 (And.intro h1 hbw1))
  have HK0 := Lib.hid k0
  clear hc1 hc2 hc3 hc4 hc5 hc6 hc7 hc8 hq1 h1 hbw1 k0 h0 hn
  clear hb1
  go_wp2_with fail
  refine (all_again (w.heap.size + 1) 1 (by omega) _ w1 HQ.out.2.1 HQ.out.1).mono ?_; rintro e w2 ⟨⟨rfl, h2, hp2⟩, hb2⟩
  have k2 : w2.heap[w.heap.size]? = some (.cells #[.nilFunc, .nilFunc, .nilFunc, .bool false] 41 (0, 0)) := (hb2.block _ (by omega)).trans HK0.out
  obtain ⟨lb', p2, p4, q4, p5, p6, p7, q7, p8, he, h0, hn, hc1, hc2, hc3, hc4, hc5, hc6, hc7, hc8⟩ := hp2
  obtain rfl : lb = lb' := by injection he with he _ _; injection he with he; injection he
  have HB := Lib.hid (HQ.out.2.2.trans (hb2.mono (by omega)))
  have HK := Lib.hid k2
  have HC := Lib.hid (And.intro hc1 (And.intro hc2 (And.intro hc3 (And.intro hc4 (And.intro hc5 (And.intro hc6 (And.intro hc7 hc8)))))))
  have HN := Lib.hid hn
  have hlw : w.heap.size < lb := by have := hn.1; omega
  have d0 : w2.cell? ⟨lb, 8, none⟩ = some (.func (.func 30) #[] #[]) := (Lib.cell_of_heap h0 8).trans rfl
  have d1 : w2.cell? ⟨lb, 9, none⟩ = some (Value.nilFunc) := (Lib.cell_of_heap h0 9).trans rfl
  have d2 : w2.cell? ⟨lb, 10, none⟩ = some (Value.nilFunc) := (Lib.cell_of_heap h0 10).trans rfl
  have d3 : w2.cell? ⟨lb, 11, none⟩ = some (.bool false) := (Lib.cell_of_heap h0 11).trans rfl
  clear he h0 hn hc1 hc2 hc3 hc4 hc5 hc6 hc7 hc8 hb2 h2 k2
  go_wp2_with (refine wpList_store_row rfl 41 _ _ rfl w.heap.size #[.func (.func 30) #[] #[], Value.nilFunc, Value.nilFunc, .bool false] rfl rfl 41 #[.nilFunc, .nilFunc, .nilFunc, .bool false] HK.out (by kernel_rfl) rfl (by kernel_rfl) ?_)
  have HR := setRow_heap _ _ _ #[.func (.func 30) #[] #[], Value.nilFunc, Value.nilFunc, .bool false] _ _ HK.out
  obtain ⟨wf, hwf⟩ : ∃ wf : World, wf = World.setRow (w2) w.heap.size #[.func (.func 30) #[] #[], Value.nilFunc, Value.nilFunc, .bool false] := ⟨_, rfl⟩
  rw [← hwf] at HR
  rw [← hwf]
  have r0 : wf.cell? ⟨w.heap.size, 0, none⟩ = some (.func (.func 30) #[] #[]) := (Lib.cell_of_heap HR 0).trans rfl
  have r1 : wf.cell? ⟨w.heap.size, 1, none⟩ = some (Value.nilFunc) := (Lib.cell_of_heap HR 1).trans rfl
  have r2 : wf.cell? ⟨w.heap.size, 2, none⟩ = some (Value.nilFunc) := (Lib.cell_of_heap HR 2).trans rfl
  have r3 : wf.cell? ⟨w.heap.size, 3, none⟩ = some (.bool false) := (Lib.cell_of_heap HR 3).trans rfl
  refine bodyPost_ret (v := .tuple #[.agg #[.func (.func 30) #[] #[], Value.nilFunc, Value.nilFunc, .bool false], .int .i64 0]) (by simp [results, Tryz.results15, go_sem, r0, r1, r2, r3]; try rfl) rfl ?_
  rw [hwf]
  have kc : ∀ p v, w2.cell? ⟨p, 0, none⟩ = some v → w.heap.size < p → (w2.setRow w.heap.size #[.func (.func 30) #[] #[], Value.nilFunc, Value.nilFunc, .bool false]).cell? ⟨p, 0, none⟩ = some v := fun p v h hp => by rw [cell_setRow_other _ _ _ _ (by show p ≠ _; omega)]; exact h
  have HCO := HC.out
  obtain ⟨n0, n1, n2, n3, n4, n5, n6, n7, n8⟩ := HN.out
  exact ⟨rfl, below_setRow HB.out (Nat.le_refl _) _⟩
set_option maxRecDepth 100000 in
set_option maxHeartbeats 4000000 in
theorem of_4 (w : World) :
    Calls Tryz.prog 15 #[.int .u8 4] w fun e w' => (∃ q4 p4 : Nat, e = .returned (.tuple #[.agg #[.func (.func 48) #[] #[.pointer (some ⟨q4, 0, none⟩)], .func (.func 22) #[] #[], Value.nilFunc, .bool true], .int .i64 0]) ∧ w'.cell? ⟨q4, 0, none⟩ = some (.func (.func 46) #[] #[.pointer (some ⟨p4, 0, none⟩)]) ∧ w'.cell? ⟨p4, 0, none⟩ = some (.func (.func 32) #[] #[])) ∧ Below w.heap.size w w' := by
  go_enter Tryz.func15, Tryz.ntmps15
  go_wp2_with fail
  refine (all_first (w.heap.size + 1) _ _ (heap_new _ _ _ (by simp))).mono ?_; rintro e w1 ⟨⟨l1, rfl, h1, hp1⟩, hb1⟩
  have hz1 : w.heap.size + 1 < w1.heap.size := heap_lt h1
  have k0 : w1.heap[w.heap.size]? = some (.cells #[.nilFunc, .nilFunc, .nilFunc, .bool false] 41 (0, 0)) := (hb1.block _ (by omega)).trans (heap_old (heap_new _ _ _ rfl))
  have hbw1 : Below w.heap.size w w1 := (((Below.refl _ _).alloc (Nat.le_refl _) _).alloc (by simp) _).trans (hb1.mono (by omega))
  have hq1 := hp1
  obtain ⟨lb, p2, p4, q4, p5, p6, p7, q7, p8, rfl, h0, hn, hc1, hc2, hc3, hc4, hc5, hc6, hc7, hc8⟩ := hp1
  have HQ := Lib.hid (And.intro hq1 (And.intro h1 hbw1))
  have HK0 := Lib.hid k0
  clear hc1 hc2 hc3 hc4 hc5 hc6 hc7 hc8 hq1 h1 hbw1 k0 h0 hn
  clear hb1
  go_wp2_with fail
  refine (all_again (w.heap.size + 1) 1 (by omega) _ w1 HQ.out.2.1 HQ.out.1).mono ?_; rintro e w2 ⟨⟨rfl, h2, hp2⟩, hb2⟩
  have k2 : w2.heap[w.heap.size]? = some (.cells #[.nilFunc, .nilFunc, .nilFunc, .bool false] 41 (0, 0)) := (hb2.block _ (by omega)).trans HK0.out
  obtain ⟨lb', p2, p4, q4, p5, p6, p7, q7, p8, he, h0, hn, hc1, hc2, hc3, hc4, hc5, hc6, hc7, hc8⟩ := hp2
  obtain rfl : lb = lb' := by injection he with he _ _; injection he with he; injection he
  have HB := Lib.hid (HQ.out.2.2.trans (hb2.mono (by omega)))
  have HK := Lib.hid k2
  have HC := Lib.hid (And.intro hc1 (And.intro hc2 (And.intro hc3 (And.intro hc4 (And.intro hc5 (And.intro hc6 (And.intro hc7 hc8)))))))
  have HN := Lib.hid hn
  have hlw : w.heap.size < lb := by have := hn.1; omega
  have d0 : w2.cell? ⟨lb, 12, none⟩ = some (.func (.func 48) #[] #[.pointer (some ⟨q4, 0, none⟩)]) := (Lib.cell_of_heap h0 12).trans rfl
  have d1 : w2.cell? ⟨lb, 13, none⟩ = some (.func (.func 22) #[] #[]) := (Lib.cell_of_heap h0 13).trans rfl
  have d2 : w2.cell? ⟨lb, 14, none⟩ = some (Value.nilFunc) := (Lib.cell_of_heap h0 14).trans rfl
  have d3 : w2.cell? ⟨lb, 15, none⟩ = some (.bool true) := (Lib.cell_of_heap h0 15).trans rfl
  clear he h0 hn hc1 hc2 hc3 hc4 hc5 hc6 hc7 hc8 hb2 h2 k2
  go_wp2_with (refine wpList_store_row rfl 41 _ _ rfl w.heap.size #[.func (.func 48) #[] #[.pointer (some ⟨q4, 0, none⟩)], .func (.func 22) #[] #[], Value.nilFunc, .bool true] rfl rfl 41 #[.nilFunc, .nilFunc, .nilFunc, .bool false] HK.out (by kernel_rfl) rfl (by kernel_rfl) ?_)
  have HR := setRow_heap _ _ _ #[.func (.func 48) #[] #[.pointer (some ⟨q4, 0, none⟩)], .func (.func 22) #[] #[], Value.nilFunc, .bool true] _ _ HK.out
  obtain ⟨wf, hwf⟩ : ∃ wf : World, wf = World.setRow (w2) w.heap.size #[.func (.func 48) #[] #[.pointer (some ⟨q4, 0, none⟩)], .func (.func 22) #[] #[], Value.nilFunc, .bool true] := ⟨_, rfl⟩
  rw [← hwf] at HR
  rw [← hwf]
  have r0 : wf.cell? ⟨w.heap.size, 0, none⟩ = some (.func (.func 48) #[] #[.pointer (some ⟨q4, 0, none⟩)]) := (Lib.cell_of_heap HR 0).trans rfl
  have r1 : wf.cell? ⟨w.heap.size, 1, none⟩ = some (.func (.func 22) #[] #[]) := (Lib.cell_of_heap HR 1).trans rfl
  have r2 : wf.cell? ⟨w.heap.size, 2, none⟩ = some (Value.nilFunc) := (Lib.cell_of_heap HR 2).trans rfl
  have r3 : wf.cell? ⟨w.heap.size, 3, none⟩ = some (.bool true) := (Lib.cell_of_heap HR 3).trans rfl
  refine bodyPost_ret (v := .tuple #[.agg #[.func (.func 48) #[] #[.pointer (some ⟨q4, 0, none⟩)], .func (.func 22) #[] #[], Value.nilFunc, .bool true], .int .i64 0]) (by simp [results, Tryz.results15, go_sem, r0, r1, r2, r3]; try rfl) rfl ?_
  rw [hwf]
  have kc : ∀ p v, w2.cell? ⟨p, 0, none⟩ = some v → w.heap.size < p → (w2.setRow w.heap.size #[.func (.func 48) #[] #[.pointer (some ⟨q4, 0, none⟩)], .func (.func 22) #[] #[], Value.nilFunc, .bool true]).cell? ⟨p, 0, none⟩ = some v := fun p v h hp => by rw [cell_setRow_other _ _ _ _ (by show p ≠ _; omega)]; exact h
  have HCO := HC.out
  obtain ⟨n0, n1, n2, n3, n4, n5, n6, n7, n8⟩ := HN.out
  exact ⟨⟨_, _, rfl, kc _ _ HCO.2.2.1 (by omega), kc _ _ HCO.2.1 (by omega)⟩, below_setRow HB.out (Nat.le_refl _) _⟩
set_option maxRecDepth 100000 in
set_option maxHeartbeats 4000000 in
theorem of_5 (w : World) :
    Calls Tryz.prog 15 #[.int .u8 5] w fun e w' => (∃ p5 : Nat, e = .returned (.tuple #[.agg #[.func (.func 46) #[] #[.pointer (some ⟨p5, 0, none⟩)], .func (.func 34) #[] #[], Value.nilFunc, .bool false], .int .i64 0]) ∧ w'.cell? ⟨p5, 0, none⟩ = some (.func (.func 33) #[] #[])) ∧ Below w.heap.size w w' := by
  go_enter Tryz.func15, Tryz.ntmps15
  go_wp2_with fail
  refine (all_first (w.heap.size + 1) _ _ (heap_new _ _ _ (by simp))).mono ?_; rintro e w1 ⟨⟨l1, rfl, h1, hp1⟩, hb1⟩
  have hz1 : w.heap.size + 1 < w1.heap.size := heap_lt h1
  have k0 : w1.heap[w.heap.size]? = some (.cells #[.nilFunc, .nilFunc, .nilFunc, .bool false] 41 (0, 0)) := (hb1.block _ (by omega)).trans (heap_old (heap_new _ _ _ rfl))
  have hbw1 : Below w.heap.size w w1 := (((Below.refl _ _).alloc (Nat.le_refl _) _).alloc (by simp) _).trans (hb1.mono (by omega))
  have hq1 := hp1
  obtain ⟨lb, p2, p4, q4, p5, p6, p7, q7, p8, rfl, h0, hn, hc1, hc2, hc3, hc4, hc5, hc6, hc7, hc8⟩ := hp1
  have HQ := Lib.hid (And.intro hq1 (And.intro h1 hbw1))
  have HK0 := Lib.hid k0
  clear hc1 hc2 hc3 hc4 hc5 hc6 hc7 hc8 hq1 h1 hbw1 k0 h0 hn
  clear hb1
  go_wp2_with fail
  refine (all_again (w.heap.size + 1) 1 (by omega) _ w1 HQ.out.2.1 HQ.out.1).mono ?_; rintro e w2 ⟨⟨rfl, h2, hp2⟩, hb2⟩
  have k2 : w2.heap[w.heap.size]? = some (.cells #[.nilFunc, .nilFunc, .nilFunc, .bool false] 41 (0, 0)) := (hb2.block _ (by omega)).trans HK0.out
  obtain ⟨lb', p2, p4, q4, p5, p6, p7, q7, p8, he, h0, hn, hc1, hc2, hc3, hc4, hc5, hc6, hc7, hc8⟩ := hp2
  obtain rfl : lb = lb' := by injection he with he _ _; injection he with he; injection he
  have HB := Lib.hid (HQ.out.2.2.trans (hb2.mono (by omega)))
  have HK := Lib.hid k2
  have HC := Lib.hid (And.intro hc1 (And.intro hc2 (And.intro hc3 (And.intro hc4 (And.intro hc5 (And.intro hc6 (And.intro hc7 hc8)))))))
  have HN := Lib.hid hn
  have hlw : w.heap.size < lb := by have := hn.1; omega
  have d0 : w2.cell? ⟨lb, 16, none⟩ = some (.func (.func 46) #[] #[.pointer (some ⟨p5, 0, none⟩)]) := (Lib.cell_of_heap h0 16).trans rfl
  have d1 : w2.cell? ⟨lb, 17, none⟩ = some (.func (.func 34) #[] #[]) := (Lib.cell_of_heap h0 17).trans rfl
  have d2 : w2.cell? ⟨lb, 18, none⟩ = some (Value.nilFunc) := (Lib.cell_of_heap h0 18).trans rfl
  have d3 : w2.cell? ⟨lb, 19, none⟩ = some (.bool false) := (Lib.cell_of_heap h0 19).trans rfl
  clear he h0 hn hc1 hc2 hc3 hc4 hc5 hc6 hc7 hc8 hb2 h2 k2
  go_wp2_with (refine wpList_store_row rfl 41 _ _ rfl w.heap.size #[.func (.func 46) #[] #[.pointer (some ⟨p5, 0, none⟩)], .func (.func 34) #[] #[], Value.nilFunc, .bool false] rfl rfl 41 #[.nilFunc, .nilFunc, .nilFunc, .bool false] HK.out (by kernel_rfl) rfl (by kernel_rfl) ?_)
  have HR := setRow_heap _ _ _ #[.func (.func 46) #[] #[.pointer (some ⟨p5, 0, none⟩)], .func (.func 34) #[] #[], Value.nilFunc, .bool false] _ _ HK.out
  obtain ⟨wf, hwf⟩ : ∃ wf : World, wf = World.setRow (w2) w.heap.size #[.func (.func 46) #[] #[.pointer (some ⟨p5, 0, none⟩)], .func (.func 34) #[] #[], Value.nilFunc, .bool false] := ⟨_, rfl⟩
  rw [← hwf] at HR
  rw [← hwf]
  have r0 : wf.cell? ⟨w.heap.size, 0, none⟩ = some (.func (.func 46) #[] #[.pointer (some ⟨p5, 0, none⟩)]) := (Lib.cell_of_heap HR 0).trans rfl
  have r1 : wf.cell? ⟨w.heap.size, 1, none⟩ = some (.func (.func 34) #[] #[]) := (Lib.cell_of_heap HR 1).trans rfl
  have r2 : wf.cell? ⟨w.heap.size, 2, none⟩ = some (Value.nilFunc) := (Lib.cell_of_heap HR 2).trans rfl
  have r3 : wf.cell? ⟨w.heap.size, 3, none⟩ = some (.bool false) := (Lib.cell_of_heap HR 3).trans rfl
  refine bodyPost_ret (v := .tuple #[.agg #[.func (.func 46) #[] #[.pointer (some ⟨p5, 0, none⟩)], .func (.func 34) #[] #[], Value.nilFunc, .bool false], .int .i64 0]) (by simp [results, Tryz.results15, go_sem, r0, r1, r2, r3]; try rfl) rfl ?_
  rw [hwf]
  have kc : ∀ p v, w2.cell? ⟨p, 0, none⟩ = some v → w.heap.size < p → (w2.setRow w.heap.size #[.func (.func 46) #[] #[.pointer (some ⟨p5, 0, none⟩)], .func (.func 34) #[] #[], Value.nilFunc, .bool false]).cell? ⟨p, 0, none⟩ = some v := fun p v h hp => by rw [cell_setRow_other _ _ _ _ (by show p ≠ _; omega)]; exact h
  have HCO := HC.out
  obtain ⟨n0, n1, n2, n3, n4, n5, n6, n7, n8⟩ := HN.out
  exact ⟨⟨_, rfl, kc _ _ HCO.2.2.2.1 (by omega)⟩, below_setRow HB.out (Nat.le_refl _) _⟩
set_option maxRecDepth 100000 in
set_option maxHeartbeats 4000000 in
theorem of_6 (w : World) :
    Calls Tryz.prog 15 #[.int .u8 6] w fun e w' => (∃ p6 : Nat, e = .returned (.tuple #[.agg #[.func (.func 46) #[] #[.pointer (some ⟨p6, 0, none⟩)], .func (.func 22) #[] #[], Value.nilFunc, .bool false], .int .i64 0]) ∧ w'.cell? ⟨p6, 0, none⟩ = some (.func (.func 35) #[] #[])) ∧ Below w.heap.size w w' := by
  go_enter Tryz.func15, Tryz.ntmps15
  go_wp2_with fail
  refine (all_first (w.heap.size + 1) _ _ (heap_new _ _ _ (by simp))).mono ?_; rintro e w1 ⟨⟨l1, rfl, h1, hp1⟩, hb1⟩
  have hz1 : w.heap.size + 1 < w1.heap.size := heap_lt h1
  have k0 : w1.heap[w.heap.size]? = some (.cells #[.nilFunc, .nilFunc, .nilFunc, .bool false] 41 (0, 0)) := (hb1.block _ (by omega)).trans (heap_old (heap_new _ _ _ rfl))
  have hbw1 : Below w.heap.size w w1 := (((Below.refl _ _).alloc (Nat.le_refl _) _).alloc (by simp) _).trans (hb1.mono (by omega))
  have hq1 := hp1
  obtain ⟨lb, p2, p4, q4, p5, p6, p7, q7, p8, rfl, h0, hn, hc1, hc2, hc3, hc4, hc5, hc6, hc7, hc8⟩ := hp1
  have HQ := Lib.hid (And.intro hq1 (And.intro h1 hbw1))
  have HK0 := Lib.hid k0
  clear hc1 hc2 hc3 hc4 hc5 hc6 hc7 hc8 hq1 h1 hbw1 k0 h0 hn
  clear hb1
  go_wp2_with fail
  refine (all_again (w.heap.size + 1) 1 (by omega) _ w1 HQ.out.2.1 HQ.out.1).mono ?_; rintro e w2 ⟨⟨rfl, h2, hp2⟩, hb2⟩
  have k2 : w2.heap[w.heap.size]? = some (.cells #[.nilFunc, .nilFunc, .nilFunc, .bool false] 41 (0, 0)) := (hb2.block _ (by omega)).trans HK0.out
  obtain ⟨lb', p2, p4, q4, p5, p6, p7, q7, p8, he, h0, hn, hc1, hc2, hc3, hc4, hc5, hc6, hc7, hc8⟩ := hp2
  obtain rfl : lb = lb' := by injection he with he _ _; injection he with he; injection he
  have HB := Lib.hid (HQ.out.2.2.trans (hb2.mono (by omega)))
  have HK := Lib.hid k2
  have HC := Lib.hid (And.intro hc1 (And.intro hc2 (And.intro hc3 (And.intro hc4 (And.intro hc5 (And.intro hc6 (And.intro hc7 hc8)))))))
  have HN := Lib.hid hn
  have hlw : w.heap.size < lb := by have := hn.1; omega
  have d0 : w2.cell? ⟨lb, 20, none⟩ = some (.func (.func 46) #[] #[.pointer (some ⟨p6, 0, none⟩)]) := (Lib.cell_of_heap h0 20).trans rfl
  have d1 : w2.cell? ⟨lb, 21, none⟩ = some (.func (.func 22) #[] #[]) := (Lib.cell_of_heap h0 21).trans rfl
  have d2 : w2.cell? ⟨lb, 22, none⟩ = some (Value.nilFunc) := (Lib.cell_of_heap h0 22).trans rfl
  have d3 : w2.cell? ⟨lb, 23, none⟩ = some (.bool false) := (Lib.cell_of_heap h0 23).trans rfl
  clear he h0 hn hc1 hc2 hc3 hc4 hc5 hc6 hc7 hc8 hb2 h2 k2
  go_wp2_with (refine wpList_store_row rfl 41 _ _ rfl w.heap.size #[.func (.func 46) #[] #[.pointer (some ⟨p6, 0, none⟩)], .func (.func 22) #[] #[], Value.nilFunc, .bool false] rfl rfl 41 #[.nilFunc, .nilFunc, .nilFunc, .bool false] HK.out (by kernel_rfl) rfl (by kernel_rfl) ?_)
  have HR := setRow_heap _ _ _ #[.func (.func 46) #[] #[.pointer (some ⟨p6, 0, none⟩)], .func (.func 22) #[] #[], Value.nilFunc, .bool false] _ _ HK.out
  obtain ⟨wf, hwf⟩ : ∃ wf : World, wf = World.setRow (w2) w.heap.size #[.func (.func 46) #[] #[.pointer (some ⟨p6, 0, none⟩)], .func (.func 22) #[] #[], Value.nilFunc, .bool false] := ⟨_, rfl⟩
  rw [← hwf] at HR
  rw [← hwf]
  have r0 : wf.cell? ⟨w.heap.size, 0, none⟩ = some (.func (.func 46) #[] #[.pointer (some ⟨p6, 0, none⟩)]) := (Lib.cell_of_heap HR 0).trans rfl
  have r1 : wf.cell? ⟨w.heap.size, 1, none⟩ = some (.func (.func 22) #[] #[]) := (Lib.cell_of_heap HR 1).trans rfl
  have r2 : wf.cell? ⟨w.heap.size, 2, none⟩ = some (Value.nilFunc) := (Lib.cell_of_heap HR 2).trans rfl
  have r3 : wf.cell? ⟨w.heap.size, 3, none⟩ = some (.bool false) := (Lib.cell_of_heap HR 3).trans rfl
  refine bodyPost_ret (v := .tuple #[.agg #[.func (.func 46) #[] #[.pointer (some ⟨p6, 0, none⟩)], .func (.func 22) #[] #[], Value.nilFunc, .bool false], .int .i64 0]) (by simp [results, Tryz.results15, go_sem, r0, r1, r2, r3]; try rfl) rfl ?_
  rw [hwf]
  have kc : ∀ p v, w2.cell? ⟨p, 0, none⟩ = some v → w.heap.size < p → (w2.setRow w.heap.size #[.func (.func 46) #[] #[.pointer (some ⟨p6, 0, none⟩)], .func (.func 22) #[] #[], Value.nilFunc, .bool false]).cell? ⟨p, 0, none⟩ = some v := fun p v h hp => by rw [cell_setRow_other _ _ _ _ (by show p ≠ _; omega)]; exact h
  have HCO := HC.out
  obtain ⟨n0, n1, n2, n3, n4, n5, n6, n7, n8⟩ := HN.out
  exact ⟨⟨_, rfl, kc _ _ HCO.2.2.2.2.1 (by omega)⟩, below_setRow HB.out (Nat.le_refl _) _⟩
set_option maxRecDepth 100000 in
set_option maxHeartbeats 4000000 in
theorem of_7 (w : World) :
    Calls Tryz.prog 15 #[.int .u8 7] w fun e w' => (∃ q7 p7 : Nat, e = .returned (.tuple #[.agg #[.func (.func 48) #[] #[.pointer (some ⟨q7, 0, none⟩)], .func (.func 37) #[] #[], .func (.func 38) #[] #[], .bool false], .int .i64 0]) ∧ w'.cell? ⟨q7, 0, none⟩ = some (.func (.func 46) #[] #[.pointer (some ⟨p7, 0, none⟩)]) ∧ w'.cell? ⟨p7, 0, none⟩ = some (.func (.func 36) #[] #[])) ∧ Below w.heap.size w w' := by
  go_enter Tryz.func15, Tryz.ntmps15
  go_wp2_with fail
  refine (all_first (w.heap.size + 1) _ _ (heap_new _ _ _ (by simp))).mono ?_; rintro e w1 ⟨⟨l1, rfl, h1, hp1⟩, hb1⟩
  have hz1 : w.heap.size + 1 < w1.heap.size := heap_lt h1
  have k0 : w1.heap[w.heap.size]? = some (.cells #[.nilFunc, .nilFunc, .nilFunc, .bool false] 41 (0, 0)) := (hb1.block _ (by omega)).trans (heap_old (heap_new _ _ _ rfl))
  have hbw1 : Below w.heap.size w w1 := (((Below.refl _ _).alloc (Nat.le_refl _) _).alloc (by simp) _).trans (hb1.mono (by omega))
  have hq1 := hp1
  obtain ⟨lb, p2, p4, q4, p5, p6, p7, q7, p8, rfl, h0, hn, hc1, hc2, hc3, hc4, hc5, hc6, hc7, hc8⟩ := hp1
  have HQ := Lib.hid (And.intro hq1 (And.intro h1 hbw1))
  have HK0 := Lib.hid k0
  clear hc1 hc2 hc3 hc4 hc5 hc6 hc7 hc8 hq1 h1 hbw1 k0 h0 hn
  clear hb1
  go_wp2_with fail
  refine (all_again (w.heap.size + 1) 1 (by omega) _ w1 HQ.out.2.1 HQ.out.1).mono ?_; rintro e w2 ⟨⟨rfl, h2, hp2⟩, hb2⟩
  have k2 : w2.heap[w.heap.size]? = some (.cells #[.nilFunc, .nilFunc, .nilFunc, .bool false] 41 (0, 0)) := (hb2.block _ (by omega)).trans HK0.out
  obtain ⟨lb', p2, p4, q4, p5, p6, p7, q7, p8, he, h0, hn, hc1, hc2, hc3, hc4, hc5, hc6, hc7, hc8⟩ := hp2
  obtain rfl : lb = lb' := by injection he with he _ _; injection he with he; injection he
  have HB := Lib.hid (HQ.out.2.2.trans (hb2.mono (by omega)))
  have HK := Lib.hid k2
  have HC := Lib.hid (And.intro hc1 (And.intro hc2 (And.intro hc3 (And.intro hc4 (And.intro hc5 (And.intro hc6 (And.intro hc7 hc8)))))))
  have HN := Lib.hid hn
  have hlw : w.heap.size < lb := by have := hn.1; omega
  have d0 : w2.cell? ⟨lb, 24, none⟩ = some (.func (.func 48) #[] #[.pointer (some ⟨q7, 0, none⟩)]) := (Lib.cell_of_heap h0 24).trans rfl
  have d1 : w2.cell? ⟨lb, 25, none⟩ = some (.func (.func 37) #[] #[]) := (Lib.cell_of_heap h0 25).trans rfl
  have d2 : w2.cell? ⟨lb, 26, none⟩ = some (.func (.func 38) #[] #[]) := (Lib.cell_of_heap h0 26).trans rfl
  have d3 : w2.cell? ⟨lb, 27, none⟩ = some (.bool false) := (Lib.cell_of_heap h0 27).trans rfl
  clear he h0 hn hc1 hc2 hc3 hc4 hc5 hc6 hc7 hc8 hb2 h2 k2
  go_wp2_with (refine wpList_store_row rfl 41 _ _ rfl w.heap.size #[.func (.func 48) #[] #[.pointer (some ⟨q7, 0, none⟩)], .func (.func 37) #[] #[], .func (.func 38) #[] #[], .bool false] rfl rfl 41 #[.nilFunc, .nilFunc, .nilFunc, .bool false] HK.out (by kernel_rfl) rfl (by kernel_rfl) ?_)
  have HR := setRow_heap _ _ _ #[.func (.func 48) #[] #[.pointer (some ⟨q7, 0, none⟩)], .func (.func 37) #[] #[], .func (.func 38) #[] #[], .bool false] _ _ HK.out
  obtain ⟨wf, hwf⟩ : ∃ wf : World, wf = World.setRow (w2) w.heap.size #[.func (.func 48) #[] #[.pointer (some ⟨q7, 0, none⟩)], .func (.func 37) #[] #[], .func (.func 38) #[] #[], .bool false] := ⟨_, rfl⟩
  rw [← hwf] at HR
  rw [← hwf]
  have r0 : wf.cell? ⟨w.heap.size, 0, none⟩ = some (.func (.func 48) #[] #[.pointer (some ⟨q7, 0, none⟩)]) := (Lib.cell_of_heap HR 0).trans rfl
  have r1 : wf.cell? ⟨w.heap.size, 1, none⟩ = some (.func (.func 37) #[] #[]) := (Lib.cell_of_heap HR 1).trans rfl
  have r2 : wf.cell? ⟨w.heap.size, 2, none⟩ = some (.func (.func 38) #[] #[]) := (Lib.cell_of_heap HR 2).trans rfl
  have r3 : wf.cell? ⟨w.heap.size, 3, none⟩ = some (.bool false) := (Lib.cell_of_heap HR 3).trans rfl
  refine bodyPost_ret (v := .tuple #[.agg #[.func (.func 48) #[] #[.pointer (some ⟨q7, 0, none⟩)], .func (.func 37) #[] #[], .func (.func 38) #[] #[], .bool false], .int .i64 0]) (by simp [results, Tryz.results15, go_sem, r0, r1, r2, r3]; try rfl) rfl ?_
  rw [hwf]
  have kc : ∀ p v, w2.cell? ⟨p, 0, none⟩ = some v → w.heap.size < p → (w2.setRow w.heap.size #[.func (.func 48) #[] #[.pointer (some ⟨q7, 0, none⟩)], .func (.func 37) #[] #[], .func (.func 38) #[] #[], .bool false]).cell? ⟨p, 0, none⟩ = some v := fun p v h hp => by rw [cell_setRow_other _ _ _ _ (by show p ≠ _; omega)]; exact h
  have HCO := HC.out
  obtain ⟨n0, n1, n2, n3, n4, n5, n6, n7, n8⟩ := HN.out
  exact ⟨⟨_, _, rfl, kc _ _ HCO.2.2.2.2.2.2.1 (by omega), kc _ _ HCO.2.2.2.2.2.1 (by omega)⟩, below_setRow HB.out (Nat.le_refl _) _⟩
set_option maxRecDepth 100000 in
set_option maxHeartbeats 4000000 in
theorem of_8 (w : World) :
    Calls Tryz.prog 15 #[.int .u8 8] w fun e w' => (∃ p8 : Nat, e = .returned (.tuple #[.agg #[.func (.func 46) #[] #[.pointer (some ⟨p8, 0, none⟩)], Value.nilFunc, Value.nilFunc, .bool true], .int .i64 0]) ∧ w'.cell? ⟨p8, 0, none⟩ = some (.func (.func 39) #[] #[])) ∧ Below w.heap.size w w' := by
  go_enter Tryz.func15, Tryz.ntmps15
  go_wp2_with fail
  refine (all_first (w.heap.size + 1) _ _ (heap_new _ _ _ (by simp))).mono ?_; rintro e w1 ⟨⟨l1, rfl, h1, hp1⟩, hb1⟩
  have hz1 : w.heap.size + 1 < w1.heap.size := heap_lt h1
  have k0 : w1.heap[w.heap.size]? = some (.cells #[.nilFunc, .nilFunc, .nilFunc, .bool false] 41 (0, 0)) := (hb1.block _ (by omega)).trans (heap_old (heap_new _ _ _ rfl))
  have hbw1 : Below w.heap.size w w1 := (((Below.refl _ _).alloc (Nat.le_refl _) _).alloc (by simp) _).trans (hb1.mono (by omega))
  have hq1 := hp1
  obtain ⟨lb, p2, p4, q4, p5, p6, p7, q7, p8, rfl, h0, hn, hc1, hc2, hc3, hc4, hc5, hc6, hc7, hc8⟩ := hp1
  have HQ := Lib.hid (And.intro hq1 (And.intro h1 hbw1))
  have HK0 := Lib.hid k0
  clear hc1 hc2 hc3 hc4 hc5 hc6 hc7 hc8 hq1 h1 hbw1 k0 h0 hn
  clear hb1
  go_wp2_with fail
  refine (all_again (w.heap.size + 1) 1 (by omega) _ w1 HQ.out.2.1 HQ.out.1).mono ?_; rintro e w2 ⟨⟨rfl, h2, hp2⟩, hb2⟩
  have k2 : w2.heap[w.heap.size]? = some (.cells #[.nilFunc, .nilFunc, .nilFunc, .bool false] 41 (0, 0)) := (hb2.block _ (by omega)).trans HK0.out
  obtain ⟨lb', p2, p4, q4, p5, p6, p7, q7, p8, he, h0, hn, hc1, hc2, hc3, hc4, hc5, hc6, hc7, hc8⟩ := hp2
  obtain rfl : lb = lb' := by injection he with he _ _; injection he with he; injection he
  have HB := Lib.hid (HQ.out.2.2.trans (hb2.mono (by omega)))
  have HK := Lib.hid k2
  have HC := Lib.hid (And.intro hc1 (And.intro hc2 (And.intro hc3 (And.intro hc4 (And.intro hc5 (And.intro hc6 (And.intro hc7 hc8)))))))
  have HN := Lib.hid hn
  have hlw : w.heap.size < lb := by have := hn.1; omega
  have d0 : w2.cell? ⟨lb, 28, none⟩ = some (.func (.func 46) #[] #[.pointer (some ⟨p8, 0, none⟩)]) := (Lib.cell_of_heap h0 28).trans rfl
  have d1 : w2.cell? ⟨lb, 29, none⟩ = some (Value.nilFunc) := (Lib.cell_of_heap h0 29).trans rfl
  have d2 : w2.cell? ⟨lb, 30, none⟩ = some (Value.nilFunc) := (Lib.cell_of_heap h0 30).trans rfl
  have d3 : w2.cell? ⟨lb, 31, none⟩ = some (.bool true) := (Lib.cell_of_heap h0 31).trans rfl
  clear he h0 hn hc1 hc2 hc3 hc4 hc5 hc6 hc7 hc8 hb2 h2 k2
  go_wp2_with (refine wpList_store_row rfl 41 _ _ rfl w.heap.size #[.func (.func 46) #[] #[.pointer (some ⟨p8, 0, none⟩)], Value.nilFunc, Value.nilFunc, .bool true] rfl rfl 41 #[.nilFunc, .nilFunc, .nilFunc, .bool false] HK.out (by kernel_rfl) rfl (by kernel_rfl) ?_)
  have HR := setRow_heap _ _ _ #[.func (.func 46) #[] #[.pointer (some ⟨p8, 0, none⟩)], Value.nilFunc, Value.nilFunc, .bool true] _ _ HK.out
  obtain ⟨wf, hwf⟩ : ∃ wf : World, wf = World.setRow (w2) w.heap.size #[.func (.func 46) #[] #[.pointer (some ⟨p8, 0, none⟩)], Value.nilFunc, Value.nilFunc, .bool true] := ⟨_, rfl⟩
  rw [← hwf] at HR
  rw [← hwf]
  have r0 : wf.cell? ⟨w.heap.size, 0, none⟩ = some (.func (.func 46) #[] #[.pointer (some ⟨p8, 0, none⟩)]) := (Lib.cell_of_heap HR 0).trans rfl
  have r1 : wf.cell? ⟨w.heap.size, 1, none⟩ = some (Value.nilFunc) := (Lib.cell_of_heap HR 1).trans rfl
  have r2 : wf.cell? ⟨w.heap.size, 2, none⟩ = some (Value.nilFunc) := (Lib.cell_of_heap HR 2).trans rfl
  have r3 : wf.cell? ⟨w.heap.size, 3, none⟩ = some (.bool true) := (Lib.cell_of_heap HR 3).trans rfl
  refine bodyPost_ret (v := .tuple #[.agg #[.func (.func 46) #[] #[.pointer (some ⟨p8, 0, none⟩)], Value.nilFunc, Value.nilFunc, .bool true], .int .i64 0]) (by simp [results, Tryz.results15, go_sem, r0, r1, r2, r3]; try rfl) rfl ?_
  rw [hwf]
  have kc : ∀ p v, w2.cell? ⟨p, 0, none⟩ = some v → w.heap.size < p → (w2.setRow w.heap.size #[.func (.func 46) #[] #[.pointer (some ⟨p8, 0, none⟩)], Value.nilFunc, Value.nilFunc, .bool true]).cell? ⟨p, 0, none⟩ = some v := fun p v h hp => by rw [cell_setRow_other _ _ _ _ (by show p ≠ _; omega)]; exact h
  have HCO := HC.out
  obtain ⟨n0, n1, n2, n3, n4, n5, n6, n7, n8⟩ := HN.out
  exact ⟨⟨_, rfl, kc _ _ HCO.2.2.2.2.2.2.2 (by omega)⟩, below_setRow HB.out (Nat.le_refl _) _⟩
end Go.Proofs.YtjhgiojmlkeccaaGreatDoor
namespace Go.Proofs.YtjhgiojmlkeccaaGreatDoor
open Go.RowKit

set_option maxHeartbeats 400000 in
theorem small_any (n : Int) (hr : R n) (w : World) :
    Calls Tryz.prog 44 #[.int .i64 n] w fun e w' => e = .returned (.bool (decide (-2147483648 ≤ n ∧ n ≤ 2147483647))) ∧ w = w' := by
  obtain ⟨r1, r2⟩ := hr
  go_enter Tryz.func44, Tryz.ntmps44
  go_wp2
  all_goals
    go_ret
    refine ⟨ret1 ?_, rfl⟩
    go_light
    rw [Bool.eq_iff_iff]
    simp only [IntKind.wrap_i32, IntKind.wrap_i64, wrap64, wrap32]
    (try simp at *) <;> omega
end Go.Proofs.YtjhgiojmlkeccaaGreatDoor
namespace Go.Proofs.YtjhgiojmlkeccaaGreatDoor
open Go.RowKit Go.Shelf
/-- What a call gives in every world behind this one. -/
def DoesU (w : World) (f : Nat) (args : Array Value) (v : Value) : Prop := ∀ W, Below w.heap.size w W → Calls Tryz.prog f args W fun e w' => e = .returned v ∧ Below W.heap.size W w'
theorem DoesU.below {w w' : World} {f : Nat} {args : Array Value} {v : Value} (h : DoesU w f args v) (hb : Below w.heap.size w w') : DoesU w' f args v := fun W hW => h W (hb.trans (hW.mono hb.size))
set_option maxRecDepth 100000 in
set_option maxHeartbeats 4000000 in
theorem told_kind (k : Int) (nm tx : ByteArray) (n m : Int) (p : Nat) (w : World) (hk : (k != 3) = true) :
    Calls Tryz.prog 46 #[.agg #[.int .u8 k, .string nm, .string tx, .int .i64 n, .int .i64 m], .pointer (some ⟨p, 0, none⟩)] w fun e w' => e = .returned (.tuple #[.agg #[.int .u8 k, .string nm, .string tx, .int .i64 n, .int .i64 m], .bool false]) ∧ Below w.heap.size w w' := by
  go_enter Tryz.func46, Tryz.ntmps46
  go_wp2_with fail
  go_returns
  exact ⟨rfl, by go_grown⟩
set_option maxRecDepth 100000 in
set_option maxHeartbeats 4000000 in
theorem told_bad (nm tx : ByteArray) (n m : Int) (p : Nat) (c : Int) (w : World) (hc : (c != 0) = true) (HC : Hid (DoesU w 47 #[.string tx] (.int .i64 c))) :
    Calls Tryz.prog 46 #[.agg #[.int .u8 3, .string nm, .string tx, .int .i64 n, .int .i64 m], .pointer (some ⟨p, 0, none⟩)] w fun e w' => e = .returned (.tuple #[.agg #[.int .u8 3, .string nm, .string tx, .int .i64 n, .int .i64 m], .bool false]) ∧ Below w.heap.size w w' := by
  go_enter Tryz.func46, Tryz.ntmps46
  go_wp2_with fail
  refine (HC.out _ (by first | exact Below.refl _ _ | (go_grown; done))).mono ?_; rintro e w1 ⟨rfl, hb⟩
  have hh0 : w1.heap[w.heap.size]? = some (.cells #[.int .u8 3, .string nm, .string tx, .int .i64 n, .int .i64 m] 23 (0, 0)) := (hb.block _ (by first | omega | (simp; done) | (simp; omega))).trans (heap_old (o' := (.cells #[.int .u8 0, .string ⟨#[]⟩, .string ⟨#[]⟩, .int .i64 0, .int .i64 0] 23 (0, 0))) (heap_new _ _ _ (by first | rfl | simp)))
  have hh1 : w1.heap[w.heap.size + 1]? = some (.cells #[.int .u8 0, .string ⟨#[]⟩, .string ⟨#[]⟩, .int .i64 0, .int .i64 0] 23 (0, 0)) := (hb.block _ (by first | omega | (simp; done) | (simp; omega))).trans (heap_new _ _ _ (by first | rfl | simp))
  have hbw1 : Below w.heap.size w w1 := (show Below w.heap.size w _ by first | exact Below.refl _ _ | (go_grown; done)).trans (hb.mono (by first | omega | (simp; done) | (simp; omega)))
  clear hb
  have HH0_1 := Lib.hid hh0
  have lt0 := heap_lt hh0
  have c0_0 : w1.cell? ⟨w.heap.size, 0, none⟩ = some (.int .u8 3) := by rw [Lib.cell_of_heap hh0]; rfl
  have f0_0 : w1.frozen? ⟨w.heap.size, 0, none⟩ = false := Lib.frozen_of_heap hh0 0
  have c0_1 : w1.cell? ⟨w.heap.size, 1, none⟩ = some (.string nm) := by rw [Lib.cell_of_heap hh0]; rfl
  have f0_1 : w1.frozen? ⟨w.heap.size, 1, none⟩ = false := Lib.frozen_of_heap hh0 1
  have c0_2 : w1.cell? ⟨w.heap.size, 2, none⟩ = some (.string tx) := by rw [Lib.cell_of_heap hh0]; rfl
  have f0_2 : w1.frozen? ⟨w.heap.size, 2, none⟩ = false := Lib.frozen_of_heap hh0 2
  have c0_3 : w1.cell? ⟨w.heap.size, 3, none⟩ = some (.int .i64 n) := by rw [Lib.cell_of_heap hh0]; rfl
  have f0_3 : w1.frozen? ⟨w.heap.size, 3, none⟩ = false := Lib.frozen_of_heap hh0 3
  have c0_4 : w1.cell? ⟨w.heap.size, 4, none⟩ = some (.int .i64 m) := by rw [Lib.cell_of_heap hh0]; rfl
  have f0_4 : w1.frozen? ⟨w.heap.size, 4, none⟩ = false := Lib.frozen_of_heap hh0 4
  clear hh0
  have HH1_1 := Lib.hid hh1
  have lt1 := heap_lt hh1
  have c1_0 : w1.cell? ⟨w.heap.size + 1, 0, none⟩ = some (.int .u8 0) := by rw [Lib.cell_of_heap hh1]; rfl
  have f1_0 : w1.frozen? ⟨w.heap.size + 1, 0, none⟩ = false := Lib.frozen_of_heap hh1 0
  have c1_1 : w1.cell? ⟨w.heap.size + 1, 1, none⟩ = some (.string ⟨#[]⟩) := by rw [Lib.cell_of_heap hh1]; rfl
  have f1_1 : w1.frozen? ⟨w.heap.size + 1, 1, none⟩ = false := Lib.frozen_of_heap hh1 1
  have c1_2 : w1.cell? ⟨w.heap.size + 1, 2, none⟩ = some (.string ⟨#[]⟩) := by rw [Lib.cell_of_heap hh1]; rfl
  have f1_2 : w1.frozen? ⟨w.heap.size + 1, 2, none⟩ = false := Lib.frozen_of_heap hh1 2
  have c1_3 : w1.cell? ⟨w.heap.size + 1, 3, none⟩ = some (.int .i64 0) := by rw [Lib.cell_of_heap hh1]; rfl
  have f1_3 : w1.frozen? ⟨w.heap.size + 1, 3, none⟩ = false := Lib.frozen_of_heap hh1 3
  have c1_4 : w1.cell? ⟨w.heap.size + 1, 4, none⟩ = some (.int .i64 0) := by rw [Lib.cell_of_heap hh1]; rfl
  have f1_4 : w1.frozen? ⟨w.heap.size + 1, 4, none⟩ = false := Lib.frozen_of_heap hh1 4
  clear hh1
  have sz1 := hbw1.size
  have HW1 := Lib.hid hbw1
  go_wp2_with fail
  refine bodyPost_ret (v := .tuple #[.agg #[.int .u8 3, .string nm, .string tx, .int .i64 n, .int .i64 m], .bool false]) (by simp [results, Tryz.results46, go_sem, c1_0, f1_0, c1_1, f1_1, c1_2, f1_2, c1_3, f1_3, c1_4, f1_4]; try rfl) rfl ?_
  exact ⟨rfl, by first | exact HW1.out | (go_grown; done)⟩
set_option maxRecDepth 100000 in
set_option maxHeartbeats 4000000 in
theorem told_go (nm tx : ByteArray) (n m : Int) (p g : Nat) (cap : Array Value) (s : ByteArray) (e0 : Int) (t : Bool) (w : World) (HP : Hid (w.cell? ⟨p, 0, none⟩ = some (.func (.func g) #[] cap))) (hp : p < w.heap.size) (eg : ∀ args w, (callFunc g args).run Tryz.prog w = .ok (.enter g args) w) (ht : (e0 == 0) = t)
    (HC : Hid (DoesU w 47 #[.string tx] (.int .i64 0))) (HG : Hid (DoesU w g (#[.string tx] ++ cap) (.tuple #[.string s, .int .i64 e0]))) :
    Calls Tryz.prog 46 #[.agg #[.int .u8 3, .string nm, .string tx, .int .i64 n, .int .i64 m], .pointer (some ⟨p, 0, none⟩)] w fun e w' => e = .returned (.tuple #[.agg #[.int .u8 3, .string ⟨#[]⟩, .string s, .int .i64 0, .int .i64 0], .bool t]) ∧ Below w.heap.size w w' := by
  go_enter Tryz.func46, Tryz.ntmps46
  go_wp2_with fail
  refine (HC.out _ (by first | exact Below.refl _ _ | (go_grown; done))).mono ?_; rintro e w1 ⟨rfl, hb⟩
  have hh0 : w1.heap[w.heap.size]? = some (.cells #[.int .u8 3, .string nm, .string tx, .int .i64 n, .int .i64 m] 23 (0, 0)) := (hb.block _ (by first | omega | (simp; done) | (simp; omega))).trans (heap_old (o' := (.cells #[.int .u8 0, .string ⟨#[]⟩, .string ⟨#[]⟩, .int .i64 0, .int .i64 0] 23 (0, 0))) (heap_new _ _ _ (by first | rfl | simp)))
  have hh1 : w1.heap[w.heap.size + 1]? = some (.cells #[.int .u8 0, .string ⟨#[]⟩, .string ⟨#[]⟩, .int .i64 0, .int .i64 0] 23 (0, 0)) := (hb.block _ (by first | omega | (simp; done) | (simp; omega))).trans (heap_new _ _ _ (by first | rfl | simp))
  have hbw1 : Below w.heap.size w w1 := (show Below w.heap.size w _ by first | exact Below.refl _ _ | (go_grown; done)).trans (hb.mono (by first | omega | (simp; done) | (simp; omega)))
  clear hb
  have HH0_1 := Lib.hid hh0
  have lt0 := heap_lt hh0
  have c0_0 : w1.cell? ⟨w.heap.size, 0, none⟩ = some (.int .u8 3) := by rw [Lib.cell_of_heap hh0]; rfl
  have f0_0 : w1.frozen? ⟨w.heap.size, 0, none⟩ = false := Lib.frozen_of_heap hh0 0
  have c0_1 : w1.cell? ⟨w.heap.size, 1, none⟩ = some (.string nm) := by rw [Lib.cell_of_heap hh0]; rfl
  have f0_1 : w1.frozen? ⟨w.heap.size, 1, none⟩ = false := Lib.frozen_of_heap hh0 1
  have c0_2 : w1.cell? ⟨w.heap.size, 2, none⟩ = some (.string tx) := by rw [Lib.cell_of_heap hh0]; rfl
  have f0_2 : w1.frozen? ⟨w.heap.size, 2, none⟩ = false := Lib.frozen_of_heap hh0 2
  have c0_3 : w1.cell? ⟨w.heap.size, 3, none⟩ = some (.int .i64 n) := by rw [Lib.cell_of_heap hh0]; rfl
  have f0_3 : w1.frozen? ⟨w.heap.size, 3, none⟩ = false := Lib.frozen_of_heap hh0 3
  have c0_4 : w1.cell? ⟨w.heap.size, 4, none⟩ = some (.int .i64 m) := by rw [Lib.cell_of_heap hh0]; rfl
  have f0_4 : w1.frozen? ⟨w.heap.size, 4, none⟩ = false := Lib.frozen_of_heap hh0 4
  clear hh0
  have HH1_1 := Lib.hid hh1
  have lt1 := heap_lt hh1
  have c1_0 : w1.cell? ⟨w.heap.size + 1, 0, none⟩ = some (.int .u8 0) := by rw [Lib.cell_of_heap hh1]; rfl
  have f1_0 : w1.frozen? ⟨w.heap.size + 1, 0, none⟩ = false := Lib.frozen_of_heap hh1 0
  have c1_1 : w1.cell? ⟨w.heap.size + 1, 1, none⟩ = some (.string ⟨#[]⟩) := by rw [Lib.cell_of_heap hh1]; rfl
  have f1_1 : w1.frozen? ⟨w.heap.size + 1, 1, none⟩ = false := Lib.frozen_of_heap hh1 1
  have c1_2 : w1.cell? ⟨w.heap.size + 1, 2, none⟩ = some (.string ⟨#[]⟩) := by rw [Lib.cell_of_heap hh1]; rfl
  have f1_2 : w1.frozen? ⟨w.heap.size + 1, 2, none⟩ = false := Lib.frozen_of_heap hh1 2
  have c1_3 : w1.cell? ⟨w.heap.size + 1, 3, none⟩ = some (.int .i64 0) := by rw [Lib.cell_of_heap hh1]; rfl
  have f1_3 : w1.frozen? ⟨w.heap.size + 1, 3, none⟩ = false := Lib.frozen_of_heap hh1 3
  have c1_4 : w1.cell? ⟨w.heap.size + 1, 4, none⟩ = some (.int .i64 0) := by rw [Lib.cell_of_heap hh1]; rfl
  have f1_4 : w1.frozen? ⟨w.heap.size + 1, 4, none⟩ = false := Lib.frozen_of_heap hh1 4
  clear hh1
  have sz1 := hbw1.size
  have HW1 := Lib.hid hbw1
  have cp1 : w1.cell? ⟨p, 0, none⟩ = some (.func (.func g) #[] cap) := (HW1.out.cell (p := ⟨p, 0, none⟩) hp).trans HP.out
  go_wp2_with fail
  refine (HG.out _ (by first | exact HW1.out | exact HW1.out.trans ⟨rfl, rfl, rfl, Nat.le_refl _, fun _ _ => rfl⟩ | (go_grown; done))).mono ?_; rintro e w2 ⟨rfl, hb⟩
  have hv0 := HH0_1.out
  have hh0 : w2.heap[w.heap.size]? = some (.cells #[.int .u8 3, .string nm, .string tx, .int .i64 n, .int .i64 m] 23 (0, 0)) := (hb.block _ (heap_lt hv0)).trans hv0
  clear hv0
  have hv1 := HH1_1.out
  have hh1 : w2.heap[w.heap.size + 1]? = some (.cells #[.int .u8 0, .string ⟨#[]⟩, .string ⟨#[]⟩, .int .i64 0, .int .i64 0] 23 (0, 0)) := (hb.block _ (heap_lt hv1)).trans hv1
  clear hv1
  have hbw2 : Below w.heap.size w w2 := (show Below w.heap.size w _ by first | exact HW1.out.trans ⟨rfl, rfl, rfl, Nat.le_refl _, fun _ _ => rfl⟩ | exact HW1.out | (go_grown; done)).trans (hb.mono (by first | omega | (simp; done) | (simp; omega)))
  clear hb lt0 c0_0 f0_0 c0_1 f0_1 c0_2 f0_2 c0_3 f0_3 c0_4 f0_4 lt1 c1_0 f1_0 c1_1 f1_1 c1_2 f1_2 c1_3 f1_3 c1_4 f1_4 hbw1
  have HH0_2 := Lib.hid hh0
  have lt0 := heap_lt hh0
  have c0_0 : w2.cell? ⟨w.heap.size, 0, none⟩ = some (.int .u8 3) := by rw [Lib.cell_of_heap hh0]; rfl
  have f0_0 : w2.frozen? ⟨w.heap.size, 0, none⟩ = false := Lib.frozen_of_heap hh0 0
  have c0_1 : w2.cell? ⟨w.heap.size, 1, none⟩ = some (.string nm) := by rw [Lib.cell_of_heap hh0]; rfl
  have f0_1 : w2.frozen? ⟨w.heap.size, 1, none⟩ = false := Lib.frozen_of_heap hh0 1
  have c0_2 : w2.cell? ⟨w.heap.size, 2, none⟩ = some (.string tx) := by rw [Lib.cell_of_heap hh0]; rfl
  have f0_2 : w2.frozen? ⟨w.heap.size, 2, none⟩ = false := Lib.frozen_of_heap hh0 2
  have c0_3 : w2.cell? ⟨w.heap.size, 3, none⟩ = some (.int .i64 n) := by rw [Lib.cell_of_heap hh0]; rfl
  have f0_3 : w2.frozen? ⟨w.heap.size, 3, none⟩ = false := Lib.frozen_of_heap hh0 3
  have c0_4 : w2.cell? ⟨w.heap.size, 4, none⟩ = some (.int .i64 m) := by rw [Lib.cell_of_heap hh0]; rfl
  have f0_4 : w2.frozen? ⟨w.heap.size, 4, none⟩ = false := Lib.frozen_of_heap hh0 4
  clear hh0
  have HH1_2 := Lib.hid hh1
  have lt1 := heap_lt hh1
  have c1_0 : w2.cell? ⟨w.heap.size + 1, 0, none⟩ = some (.int .u8 0) := by rw [Lib.cell_of_heap hh1]; rfl
  have f1_0 : w2.frozen? ⟨w.heap.size + 1, 0, none⟩ = false := Lib.frozen_of_heap hh1 0
  have c1_1 : w2.cell? ⟨w.heap.size + 1, 1, none⟩ = some (.string ⟨#[]⟩) := by rw [Lib.cell_of_heap hh1]; rfl
  have f1_1 : w2.frozen? ⟨w.heap.size + 1, 1, none⟩ = false := Lib.frozen_of_heap hh1 1
  have c1_2 : w2.cell? ⟨w.heap.size + 1, 2, none⟩ = some (.string ⟨#[]⟩) := by rw [Lib.cell_of_heap hh1]; rfl
  have f1_2 : w2.frozen? ⟨w.heap.size + 1, 2, none⟩ = false := Lib.frozen_of_heap hh1 2
  have c1_3 : w2.cell? ⟨w.heap.size + 1, 3, none⟩ = some (.int .i64 0) := by rw [Lib.cell_of_heap hh1]; rfl
  have f1_3 : w2.frozen? ⟨w.heap.size + 1, 3, none⟩ = false := Lib.frozen_of_heap hh1 3
  have c1_4 : w2.cell? ⟨w.heap.size + 1, 4, none⟩ = some (.int .i64 0) := by rw [Lib.cell_of_heap hh1]; rfl
  have f1_4 : w2.frozen? ⟨w.heap.size + 1, 4, none⟩ = false := Lib.frozen_of_heap hh1 4
  clear hh1
  have sz2 := hbw2.size
  have HW2 := Lib.hid hbw2
  clear cp1
  go_wp2_with fail
  refine bodyPost_ret (v := .tuple #[.agg #[.int .u8 3, .string ⟨#[]⟩, .string s, .int .i64 0, .int .i64 0], .bool t]) (by simp [results, Tryz.results46, go_sem, c1_0, f1_0, c1_1, f1_1, c1_2, f1_2, c1_3, f1_3, c1_4, f1_4]; try rfl) rfl ?_
  exact ⟨rfl, by first | exact HW2.out | (go_grown; done)⟩
set_option maxRecDepth 100000 in
set_option maxHeartbeats 4000000 in
theorem digs_int (nm tx : ByteArray) (n m : Int) (p : Nat) (s : ByteArray) (w : World) (HW : Hid (DoesU w 49 #[.int .i64 n] (.string s))) :
    Calls Tryz.prog 48 #[.agg #[.int .u8 2, .string nm, .string tx, .int .i64 n, .int .i64 m], .pointer (some ⟨p, 0, none⟩)] w fun e w' => e = .returned (.tuple #[.agg #[.int .u8 3, .string ⟨#[]⟩, .string s, .int .i64 0, .int .i64 0], .bool true]) ∧ Below w.heap.size w w' := by
  go_enter Tryz.func48, Tryz.ntmps48
  go_wp2_with fail
  refine (HW.out _ (by first | exact Below.refl _ _ | (go_grown; done))).mono ?_; rintro e w1 ⟨rfl, hb⟩
  have hh0 : w1.heap[w.heap.size]? = some (.cells #[.int .u8 2, .string nm, .string tx, .int .i64 n, .int .i64 m] 23 (0, 0)) := (hb.block _ (by first | omega | (simp; done) | (simp; omega))).trans (heap_old (o' := (.cells #[.int .u8 0, .string ⟨#[]⟩, .string ⟨#[]⟩, .int .i64 0, .int .i64 0] 23 (0, 0))) (heap_new _ _ _ (by first | rfl | simp)))
  have hh1 : w1.heap[w.heap.size + 1]? = some (.cells #[.int .u8 0, .string ⟨#[]⟩, .string ⟨#[]⟩, .int .i64 0, .int .i64 0] 23 (0, 0)) := (hb.block _ (by first | omega | (simp; done) | (simp; omega))).trans (heap_new _ _ _ (by first | rfl | simp))
  have hbw1 : Below w.heap.size w w1 := (show Below w.heap.size w _ by first | exact Below.refl _ _ | (go_grown; done)).trans (hb.mono (by first | omega | (simp; done) | (simp; omega)))
  clear hb
  have HH0_1 := Lib.hid hh0
  have lt0 := heap_lt hh0
  have c0_0 : w1.cell? ⟨w.heap.size, 0, none⟩ = some (.int .u8 2) := by rw [Lib.cell_of_heap hh0]; rfl
  have f0_0 : w1.frozen? ⟨w.heap.size, 0, none⟩ = false := Lib.frozen_of_heap hh0 0
  have c0_1 : w1.cell? ⟨w.heap.size, 1, none⟩ = some (.string nm) := by rw [Lib.cell_of_heap hh0]; rfl
  have f0_1 : w1.frozen? ⟨w.heap.size, 1, none⟩ = false := Lib.frozen_of_heap hh0 1
  have c0_2 : w1.cell? ⟨w.heap.size, 2, none⟩ = some (.string tx) := by rw [Lib.cell_of_heap hh0]; rfl
  have f0_2 : w1.frozen? ⟨w.heap.size, 2, none⟩ = false := Lib.frozen_of_heap hh0 2
  have c0_3 : w1.cell? ⟨w.heap.size, 3, none⟩ = some (.int .i64 n) := by rw [Lib.cell_of_heap hh0]; rfl
  have f0_3 : w1.frozen? ⟨w.heap.size, 3, none⟩ = false := Lib.frozen_of_heap hh0 3
  have c0_4 : w1.cell? ⟨w.heap.size, 4, none⟩ = some (.int .i64 m) := by rw [Lib.cell_of_heap hh0]; rfl
  have f0_4 : w1.frozen? ⟨w.heap.size, 4, none⟩ = false := Lib.frozen_of_heap hh0 4
  clear hh0
  have HH1_1 := Lib.hid hh1
  have lt1 := heap_lt hh1
  have c1_0 : w1.cell? ⟨w.heap.size + 1, 0, none⟩ = some (.int .u8 0) := by rw [Lib.cell_of_heap hh1]; rfl
  have f1_0 : w1.frozen? ⟨w.heap.size + 1, 0, none⟩ = false := Lib.frozen_of_heap hh1 0
  have c1_1 : w1.cell? ⟨w.heap.size + 1, 1, none⟩ = some (.string ⟨#[]⟩) := by rw [Lib.cell_of_heap hh1]; rfl
  have f1_1 : w1.frozen? ⟨w.heap.size + 1, 1, none⟩ = false := Lib.frozen_of_heap hh1 1
  have c1_2 : w1.cell? ⟨w.heap.size + 1, 2, none⟩ = some (.string ⟨#[]⟩) := by rw [Lib.cell_of_heap hh1]; rfl
  have f1_2 : w1.frozen? ⟨w.heap.size + 1, 2, none⟩ = false := Lib.frozen_of_heap hh1 2
  have c1_3 : w1.cell? ⟨w.heap.size + 1, 3, none⟩ = some (.int .i64 0) := by rw [Lib.cell_of_heap hh1]; rfl
  have f1_3 : w1.frozen? ⟨w.heap.size + 1, 3, none⟩ = false := Lib.frozen_of_heap hh1 3
  have c1_4 : w1.cell? ⟨w.heap.size + 1, 4, none⟩ = some (.int .i64 0) := by rw [Lib.cell_of_heap hh1]; rfl
  have f1_4 : w1.frozen? ⟨w.heap.size + 1, 4, none⟩ = false := Lib.frozen_of_heap hh1 4
  clear hh1
  have sz1 := hbw1.size
  have HW1 := Lib.hid hbw1
  go_wp2_with fail
  refine bodyPost_ret (v := .tuple #[.agg #[.int .u8 3, .string ⟨#[]⟩, .string s, .int .i64 0, .int .i64 0], .bool true]) (by simp [results, Tryz.results48, go_sem, c1_0, f1_0, c1_1, f1_1, c1_2, f1_2, c1_3, f1_3, c1_4, f1_4]; try rfl) rfl ?_
  exact ⟨rfl, by first | exact HW1.out | (go_grown; done)⟩
set_option maxRecDepth 100000 in
set_option maxHeartbeats 4000000 in
theorem digs_go (k : Int) (nm tx : ByteArray) (n m : Int) (p g : Nat) (cap : Array Value) (k1 : Int) (nm1 tx1 : ByteArray) (n1 m1 : Int) (t : Bool) (w : World) (HP : Hid (w.cell? ⟨p, 0, none⟩ = some (.func (.func g) #[] cap))) (hp : p < w.heap.size) (eg : ∀ args w, (callFunc g args).run Tryz.prog w = .ok (.enter g args) w) (hk : (k == 2) = false)
    (HG : Hid (DoesU w g (#[.agg #[.int .u8 k, .string nm, .string tx, .int .i64 n, .int .i64 m]] ++ cap) (.tuple #[.agg #[.int .u8 k1, .string nm1, .string tx1, .int .i64 n1, .int .i64 m1], .bool t]))) :
    Calls Tryz.prog 48 #[.agg #[.int .u8 k, .string nm, .string tx, .int .i64 n, .int .i64 m], .pointer (some ⟨p, 0, none⟩)] w fun e w' => e = .returned (.tuple #[.agg #[.int .u8 k1, .string nm1, .string tx1, .int .i64 n1, .int .i64 m1], .bool t]) ∧ Below w.heap.size w w' := by
  have cp0 := HP.out
  go_enter Tryz.func48, Tryz.ntmps48
  go_wp2_with fail
  refine (HG.out _ (by first | exact Below.refl _ _ | (go_grown; done))).mono ?_; rintro e w1 ⟨rfl, hb⟩
  have hh0 : w1.heap[w.heap.size]? = some (.cells #[.int .u8 k, .string nm, .string tx, .int .i64 n, .int .i64 m] 23 (0, 0)) := (hb.block _ (by first | omega | (simp; done) | (simp; omega))).trans (heap_old (o' := (.cells #[.int .u8 0, .string ⟨#[]⟩, .string ⟨#[]⟩, .int .i64 0, .int .i64 0] 23 (0, 0))) (heap_new _ _ _ (by first | rfl | simp)))
  have hh1 : w1.heap[w.heap.size + 1]? = some (.cells #[.int .u8 0, .string ⟨#[]⟩, .string ⟨#[]⟩, .int .i64 0, .int .i64 0] 23 (0, 0)) := (hb.block _ (by first | omega | (simp; done) | (simp; omega))).trans (heap_new _ _ _ (by first | rfl | simp))
  have hbw1 : Below w.heap.size w w1 := (show Below w.heap.size w _ by first | exact Below.refl _ _ | (go_grown; done)).trans (hb.mono (by first | omega | (simp; done) | (simp; omega)))
  clear hb
  have HH0_1 := Lib.hid hh0
  have lt0 := heap_lt hh0
  have c0_0 : w1.cell? ⟨w.heap.size, 0, none⟩ = some (.int .u8 k) := by rw [Lib.cell_of_heap hh0]; rfl
  have f0_0 : w1.frozen? ⟨w.heap.size, 0, none⟩ = false := Lib.frozen_of_heap hh0 0
  have c0_1 : w1.cell? ⟨w.heap.size, 1, none⟩ = some (.string nm) := by rw [Lib.cell_of_heap hh0]; rfl
  have f0_1 : w1.frozen? ⟨w.heap.size, 1, none⟩ = false := Lib.frozen_of_heap hh0 1
  have c0_2 : w1.cell? ⟨w.heap.size, 2, none⟩ = some (.string tx) := by rw [Lib.cell_of_heap hh0]; rfl
  have f0_2 : w1.frozen? ⟨w.heap.size, 2, none⟩ = false := Lib.frozen_of_heap hh0 2
  have c0_3 : w1.cell? ⟨w.heap.size, 3, none⟩ = some (.int .i64 n) := by rw [Lib.cell_of_heap hh0]; rfl
  have f0_3 : w1.frozen? ⟨w.heap.size, 3, none⟩ = false := Lib.frozen_of_heap hh0 3
  have c0_4 : w1.cell? ⟨w.heap.size, 4, none⟩ = some (.int .i64 m) := by rw [Lib.cell_of_heap hh0]; rfl
  have f0_4 : w1.frozen? ⟨w.heap.size, 4, none⟩ = false := Lib.frozen_of_heap hh0 4
  clear hh0
  have HH1_1 := Lib.hid hh1
  have lt1 := heap_lt hh1
  have c1_0 : w1.cell? ⟨w.heap.size + 1, 0, none⟩ = some (.int .u8 0) := by rw [Lib.cell_of_heap hh1]; rfl
  have f1_0 : w1.frozen? ⟨w.heap.size + 1, 0, none⟩ = false := Lib.frozen_of_heap hh1 0
  have c1_1 : w1.cell? ⟨w.heap.size + 1, 1, none⟩ = some (.string ⟨#[]⟩) := by rw [Lib.cell_of_heap hh1]; rfl
  have f1_1 : w1.frozen? ⟨w.heap.size + 1, 1, none⟩ = false := Lib.frozen_of_heap hh1 1
  have c1_2 : w1.cell? ⟨w.heap.size + 1, 2, none⟩ = some (.string ⟨#[]⟩) := by rw [Lib.cell_of_heap hh1]; rfl
  have f1_2 : w1.frozen? ⟨w.heap.size + 1, 2, none⟩ = false := Lib.frozen_of_heap hh1 2
  have c1_3 : w1.cell? ⟨w.heap.size + 1, 3, none⟩ = some (.int .i64 0) := by rw [Lib.cell_of_heap hh1]; rfl
  have f1_3 : w1.frozen? ⟨w.heap.size + 1, 3, none⟩ = false := Lib.frozen_of_heap hh1 3
  have c1_4 : w1.cell? ⟨w.heap.size + 1, 4, none⟩ = some (.int .i64 0) := by rw [Lib.cell_of_heap hh1]; rfl
  have f1_4 : w1.frozen? ⟨w.heap.size + 1, 4, none⟩ = false := Lib.frozen_of_heap hh1 4
  clear hh1
  have sz1 := hbw1.size
  have HW1 := Lib.hid hbw1
  clear cp0
  go_wp2_with fail
  refine bodyPost_ret (v := .tuple #[.agg #[.int .u8 k1, .string nm1, .string tx1, .int .i64 n1, .int .i64 m1], .bool t]) (by simp [results, Tryz.results48, go_sem, c1_0, f1_0, c1_1, f1_1, c1_2, f1_2, c1_3, f1_3, c1_4, f1_4]; try rfl) rfl ?_
  exact ⟨rfl, by first | exact HW1.out | (go_grown; done)⟩
end Go.Proofs.YtjhgiojmlkeccaaGreatDoor
namespace Go.Proofs.YtjhgiojmlkeccaaGreatDoor
open Go.RowKit Go.Shelf
theorem st_one (P : Program) (v : Value) (h : v.oneCell' = true) (W : World) (a : Addr) (x : Value) (hc : W.cell? a = some x) (hz : W.frozen? a = false) : (store a v).run P W = .ok () (W.setCell a v) := by
  rw [run_store P W a v _ h]
  simp [hc, hz]
set_option maxRecDepth 100000 in
set_option maxHeartbeats 4000000 in
theorem plain_text (g : Nat) (cap : Array Value) (c a : Value) (l : Bool) (nm tx : ByteArray) (rk : Int) (rn rt : ByteArray) (ri rm : Int) (t : Bool) (w : World) (eg : ∀ args w, (callFunc g args).run Tryz.prog w = .ok (.enter g args) w) (H1 : Hid (DoesU w g (#[.agg #[.int .u8 3, .string ⟨#[]⟩, .string tx, .int .i64 0, .int .i64 0]] ++ cap) (.tuple #[.agg #[.int .u8 rk, .string rn, .string rt, .int .i64 ri, .int .i64 rm], .bool t]))) :
    Calls Tryz.prog 16 #[.agg #[.func (.func g) #[] cap, c, a, .bool l], .agg #[.int .u8 3, .string nm, .string tx, .int .i64 0, .int .i64 0]] w fun e w' => e = .returned (.tuple #[.agg #[.int .u8 rk, .string rn, .string rt, .int .i64 ri, .int .i64 rm], .bool t]) ∧ Below w.heap.size w w' := by
  go_enter Tryz.func16, Tryz.ntmps16
  go_wp2_with fail
  refine (H1.out _ (by first | exact Below.refl _ _ | (go_grown; done))).mono ?_; rintro e w1 ⟨rfl, hb⟩
  have hh0 : w1.heap[w.heap.size]? = some (.cells #[.func (.func g) #[] cap, c, a, .bool l] 41 (0, 0)) := (hb.block _ (by first | omega | (simp; done) | (simp; omega))).trans (heap_old (o' := (.cells #[.int .u8 0, .string ⟨#[]⟩, .string ⟨#[]⟩, .int .i64 0, .int .i64 0] 23 (0, 0))) (heap_old (o' := (.cells #[.int .u8 3, .string ⟨#[]⟩, .string tx, .int .i64 0, .int .i64 0] 23 (0, 0))) (heap_new _ _ _ (by first | rfl | simp))))
  have hh1 : w1.heap[w.heap.size + 1]? = some (.cells #[.int .u8 3, .string ⟨#[]⟩, .string tx, .int .i64 0, .int .i64 0] 23 (0, 0)) := (hb.block _ (by first | omega | (simp; done) | (simp; omega))).trans (heap_old (o' := (.cells #[.int .u8 0, .string ⟨#[]⟩, .string ⟨#[]⟩, .int .i64 0, .int .i64 0] 23 (0, 0))) (heap_new _ _ _ (by first | rfl | simp)))
  have hh2 : w1.heap[w.heap.size + 1 + 1]? = some (.cells #[.int .u8 0, .string ⟨#[]⟩, .string ⟨#[]⟩, .int .i64 0, .int .i64 0] 23 (0, 0)) := (hb.block _ (by first | omega | (simp; done) | (simp; omega))).trans (heap_new _ _ _ (by first | rfl | simp))
  have hbw1 : Below w.heap.size w w1 := (show Below w.heap.size w _ by first | exact Below.refl _ _ | (go_grown; done)).trans (hb.mono (by first | omega | (simp; done) | (simp; omega)))
  clear hb
  have HH0_1 := Lib.hid hh0
  have lt0 := heap_lt hh0
  have c0_0 : w1.cell? ⟨w.heap.size, 0, none⟩ = some (.func (.func g) #[] cap) := by rw [Lib.cell_of_heap hh0]; rfl
  have c0_1 : w1.cell? ⟨w.heap.size, 1, none⟩ = some (c) := by rw [Lib.cell_of_heap hh0]; rfl
  have c0_2 : w1.cell? ⟨w.heap.size, 2, none⟩ = some (a) := by rw [Lib.cell_of_heap hh0]; rfl
  have c0_3 : w1.cell? ⟨w.heap.size, 3, none⟩ = some (.bool l) := by rw [Lib.cell_of_heap hh0]; rfl
  clear hh0
  have HH1_1 := Lib.hid hh1
  have lt1 := heap_lt hh1
  have c1_0 : w1.cell? ⟨w.heap.size + 1, 0, none⟩ = some (.int .u8 3) := by rw [Lib.cell_of_heap hh1]; rfl
  have f1_0 : w1.frozen? ⟨w.heap.size + 1, 0, none⟩ = false := Lib.frozen_of_heap hh1 0
  have c1_1 : w1.cell? ⟨w.heap.size + 1, 1, none⟩ = some (.string ⟨#[]⟩) := by rw [Lib.cell_of_heap hh1]; rfl
  have f1_1 : w1.frozen? ⟨w.heap.size + 1, 1, none⟩ = false := Lib.frozen_of_heap hh1 1
  have c1_2 : w1.cell? ⟨w.heap.size + 1, 2, none⟩ = some (.string tx) := by rw [Lib.cell_of_heap hh1]; rfl
  have f1_2 : w1.frozen? ⟨w.heap.size + 1, 2, none⟩ = false := Lib.frozen_of_heap hh1 2
  have c1_3 : w1.cell? ⟨w.heap.size + 1, 3, none⟩ = some (.int .i64 0) := by rw [Lib.cell_of_heap hh1]; rfl
  have f1_3 : w1.frozen? ⟨w.heap.size + 1, 3, none⟩ = false := Lib.frozen_of_heap hh1 3
  have c1_4 : w1.cell? ⟨w.heap.size + 1, 4, none⟩ = some (.int .i64 0) := by rw [Lib.cell_of_heap hh1]; rfl
  have f1_4 : w1.frozen? ⟨w.heap.size + 1, 4, none⟩ = false := Lib.frozen_of_heap hh1 4
  clear hh1
  have HH2_1 := Lib.hid hh2
  have lt2 := heap_lt hh2
  have c2_0 : w1.cell? ⟨w.heap.size + 1 + 1, 0, none⟩ = some (.int .u8 0) := by rw [Lib.cell_of_heap hh2]; rfl
  have f2_0 : w1.frozen? ⟨w.heap.size + 1 + 1, 0, none⟩ = false := Lib.frozen_of_heap hh2 0
  have c2_1 : w1.cell? ⟨w.heap.size + 1 + 1, 1, none⟩ = some (.string ⟨#[]⟩) := by rw [Lib.cell_of_heap hh2]; rfl
  have f2_1 : w1.frozen? ⟨w.heap.size + 1 + 1, 1, none⟩ = false := Lib.frozen_of_heap hh2 1
  have c2_2 : w1.cell? ⟨w.heap.size + 1 + 1, 2, none⟩ = some (.string ⟨#[]⟩) := by rw [Lib.cell_of_heap hh2]; rfl
  have f2_2 : w1.frozen? ⟨w.heap.size + 1 + 1, 2, none⟩ = false := Lib.frozen_of_heap hh2 2
  have c2_3 : w1.cell? ⟨w.heap.size + 1 + 1, 3, none⟩ = some (.int .i64 0) := by rw [Lib.cell_of_heap hh2]; rfl
  have f2_3 : w1.frozen? ⟨w.heap.size + 1 + 1, 3, none⟩ = false := Lib.frozen_of_heap hh2 3
  have c2_4 : w1.cell? ⟨w.heap.size + 1 + 1, 4, none⟩ = some (.int .i64 0) := by rw [Lib.cell_of_heap hh2]; rfl
  have f2_4 : w1.frozen? ⟨w.heap.size + 1 + 1, 4, none⟩ = false := Lib.frozen_of_heap hh2 4
  clear hh2
  have sz1 := hbw1.size
  have HW1 := Lib.hid hbw1
  go_wp2_with fail
  refine bodyPost_ret (v := .tuple #[.agg #[.int .u8 rk, .string rn, .string rt, .int .i64 ri, .int .i64 rm], .bool t]) (by simp [results, Tryz.results16, go_sem, c2_0, f2_0, c2_1, f2_1, c2_2, f2_2, c2_3, f2_3, c2_4, f2_4]; try rfl) rfl ?_
  exact ⟨rfl, by first | exact HW1.out | (go_grown; done)⟩
set_option maxRecDepth 100000 in
set_option maxHeartbeats 4000000 in
theorem plain_other (g : Nat) (cap : Array Value) (c a : Value) (l : Bool) (k : Int) (nm : ByteArray) (n : Int) (rk : Int) (rn rt : ByteArray) (ri rm : Int) (t : Bool) (w : World) (eg : ∀ args w, (callFunc g args).run Tryz.prog w = .ok (.enter g args) w) (hk : (k != 3) = true) (hk2 : (k == 3) = false) (H1 : Hid (DoesU w g (#[.agg #[.int .u8 k, .string ⟨#[]⟩, .string ⟨#[]⟩, .int .i64 n, .int .i64 0]] ++ cap) (.tuple #[.agg #[.int .u8 rk, .string rn, .string rt, .int .i64 ri, .int .i64 rm], .bool t]))) :
    Calls Tryz.prog 16 #[.agg #[.func (.func g) #[] cap, c, a, .bool l], .agg #[.int .u8 k, .string nm, .string ⟨#[]⟩, .int .i64 n, .int .i64 0]] w fun e w' => e = .returned (.tuple #[.agg #[.int .u8 rk, .string rn, .string rt, .int .i64 ri, .int .i64 rm], .bool t]) ∧ Below w.heap.size w w' := by
  go_enter Tryz.func16, Tryz.ntmps16
  go_wp2_with fail
  refine (H1.out _ (by first | exact Below.refl _ _ | (go_grown; done))).mono ?_; rintro e w1 ⟨rfl, hb⟩
  have hh0 : w1.heap[w.heap.size]? = some (.cells #[.func (.func g) #[] cap, c, a, .bool l] 41 (0, 0)) := (hb.block _ (by first | omega | (simp; done) | (simp; omega))).trans (heap_old (o' := (.cells #[.int .u8 0, .string ⟨#[]⟩, .string ⟨#[]⟩, .int .i64 0, .int .i64 0] 23 (0, 0))) (heap_old (o' := (.cells #[.int .u8 k, .string ⟨#[]⟩, .string ⟨#[]⟩, .int .i64 n, .int .i64 0] 23 (0, 0))) (heap_new _ _ _ (by first | rfl | simp))))
  have hh1 : w1.heap[w.heap.size + 1]? = some (.cells #[.int .u8 k, .string ⟨#[]⟩, .string ⟨#[]⟩, .int .i64 n, .int .i64 0] 23 (0, 0)) := (hb.block _ (by first | omega | (simp; done) | (simp; omega))).trans (heap_old (o' := (.cells #[.int .u8 0, .string ⟨#[]⟩, .string ⟨#[]⟩, .int .i64 0, .int .i64 0] 23 (0, 0))) (heap_new _ _ _ (by first | rfl | simp)))
  have hh2 : w1.heap[w.heap.size + 1 + 1]? = some (.cells #[.int .u8 0, .string ⟨#[]⟩, .string ⟨#[]⟩, .int .i64 0, .int .i64 0] 23 (0, 0)) := (hb.block _ (by first | omega | (simp; done) | (simp; omega))).trans (heap_new _ _ _ (by first | rfl | simp))
  have hbw1 : Below w.heap.size w w1 := (show Below w.heap.size w _ by first | exact Below.refl _ _ | (go_grown; done)).trans (hb.mono (by first | omega | (simp; done) | (simp; omega)))
  clear hb
  have HH0_1 := Lib.hid hh0
  have lt0 := heap_lt hh0
  have c0_0 : w1.cell? ⟨w.heap.size, 0, none⟩ = some (.func (.func g) #[] cap) := by rw [Lib.cell_of_heap hh0]; rfl
  have c0_1 : w1.cell? ⟨w.heap.size, 1, none⟩ = some (c) := by rw [Lib.cell_of_heap hh0]; rfl
  have c0_2 : w1.cell? ⟨w.heap.size, 2, none⟩ = some (a) := by rw [Lib.cell_of_heap hh0]; rfl
  have c0_3 : w1.cell? ⟨w.heap.size, 3, none⟩ = some (.bool l) := by rw [Lib.cell_of_heap hh0]; rfl
  clear hh0
  have HH1_1 := Lib.hid hh1
  have lt1 := heap_lt hh1
  have c1_0 : w1.cell? ⟨w.heap.size + 1, 0, none⟩ = some (.int .u8 k) := by rw [Lib.cell_of_heap hh1]; rfl
  have f1_0 : w1.frozen? ⟨w.heap.size + 1, 0, none⟩ = false := Lib.frozen_of_heap hh1 0
  have c1_1 : w1.cell? ⟨w.heap.size + 1, 1, none⟩ = some (.string ⟨#[]⟩) := by rw [Lib.cell_of_heap hh1]; rfl
  have f1_1 : w1.frozen? ⟨w.heap.size + 1, 1, none⟩ = false := Lib.frozen_of_heap hh1 1
  have c1_2 : w1.cell? ⟨w.heap.size + 1, 2, none⟩ = some (.string ⟨#[]⟩) := by rw [Lib.cell_of_heap hh1]; rfl
  have f1_2 : w1.frozen? ⟨w.heap.size + 1, 2, none⟩ = false := Lib.frozen_of_heap hh1 2
  have c1_3 : w1.cell? ⟨w.heap.size + 1, 3, none⟩ = some (.int .i64 n) := by rw [Lib.cell_of_heap hh1]; rfl
  have f1_3 : w1.frozen? ⟨w.heap.size + 1, 3, none⟩ = false := Lib.frozen_of_heap hh1 3
  have c1_4 : w1.cell? ⟨w.heap.size + 1, 4, none⟩ = some (.int .i64 0) := by rw [Lib.cell_of_heap hh1]; rfl
  have f1_4 : w1.frozen? ⟨w.heap.size + 1, 4, none⟩ = false := Lib.frozen_of_heap hh1 4
  clear hh1
  have HH2_1 := Lib.hid hh2
  have lt2 := heap_lt hh2
  have c2_0 : w1.cell? ⟨w.heap.size + 1 + 1, 0, none⟩ = some (.int .u8 0) := by rw [Lib.cell_of_heap hh2]; rfl
  have f2_0 : w1.frozen? ⟨w.heap.size + 1 + 1, 0, none⟩ = false := Lib.frozen_of_heap hh2 0
  have c2_1 : w1.cell? ⟨w.heap.size + 1 + 1, 1, none⟩ = some (.string ⟨#[]⟩) := by rw [Lib.cell_of_heap hh2]; rfl
  have f2_1 : w1.frozen? ⟨w.heap.size + 1 + 1, 1, none⟩ = false := Lib.frozen_of_heap hh2 1
  have c2_2 : w1.cell? ⟨w.heap.size + 1 + 1, 2, none⟩ = some (.string ⟨#[]⟩) := by rw [Lib.cell_of_heap hh2]; rfl
  have f2_2 : w1.frozen? ⟨w.heap.size + 1 + 1, 2, none⟩ = false := Lib.frozen_of_heap hh2 2
  have c2_3 : w1.cell? ⟨w.heap.size + 1 + 1, 3, none⟩ = some (.int .i64 0) := by rw [Lib.cell_of_heap hh2]; rfl
  have f2_3 : w1.frozen? ⟨w.heap.size + 1 + 1, 3, none⟩ = false := Lib.frozen_of_heap hh2 3
  have c2_4 : w1.cell? ⟨w.heap.size + 1 + 1, 4, none⟩ = some (.int .i64 0) := by rw [Lib.cell_of_heap hh2]; rfl
  have f2_4 : w1.frozen? ⟨w.heap.size + 1 + 1, 4, none⟩ = false := Lib.frozen_of_heap hh2 4
  clear hh2
  have sz1 := hbw1.size
  have HW1 := Lib.hid hbw1
  go_wp2_with fail
  refine bodyPost_ret (v := .tuple #[.agg #[.int .u8 rk, .string rn, .string rt, .int .i64 ri, .int .i64 rm], .bool t]) (by simp [results, Tryz.results16, go_sem, c2_0, f2_0, c2_1, f2_1, c2_2, f2_2, c2_3, f2_3, c2_4, f2_4]; try rfl) rfl ?_
  exact ⟨rfl, by first | exact HW1.out | (go_grown; done)⟩
end Go.Proofs.YtjhgiojmlkeccaaGreatDoor
namespace Go.Proofs.YtjhgiojmlkeccaaGreatDoor
open Go.RowKit Go.Shelf
set_option maxRecDepth 100000 in
set_option maxHeartbeats 4000000 in
theorem number_k (k : Int) (nm tx : ByteArray) (n m : Int) (hk : (k == 2) = false) (w : World) :
    Calls Tryz.prog 24 #[.agg #[.int .u8 k, .string nm, .string tx, .int .i64 n, .int .i64 m]] w fun e w' => e = .returned (.tuple #[.agg #[.int .u8 k, .string nm, .string tx, .int .i64 n, .int .i64 m], .bool false]) ∧ Below w.heap.size w w' := by
  go_enter Tryz.func24, Tryz.ntmps24
  go_wp2_with fail
  refine wp_region_held_drew (S := fun W => W.cell? ⟨w.heap.size, 0, none⟩ = some (.int .u8 k) ∧ W.cell? ⟨w.heap.size, 1, none⟩ = some (.string nm) ∧ W.cell? ⟨w.heap.size, 2, none⟩ = some (.string tx) ∧ W.cell? ⟨w.heap.size, 3, none⟩ = some (.int .i64 n) ∧ W.cell? ⟨w.heap.size, 4, none⟩ = some (.int .i64 m)) (by kernel_rfl) (⟨by simp [go_sem], by simp [go_sem], by simp [go_sem], by simp [go_sem], by simp [go_sem]⟩) (fun hHeld => ?_)
  refine tky 0 (some 4) (v := ?_) rfl (by kernel_rfl) (by kernel_rfl) (by kernel_rfl) (fun _ _ _ h => h) ?_ hHeld ?_
  rotate_left
  focus (intro w hSw; (try dsimp only at hSw); go_simp; (try with_reducible rfl); done)
  go_frame
  refine tky 1 (some 5) (v := ?_) rfl (by kernel_rfl) (by kernel_rfl) (by kernel_rfl) (fun _ _ _ h => h) ?_ hHeld ?_
  rotate_left
  focus (intro w hSw; (try dsimp only at hSw); go_simp; (try with_reducible rfl); done)
  go_frame
  refine tky 2 (some 6) (v := ?_) rfl (by kernel_rfl) (by kernel_rfl) (by kernel_rfl) (fun _ _ _ h => h) ?_ hHeld ?_
  rotate_left
  focus (intro w hSw; (try dsimp only at hSw); go_simp; (try with_reducible rfl); done)
  go_frame
  refine tky 3 (some 7) (v := ?_) rfl (by kernel_rfl) (by kernel_rfl) (by kernel_rfl) (fun _ _ _ h => h) ?_ hHeld ?_
  rotate_left
  focus (intro w hSw; (try dsimp only at hSw); go_simp; (try with_reducible rfl); done)
  go_frame
  refine tky 4 (some 8) (v := ?_) rfl (by kernel_rfl) (by kernel_rfl) (by kernel_rfl) (fun _ _ _ h => h) ?_ hHeld ?_
  rotate_left
  focus (intro w hSw; (try dsimp only at hSw); go_simp; (try with_reducible rfl); done)
  go_frame
  refine tkn 5 (some 9) rfl (by kernel_rfl) (by kernel_rfl) (by kernel_rfl) (fun _ _ _ h => h) hHeld ?_
  go_frame
  refine tkn 6 (some 10) rfl (by kernel_rfl) (by kernel_rfl) (by kernel_rfl) (fun _ _ _ h => h) hHeld ?_
  go_frame
  refine tkn 7 (some 11) rfl (by kernel_rfl) (by kernel_rfl) (by kernel_rfl) (fun _ _ _ h => h) hHeld ?_
  go_frame
  refine tky 8 (some 12) (v := ?_) rfl (by kernel_rfl) (by kernel_rfl) (by kernel_rfl) (fun _ _ _ h => h) ?_ hHeld ?_
  rotate_left
  focus (intro w hSw; (try dsimp only at hSw); go_simp; (try with_reducible rfl); done)
  go_frame
  refine rcons 9 rfl (by kernel_rfl) (fun K hK => ?_)
  go_simp
  refine hK.out _ _ (⟨by simp [go_sem], by simp [go_sem], by simp [go_sem], by simp [go_sem], by simp [go_sem]⟩) (fun hHeld2 => ?_)
  clear hK K hHeld
  have hHeld := hHeld2
  clear hHeld2
  (try go_frame)
  refine tky 10 (some 3) (v := ?_) rfl (by kernel_rfl) (by kernel_rfl) (by kernel_rfl) (fun _ _ _ h => h) ?_ hHeld ?_
  rotate_left
  focus (intro w hSw; (try dsimp only at hSw); go_simp; (try with_reducible rfl); done)
  go_frame
  refine wpAnyH_done (by kernel_rfl) ?_ _
  go_wp2_with fail
  refine bodyPost_ret (v := .tuple #[.agg #[.int .u8 k, .string nm, .string tx, .int .i64 n, .int .i64 m], .bool false]) (by simp [results, Tryz.results24, go_sem]; try rfl) rfl ?_
  exact ⟨rfl, by go_grown⟩
set_option maxRecDepth 100000 in
set_option maxHeartbeats 4000000 in
theorem number_2 (nm tx : ByteArray) (n m : Int) (hn : R n) (w : World) :
    Calls Tryz.prog 24 #[.agg #[.int .u8 2, .string nm, .string tx, .int .i64 n, .int .i64 m]] w fun e w' => e = .returned (.tuple #[.agg #[.int .u8 2, .string nm, .string tx, .int .i64 n, .int .i64 m], .bool (decide (-2147483648 ≤ n ∧ n ≤ 2147483647))]) ∧ Below w.heap.size w w' := by
  go_enter Tryz.func24, Tryz.ntmps24
  go_wp2_with fail
  refine wp_region_held_drew (S := fun W => W.cell? ⟨w.heap.size, 0, none⟩ = some (.int .u8 2) ∧ W.cell? ⟨w.heap.size, 1, none⟩ = some (.string nm) ∧ W.cell? ⟨w.heap.size, 2, none⟩ = some (.string tx) ∧ W.cell? ⟨w.heap.size, 3, none⟩ = some (.int .i64 n) ∧ W.cell? ⟨w.heap.size, 4, none⟩ = some (.int .i64 m)) (by kernel_rfl) (⟨by simp [go_sem], by simp [go_sem], by simp [go_sem], by simp [go_sem], by simp [go_sem]⟩) (fun hHeld => ?_)
  refine tky 0 (some 4) (v := ?_) rfl (by kernel_rfl) (by kernel_rfl) (by kernel_rfl) (fun _ _ _ h => h) ?_ hHeld ?_
  rotate_left
  focus (intro w hSw; (try dsimp only at hSw); go_simp; (try with_reducible rfl); done)
  go_frame
  refine tky 1 (some 5) (v := ?_) rfl (by kernel_rfl) (by kernel_rfl) (by kernel_rfl) (fun _ _ _ h => h) ?_ hHeld ?_
  rotate_left
  focus (intro w hSw; (try dsimp only at hSw); go_simp; (try with_reducible rfl); done)
  go_frame
  refine tky 2 (some 6) (v := ?_) rfl (by kernel_rfl) (by kernel_rfl) (by kernel_rfl) (fun _ _ _ h => h) ?_ hHeld ?_
  rotate_left
  focus (intro w hSw; (try dsimp only at hSw); go_simp; (try with_reducible rfl); done)
  go_frame
  refine tky 3 (some 7) (v := ?_) rfl (by kernel_rfl) (by kernel_rfl) (by kernel_rfl) (fun _ _ _ h => h) ?_ hHeld ?_
  rotate_left
  focus (intro w hSw; (try dsimp only at hSw); go_simp; (try with_reducible rfl); done)
  go_frame
  refine tky 4 (some 8) (v := ?_) rfl (by kernel_rfl) (by kernel_rfl) (by kernel_rfl) (fun _ _ _ h => h) ?_ hHeld ?_
  rotate_left
  focus (intro w hSw; (try dsimp only at hSw); go_simp; (try with_reducible rfl); done)
  go_frame
  refine tky 5 (some 9) (v := ?_) rfl (by kernel_rfl) (by kernel_rfl) (by kernel_rfl) (fun _ _ _ h => h) ?_ hHeld ?_
  rotate_left
  focus (intro w hSw; (try dsimp only at hSw); go_simp; (try with_reducible rfl); done)
  go_frame
  refine tky 6 (some 10) (v := ?_) rfl (by kernel_rfl) (by kernel_rfl) (by kernel_rfl) (fun _ _ _ h => h) ?_ hHeld ?_
  rotate_left
  focus (intro w hSw; (try dsimp only at hSw); go_simp; (try with_reducible rfl); done)
  go_frame
  refine rcons 7 rfl (by kernel_rfl) (fun K hK => ?_)
  go_simp
  refine (small_any n hn _).mono ?_; rintro e w9 ⟨rfl, rfl⟩
  (try dsimp only)
  refine hK.out _ _ (hHeld) (fun hHeld2 => ?_)
  clear hK K hHeld
  have hHeld := hHeld2
  clear hHeld2
  (try go_frame)
  refine tky 8 (some 12) (v := ?_) rfl (by kernel_rfl) (by kernel_rfl) (by kernel_rfl) (fun _ _ _ h => h) ?_ hHeld ?_
  rotate_left
  focus (intro w hSw; (try dsimp only at hSw); go_simp; (try with_reducible rfl); done)
  go_frame
  refine rcons 9 rfl (by kernel_rfl) (fun K hK => ?_)
  go_simp
  refine hK.out _ _ (⟨by simp [go_sem], by simp [go_sem], by simp [go_sem], by simp [go_sem], by simp [go_sem]⟩) (fun hHeld2 => ?_)
  clear hK K hHeld
  have hHeld := hHeld2
  clear hHeld2
  (try go_frame)
  refine tky 10 (some 3) (v := ?_) rfl (by kernel_rfl) (by kernel_rfl) (by kernel_rfl) (fun _ _ _ h => h) ?_ hHeld ?_
  rotate_left
  focus (intro w hSw; (try dsimp only at hSw); go_simp; (try with_reducible rfl); done)
  go_frame
  refine wpAnyH_done (by kernel_rfl) ?_ _
  go_wp2_with fail
  refine bodyPost_ret (v := .tuple #[.agg #[.int .u8 2, .string nm, .string tx, .int .i64 n, .int .i64 m], .bool (decide (-2147483648 ≤ n ∧ n ≤ 2147483647))]) (by simp [results, Tryz.results24, go_sem]; try rfl) rfl ?_
  exact ⟨rfl, by go_grown⟩
set_option maxRecDepth 100000 in
set_option maxHeartbeats 4000000 in
theorem bool_k (k : Int) (nm tx : ByteArray) (n m : Int) (hk : (k == 1) = false) (w : World) :
    Calls Tryz.prog 30 #[.agg #[.int .u8 k, .string nm, .string tx, .int .i64 n, .int .i64 m]] w fun e w' => e = .returned (.tuple #[.agg #[.int .u8 k, .string nm, .string tx, .int .i64 n, .int .i64 m], .bool false]) ∧ Below w.heap.size w w' := by
  go_enter Tryz.func30, Tryz.ntmps30
  go_wp2_with fail
  refine wp_region_held_drew (S := fun W => W.cell? ⟨w.heap.size, 0, none⟩ = some (.int .u8 k) ∧ W.cell? ⟨w.heap.size, 1, none⟩ = some (.string nm) ∧ W.cell? ⟨w.heap.size, 2, none⟩ = some (.string tx) ∧ W.cell? ⟨w.heap.size, 3, none⟩ = some (.int .i64 n) ∧ W.cell? ⟨w.heap.size, 4, none⟩ = some (.int .i64 m)) (by kernel_rfl) (⟨by simp [go_sem], by simp [go_sem], by simp [go_sem], by simp [go_sem], by simp [go_sem]⟩) (fun hHeld => ?_)
  refine tky 0 (some 4) (v := ?_) rfl (by kernel_rfl) (by kernel_rfl) (by kernel_rfl) (fun _ _ _ h => h) ?_ hHeld ?_
  rotate_left
  focus (intro w hSw; (try dsimp only at hSw); go_simp; (try with_reducible rfl); done)
  go_frame
  refine tky 1 (some 5) (v := ?_) rfl (by kernel_rfl) (by kernel_rfl) (by kernel_rfl) (fun _ _ _ h => h) ?_ hHeld ?_
  rotate_left
  focus (intro w hSw; (try dsimp only at hSw); go_simp; (try with_reducible rfl); done)
  go_frame
  refine tky 2 (some 6) (v := ?_) rfl (by kernel_rfl) (by kernel_rfl) (by kernel_rfl) (fun _ _ _ h => h) ?_ hHeld ?_
  rotate_left
  focus (intro w hSw; (try dsimp only at hSw); go_simp; (try with_reducible rfl); done)
  go_frame
  refine tky 3 (some 7) (v := ?_) rfl (by kernel_rfl) (by kernel_rfl) (by kernel_rfl) (fun _ _ _ h => h) ?_ hHeld ?_
  rotate_left
  focus (intro w hSw; (try dsimp only at hSw); go_simp; (try with_reducible rfl); done)
  go_frame
  refine tky 4 (some 8) (v := ?_) rfl (by kernel_rfl) (by kernel_rfl) (by kernel_rfl) (fun _ _ _ h => h) ?_ hHeld ?_
  rotate_left
  focus (intro w hSw; (try dsimp only at hSw); go_simp; (try with_reducible rfl); done)
  go_frame
  refine tkn 5 (some 9) rfl (by kernel_rfl) (by kernel_rfl) (by kernel_rfl) (fun _ _ _ h => h) hHeld ?_
  go_frame
  refine tkn 6 (some 10) rfl (by kernel_rfl) (by kernel_rfl) (by kernel_rfl) (fun _ _ _ h => h) hHeld ?_
  go_frame
  refine tkn 7 (some 11) rfl (by kernel_rfl) (by kernel_rfl) (by kernel_rfl) (fun _ _ _ h => h) hHeld ?_
  go_frame
  refine tkn 8 (some 12) rfl (by kernel_rfl) (by kernel_rfl) (by kernel_rfl) (fun _ _ _ h => h) hHeld ?_
  go_frame
  refine tkn 9 (some 13) rfl (by kernel_rfl) (by kernel_rfl) (by kernel_rfl) (fun _ _ _ h => h) hHeld ?_
  go_frame
  refine tkn 10 (some 14) rfl (by kernel_rfl) (by kernel_rfl) (by kernel_rfl) (fun _ _ _ h => h) hHeld ?_
  go_frame
  refine tkn 11 (some 15) rfl (by kernel_rfl) (by kernel_rfl) (by kernel_rfl) (fun _ _ _ h => h) hHeld ?_
  go_frame
  refine tkn 12 (some 16) rfl (by kernel_rfl) (by kernel_rfl) (by kernel_rfl) (fun _ _ _ h => h) hHeld ?_
  go_frame
  refine tky 13 (some 17) (v := ?_) rfl (by kernel_rfl) (by kernel_rfl) (by kernel_rfl) (fun _ _ _ h => h) ?_ hHeld ?_
  rotate_left
  focus (intro w hSw; (try dsimp only at hSw); go_simp; (try with_reducible rfl); done)
  go_frame
  refine rcons 14 rfl (by kernel_rfl) (fun K hK => ?_)
  go_simp
  refine hK.out _ _ (⟨by simp [go_sem], by simp [go_sem], by simp [go_sem], by simp [go_sem], by simp [go_sem]⟩) (fun hHeld2 => ?_)
  clear hK K hHeld
  have hHeld := hHeld2
  clear hHeld2
  (try go_frame)
  refine tky 15 (some 3) (v := ?_) rfl (by kernel_rfl) (by kernel_rfl) (by kernel_rfl) (fun _ _ _ h => h) ?_ hHeld ?_
  rotate_left
  focus (intro w hSw; (try dsimp only at hSw); go_simp; (try with_reducible rfl); done)
  go_frame
  refine wpAnyH_done (by kernel_rfl) ?_ _
  go_wp2_with fail
  refine bodyPost_ret (v := .tuple #[.agg #[.int .u8 k, .string nm, .string tx, .int .i64 n, .int .i64 m], .bool false]) (by simp [results, Tryz.results30, go_sem]; try rfl) rfl ?_
  exact ⟨rfl, by go_grown⟩
set_option maxRecDepth 100000 in
set_option maxHeartbeats 4000000 in
theorem bool_0 (nm tx : ByteArray) (m : Int)  (w : World) :
    Calls Tryz.prog 30 #[.agg #[.int .u8 1, .string nm, .string tx, .int .i64 0, .int .i64 m]] w fun e w' => e = .returned (.tuple #[.agg #[.int .u8 1, .string nm, .string tx, .int .i64 0, .int .i64 m], .bool true]) ∧ Below w.heap.size w w' := by
  go_enter Tryz.func30, Tryz.ntmps30
  go_wp2_with fail
  refine wp_region_held_drew (S := fun W => W.cell? ⟨w.heap.size, 0, none⟩ = some (.int .u8 1) ∧ W.cell? ⟨w.heap.size, 1, none⟩ = some (.string nm) ∧ W.cell? ⟨w.heap.size, 2, none⟩ = some (.string tx) ∧ W.cell? ⟨w.heap.size, 3, none⟩ = some (.int .i64 0) ∧ W.cell? ⟨w.heap.size, 4, none⟩ = some (.int .i64 m)) (by kernel_rfl) (⟨by simp [go_sem], by simp [go_sem], by simp [go_sem], by simp [go_sem], by simp [go_sem]⟩) (fun hHeld => ?_)
  refine tky 0 (some 4) (v := ?_) rfl (by kernel_rfl) (by kernel_rfl) (by kernel_rfl) (fun _ _ _ h => h) ?_ hHeld ?_
  rotate_left
  focus (intro w hSw; (try dsimp only at hSw); go_simp; (try with_reducible rfl); done)
  go_frame
  refine tky 1 (some 5) (v := ?_) rfl (by kernel_rfl) (by kernel_rfl) (by kernel_rfl) (fun _ _ _ h => h) ?_ hHeld ?_
  rotate_left
  focus (intro w hSw; (try dsimp only at hSw); go_simp; (try with_reducible rfl); done)
  go_frame
  refine tky 2 (some 6) (v := ?_) rfl (by kernel_rfl) (by kernel_rfl) (by kernel_rfl) (fun _ _ _ h => h) ?_ hHeld ?_
  rotate_left
  focus (intro w hSw; (try dsimp only at hSw); go_simp; (try with_reducible rfl); done)
  go_frame
  refine tky 3 (some 7) (v := ?_) rfl (by kernel_rfl) (by kernel_rfl) (by kernel_rfl) (fun _ _ _ h => h) ?_ hHeld ?_
  rotate_left
  focus (intro w hSw; (try dsimp only at hSw); go_simp; (try with_reducible rfl); done)
  go_frame
  refine tky 4 (some 8) (v := ?_) rfl (by kernel_rfl) (by kernel_rfl) (by kernel_rfl) (fun _ _ _ h => h) ?_ hHeld ?_
  rotate_left
  focus (intro w hSw; (try dsimp only at hSw); go_simp; (try with_reducible rfl); done)
  go_frame
  refine tky 5 (some 9) (v := ?_) rfl (by kernel_rfl) (by kernel_rfl) (by kernel_rfl) (fun _ _ _ h => h) ?_ hHeld ?_
  rotate_left
  focus (intro w hSw; (try dsimp only at hSw); go_simp; (try with_reducible rfl); done)
  go_frame
  refine tky 6 (some 10) (v := ?_) rfl (by kernel_rfl) (by kernel_rfl) (by kernel_rfl) (fun _ _ _ h => h) ?_ hHeld ?_
  rotate_left
  focus (intro w hSw; (try dsimp only at hSw); go_simp; (try with_reducible rfl); done)
  go_frame
  refine tky 7 (some 11) (v := ?_) rfl (by kernel_rfl) (by kernel_rfl) (by kernel_rfl) (fun _ _ _ h => h) ?_ hHeld ?_
  rotate_left
  focus (intro w hSw; (try dsimp only at hSw); go_simp; (try with_reducible rfl); done)
  go_frame
  refine tky 8 (some 12) (v := ?_) rfl (by kernel_rfl) (by kernel_rfl) (by kernel_rfl) (fun _ _ _ h => h) ?_ hHeld ?_
  rotate_left
  focus (intro w hSw; (try dsimp only at hSw); go_simp; (try with_reducible rfl); done)
  go_frame
  refine tkn 9 (some 13) rfl (by kernel_rfl) (by kernel_rfl) (by kernel_rfl) (fun _ _ _ h => h) hHeld ?_
  go_frame
  refine tkn 10 (some 14) rfl (by kernel_rfl) (by kernel_rfl) (by kernel_rfl) (fun _ _ _ h => h) hHeld ?_
  go_frame
  refine tkn 11 (some 15) rfl (by kernel_rfl) (by kernel_rfl) (by kernel_rfl) (fun _ _ _ h => h) hHeld ?_
  go_frame
  refine tky 12 (some 16) (v := ?_) rfl (by kernel_rfl) (by kernel_rfl) (by kernel_rfl) (fun _ _ _ h => h) ?_ hHeld ?_
  rotate_left
  focus (intro w hSw; (try dsimp only at hSw); go_simp; (try with_reducible rfl); done)
  go_frame
  refine tky 13 (some 17) (v := ?_) rfl (by kernel_rfl) (by kernel_rfl) (by kernel_rfl) (fun _ _ _ h => h) ?_ hHeld ?_
  rotate_left
  focus (intro w hSw; (try dsimp only at hSw); go_simp; (try with_reducible rfl); done)
  go_frame
  refine rcons 14 rfl (by kernel_rfl) (fun K hK => ?_)
  go_simp
  refine hK.out _ _ (⟨by simp [go_sem], by simp [go_sem], by simp [go_sem], by simp [go_sem], by simp [go_sem]⟩) (fun hHeld2 => ?_)
  clear hK K hHeld
  have hHeld := hHeld2
  clear hHeld2
  (try go_frame)
  refine tky 15 (some 3) (v := ?_) rfl (by kernel_rfl) (by kernel_rfl) (by kernel_rfl) (fun _ _ _ h => h) ?_ hHeld ?_
  rotate_left
  focus (intro w hSw; (try dsimp only at hSw); go_simp; (try with_reducible rfl); done)
  go_frame
  refine wpAnyH_done (by kernel_rfl) ?_ _
  go_wp2_with fail
  refine bodyPost_ret (v := .tuple #[.agg #[.int .u8 1, .string nm, .string tx, .int .i64 0, .int .i64 m], .bool true]) (by simp [results, Tryz.results30, go_sem]; try rfl) rfl ?_
  exact ⟨rfl, by go_grown⟩
set_option maxRecDepth 100000 in
set_option maxHeartbeats 4000000 in
theorem bool_1 (nm tx : ByteArray) (m : Int)  (w : World) :
    Calls Tryz.prog 30 #[.agg #[.int .u8 1, .string nm, .string tx, .int .i64 1, .int .i64 m]] w fun e w' => e = .returned (.tuple #[.agg #[.int .u8 1, .string nm, .string tx, .int .i64 1, .int .i64 m], .bool true]) ∧ Below w.heap.size w w' := by
  go_enter Tryz.func30, Tryz.ntmps30
  go_wp2_with fail
  refine wp_region_held_drew (S := fun W => W.cell? ⟨w.heap.size, 0, none⟩ = some (.int .u8 1) ∧ W.cell? ⟨w.heap.size, 1, none⟩ = some (.string nm) ∧ W.cell? ⟨w.heap.size, 2, none⟩ = some (.string tx) ∧ W.cell? ⟨w.heap.size, 3, none⟩ = some (.int .i64 1) ∧ W.cell? ⟨w.heap.size, 4, none⟩ = some (.int .i64 m)) (by kernel_rfl) (⟨by simp [go_sem], by simp [go_sem], by simp [go_sem], by simp [go_sem], by simp [go_sem]⟩) (fun hHeld => ?_)
  refine tky 0 (some 4) (v := ?_) rfl (by kernel_rfl) (by kernel_rfl) (by kernel_rfl) (fun _ _ _ h => h) ?_ hHeld ?_
  rotate_left
  focus (intro w hSw; (try dsimp only at hSw); go_simp; (try with_reducible rfl); done)
  go_frame
  refine tky 1 (some 5) (v := ?_) rfl (by kernel_rfl) (by kernel_rfl) (by kernel_rfl) (fun _ _ _ h => h) ?_ hHeld ?_
  rotate_left
  focus (intro w hSw; (try dsimp only at hSw); go_simp; (try with_reducible rfl); done)
  go_frame
  refine tky 2 (some 6) (v := ?_) rfl (by kernel_rfl) (by kernel_rfl) (by kernel_rfl) (fun _ _ _ h => h) ?_ hHeld ?_
  rotate_left
  focus (intro w hSw; (try dsimp only at hSw); go_simp; (try with_reducible rfl); done)
  go_frame
  refine tky 3 (some 7) (v := ?_) rfl (by kernel_rfl) (by kernel_rfl) (by kernel_rfl) (fun _ _ _ h => h) ?_ hHeld ?_
  rotate_left
  focus (intro w hSw; (try dsimp only at hSw); go_simp; (try with_reducible rfl); done)
  go_frame
  refine tky 4 (some 8) (v := ?_) rfl (by kernel_rfl) (by kernel_rfl) (by kernel_rfl) (fun _ _ _ h => h) ?_ hHeld ?_
  rotate_left
  focus (intro w hSw; (try dsimp only at hSw); go_simp; (try with_reducible rfl); done)
  go_frame
  refine tky 5 (some 9) (v := ?_) rfl (by kernel_rfl) (by kernel_rfl) (by kernel_rfl) (fun _ _ _ h => h) ?_ hHeld ?_
  rotate_left
  focus (intro w hSw; (try dsimp only at hSw); go_simp; (try with_reducible rfl); done)
  go_frame
  refine tky 6 (some 10) (v := ?_) rfl (by kernel_rfl) (by kernel_rfl) (by kernel_rfl) (fun _ _ _ h => h) ?_ hHeld ?_
  rotate_left
  focus (intro w hSw; (try dsimp only at hSw); go_simp; (try with_reducible rfl); done)
  go_frame
  refine tky 7 (some 11) (v := ?_) rfl (by kernel_rfl) (by kernel_rfl) (by kernel_rfl) (fun _ _ _ h => h) ?_ hHeld ?_
  rotate_left
  focus (intro w hSw; (try dsimp only at hSw); go_simp; (try with_reducible rfl); done)
  go_frame
  refine tky 8 (some 12) (v := ?_) rfl (by kernel_rfl) (by kernel_rfl) (by kernel_rfl) (fun _ _ _ h => h) ?_ hHeld ?_
  rotate_left
  focus (intro w hSw; (try dsimp only at hSw); go_simp; (try with_reducible rfl); done)
  go_frame
  refine tky 9 (some 13) (v := ?_) rfl (by kernel_rfl) (by kernel_rfl) (by kernel_rfl) (fun _ _ _ h => h) ?_ hHeld ?_
  rotate_left
  focus (intro w hSw; (try dsimp only at hSw); go_simp; (try with_reducible rfl); done)
  go_frame
  refine tky 10 (some 14) (v := ?_) rfl (by kernel_rfl) (by kernel_rfl) (by kernel_rfl) (fun _ _ _ h => h) ?_ hHeld ?_
  rotate_left
  focus (intro w hSw; (try dsimp only at hSw); go_simp; (try with_reducible rfl); done)
  go_frame
  refine tky 11 (some 15) (v := ?_) rfl (by kernel_rfl) (by kernel_rfl) (by kernel_rfl) (fun _ _ _ h => h) ?_ hHeld ?_
  rotate_left
  focus (intro w hSw; (try dsimp only at hSw); go_simp; (try with_reducible rfl); done)
  go_frame
  refine tky 12 (some 16) (v := ?_) rfl (by kernel_rfl) (by kernel_rfl) (by kernel_rfl) (fun _ _ _ h => h) ?_ hHeld ?_
  rotate_left
  focus (intro w hSw; (try dsimp only at hSw); go_simp; (try with_reducible rfl); done)
  go_frame
  refine tky 13 (some 17) (v := ?_) rfl (by kernel_rfl) (by kernel_rfl) (by kernel_rfl) (fun _ _ _ h => h) ?_ hHeld ?_
  rotate_left
  focus (intro w hSw; (try dsimp only at hSw); go_simp; (try with_reducible rfl); done)
  go_frame
  refine rcons 14 rfl (by kernel_rfl) (fun K hK => ?_)
  go_simp
  refine hK.out _ _ (⟨by simp [go_sem], by simp [go_sem], by simp [go_sem], by simp [go_sem], by simp [go_sem]⟩) (fun hHeld2 => ?_)
  clear hK K hHeld
  have hHeld := hHeld2
  clear hHeld2
  (try go_frame)
  refine tky 15 (some 3) (v := ?_) rfl (by kernel_rfl) (by kernel_rfl) (by kernel_rfl) (fun _ _ _ h => h) ?_ hHeld ?_
  rotate_left
  focus (intro w hSw; (try dsimp only at hSw); go_simp; (try with_reducible rfl); done)
  go_frame
  refine wpAnyH_done (by kernel_rfl) ?_ _
  go_wp2_with fail
  refine bodyPost_ret (v := .tuple #[.agg #[.int .u8 1, .string nm, .string tx, .int .i64 1, .int .i64 m], .bool true]) (by simp [results, Tryz.results30, go_sem]; try rfl) rfl ?_
  exact ⟨rfl, by go_grown⟩
set_option maxRecDepth 100000 in
set_option maxHeartbeats 4000000 in
theorem bool_n (nm tx : ByteArray) (n m : Int) (hn0 : (n == 0) = false) (hn1 : (n == 1) = false) (w : World) :
    Calls Tryz.prog 30 #[.agg #[.int .u8 1, .string nm, .string tx, .int .i64 n, .int .i64 m]] w fun e w' => e = .returned (.tuple #[.agg #[.int .u8 1, .string nm, .string tx, .int .i64 n, .int .i64 m], .bool false]) ∧ Below w.heap.size w w' := by
  go_enter Tryz.func30, Tryz.ntmps30
  go_wp2_with fail
  refine wp_region_held_drew (S := fun W => W.cell? ⟨w.heap.size, 0, none⟩ = some (.int .u8 1) ∧ W.cell? ⟨w.heap.size, 1, none⟩ = some (.string nm) ∧ W.cell? ⟨w.heap.size, 2, none⟩ = some (.string tx) ∧ W.cell? ⟨w.heap.size, 3, none⟩ = some (.int .i64 n) ∧ W.cell? ⟨w.heap.size, 4, none⟩ = some (.int .i64 m)) (by kernel_rfl) (⟨by simp [go_sem], by simp [go_sem], by simp [go_sem], by simp [go_sem], by simp [go_sem]⟩) (fun hHeld => ?_)
  refine tky 0 (some 4) (v := ?_) rfl (by kernel_rfl) (by kernel_rfl) (by kernel_rfl) (fun _ _ _ h => h) ?_ hHeld ?_
  rotate_left
  focus (intro w hSw; (try dsimp only at hSw); go_simp; (try with_reducible rfl); done)
  go_frame
  refine tky 1 (some 5) (v := ?_) rfl (by kernel_rfl) (by kernel_rfl) (by kernel_rfl) (fun _ _ _ h => h) ?_ hHeld ?_
  rotate_left
  focus (intro w hSw; (try dsimp only at hSw); go_simp; (try with_reducible rfl); done)
  go_frame
  refine tky 2 (some 6) (v := ?_) rfl (by kernel_rfl) (by kernel_rfl) (by kernel_rfl) (fun _ _ _ h => h) ?_ hHeld ?_
  rotate_left
  focus (intro w hSw; (try dsimp only at hSw); go_simp; (try with_reducible rfl); done)
  go_frame
  refine tky 3 (some 7) (v := ?_) rfl (by kernel_rfl) (by kernel_rfl) (by kernel_rfl) (fun _ _ _ h => h) ?_ hHeld ?_
  rotate_left
  focus (intro w hSw; (try dsimp only at hSw); go_simp; (try with_reducible rfl); done)
  go_frame
  refine tky 4 (some 8) (v := ?_) rfl (by kernel_rfl) (by kernel_rfl) (by kernel_rfl) (fun _ _ _ h => h) ?_ hHeld ?_
  rotate_left
  focus (intro w hSw; (try dsimp only at hSw); go_simp; (try with_reducible rfl); done)
  go_frame
  refine tky 5 (some 9) (v := ?_) rfl (by kernel_rfl) (by kernel_rfl) (by kernel_rfl) (fun _ _ _ h => h) ?_ hHeld ?_
  rotate_left
  focus (intro w hSw; (try dsimp only at hSw); go_simp; (try with_reducible rfl); done)
  go_frame
  refine tky 6 (some 10) (v := ?_) rfl (by kernel_rfl) (by kernel_rfl) (by kernel_rfl) (fun _ _ _ h => h) ?_ hHeld ?_
  rotate_left
  focus (intro w hSw; (try dsimp only at hSw); go_simp; (try with_reducible rfl); done)
  go_frame
  refine tky 7 (some 11) (v := ?_) rfl (by kernel_rfl) (by kernel_rfl) (by kernel_rfl) (fun _ _ _ h => h) ?_ hHeld ?_
  rotate_left
  focus (intro w hSw; (try dsimp only at hSw); go_simp; (try with_reducible rfl); done)
  go_frame
  refine tky 8 (some 12) (v := ?_) rfl (by kernel_rfl) (by kernel_rfl) (by kernel_rfl) (fun _ _ _ h => h) ?_ hHeld ?_
  rotate_left
  focus (intro w hSw; (try dsimp only at hSw); go_simp; (try with_reducible rfl); done)
  go_frame
  refine tky 9 (some 13) (v := ?_) rfl (by kernel_rfl) (by kernel_rfl) (by kernel_rfl) (fun _ _ _ h => h) ?_ hHeld ?_
  rotate_left
  focus (intro w hSw; (try dsimp only at hSw); go_simp; (try with_reducible rfl); done)
  go_frame
  refine tky 10 (some 14) (v := ?_) rfl (by kernel_rfl) (by kernel_rfl) (by kernel_rfl) (fun _ _ _ h => h) ?_ hHeld ?_
  rotate_left
  focus (intro w hSw; (try dsimp only at hSw); go_simp; (try with_reducible rfl); done)
  go_frame
  refine tky 11 (some 15) (v := ?_) rfl (by kernel_rfl) (by kernel_rfl) (by kernel_rfl) (fun _ _ _ h => h) ?_ hHeld ?_
  rotate_left
  focus (intro w hSw; (try dsimp only at hSw); go_simp; (try with_reducible rfl); done)
  go_frame
  refine tky 12 (some 16) (v := ?_) rfl (by kernel_rfl) (by kernel_rfl) (by kernel_rfl) (fun _ _ _ h => h) ?_ hHeld ?_
  rotate_left
  focus (intro w hSw; (try dsimp only at hSw); go_simp; (try with_reducible rfl); done)
  go_frame
  refine tky 13 (some 17) (v := ?_) rfl (by kernel_rfl) (by kernel_rfl) (by kernel_rfl) (fun _ _ _ h => h) ?_ hHeld ?_
  rotate_left
  focus (intro w hSw; (try dsimp only at hSw); go_simp; (try with_reducible rfl); done)
  go_frame
  refine rcons 14 rfl (by kernel_rfl) (fun K hK => ?_)
  go_simp
  refine hK.out _ _ (⟨by simp [go_sem], by simp [go_sem], by simp [go_sem], by simp [go_sem], by simp [go_sem]⟩) (fun hHeld2 => ?_)
  clear hK K hHeld
  have hHeld := hHeld2
  clear hHeld2
  (try go_frame)
  refine tky 15 (some 3) (v := ?_) rfl (by kernel_rfl) (by kernel_rfl) (by kernel_rfl) (fun _ _ _ h => h) ?_ hHeld ?_
  rotate_left
  focus (intro w hSw; (try dsimp only at hSw); go_simp; (try with_reducible rfl); done)
  go_frame
  refine wpAnyH_done (by kernel_rfl) ?_ _
  go_wp2_with fail
  refine bodyPost_ret (v := .tuple #[.agg #[.int .u8 1, .string nm, .string tx, .int .i64 n, .int .i64 m], .bool false]) (by simp [results, Tryz.results30, go_sem]; try rfl) rfl ?_
  exact ⟨rfl, by go_grown⟩
set_option maxRecDepth 100000 in
set_option maxHeartbeats 4000000 in
theorem some_no (w : World) :
    Calls Tryz.prog 32 #[.string ⟨#[]⟩] w fun e w' => e = .returned (.tuple #[.string ⟨#[]⟩, .int .i64 160]) ∧ Below w.heap.size w w' := by
  go_enter Tryz.func32, Tryz.ntmps32
  go_wp2_with fail
  go_ret2
  exact ⟨rfl, Below.refl _ _⟩
set_option maxRecDepth 100000 in
set_option maxHeartbeats 4000000 in
theorem some_yes (s : ByteArray) (hs : s.toList.isEmpty = false) (hs2 : ¬ s.toList = []) (w : World) :
    Calls Tryz.prog 32 #[.string s] w fun e w' => e = .returned (.tuple #[.string s, .int .i64 0]) ∧ Below w.heap.size w w' := by
  go_enter Tryz.func32, Tryz.ntmps32
  go_wp2_with fail
  go_ret2
  exact ⟨rfl, Below.refl _ _⟩
set_option maxRecDepth 100000 in
set_option maxHeartbeats 4000000 in
theorem same_any (s : ByteArray) (w : World) :
    Calls Tryz.prog 29 #[.string s] w fun e w' => e = .returned (.tuple #[.string s, .int .i64 0]) ∧ Below w.heap.size w w' := by
  go_enter Tryz.func29, Tryz.ntmps29
  go_wp2_with fail
  go_ret2
  exact ⟨rfl, Below.refl _ _⟩
set_option maxRecDepth 100000 in
set_option maxHeartbeats 4000000 in
theorem decimal_no (s : ByteArray) (a b e0 : Int) (he : (e0 != 0) = true) (w : World) (H1 : Hid (DoesU w 55 #[.string s] (.tuple #[.agg #[.int .i64 a, .int .i64 b], .int .i64 e0]))) :
    Calls Tryz.prog 36 #[.string s] w fun e w' => e = .returned (.tuple #[.string ⟨#[]⟩, .int .i64 e0]) ∧ Below w.heap.size w w' := by
  go_enter Tryz.func36, Tryz.ntmps36
  go_wp2_with fail
  refine (H1.out _ (by first | exact Below.refl _ _ | (go_grown; done))).mono ?_; rintro e w1 ⟨rfl, hb⟩
  have hbw1 : Below w.heap.size w w1 := (show Below w.heap.size w _ by first | exact Below.refl _ _ | (go_grown; done)).trans (hb.mono (by first | omega | (simp; done) | (simp; omega)))
  clear hb
  have sz1 := hbw1.size
  have HW1 := Lib.hid hbw1
  go_wp2_with fail
  go_ret2
  exact ⟨rfl, by first | exact HW1.out | (go_grown; done)⟩
set_option maxRecDepth 100000 in
set_option maxHeartbeats 4000000 in
theorem decimal_go (s t : ByteArray) (a b e0 : Int) (w : World) (H1 : Hid (DoesU w 55 #[.string s] (.tuple #[.agg #[.int .i64 a, .int .i64 b], .int .i64 0]))) (H2 : Hid (DoesU w 56 #[.agg #[.int .i64 a, .int .i64 b]] (.tuple #[.string t, .int .i64 e0]))) :
    Calls Tryz.prog 36 #[.string s] w fun e w' => e = .returned (.tuple #[.string t, .int .i64 e0]) ∧ Below w.heap.size w w' := by
  go_enter Tryz.func36, Tryz.ntmps36
  go_wp2_with fail
  refine (H1.out _ (by first | exact Below.refl _ _ | (go_grown; done))).mono ?_; rintro e w1 ⟨rfl, hb⟩
  have hbw1 : Below w.heap.size w w1 := (show Below w.heap.size w _ by first | exact Below.refl _ _ | (go_grown; done)).trans (hb.mono (by first | omega | (simp; done) | (simp; omega)))
  clear hb
  have sz1 := hbw1.size
  have HW1 := Lib.hid hbw1
  go_wp2_with fail
  refine (H2.out _ (by first | exact HW1.out | exact HW1.out.trans ⟨rfl, rfl, rfl, Nat.le_refl _, fun _ _ => rfl⟩ | (go_grown; done))).mono ?_; rintro e w2 ⟨rfl, hb⟩
  have hh0 : w2.heap[w1.heap.size]? = some (.cells #[.int .i64 a, .int .i64 b] 94 (0, 0)) := (hb.block _ (by first | omega | (simp; done) | (simp; omega))).trans (heap_new _ _ _ (by first | rfl | simp))
  have hbw2 : Below w.heap.size w w2 := (show Below w.heap.size w _ by first | exact HW1.out.trans ⟨rfl, rfl, rfl, Nat.le_refl _, fun _ _ => rfl⟩ | exact HW1.out | (go_grown; done)).trans (hb.mono (by first | omega | (simp; done) | (simp; omega)))
  clear hb hbw1
  have HH0_2 := Lib.hid hh0
  have lt0 := heap_lt hh0
  have c0_0 : w2.cell? ⟨w1.heap.size, 0, none⟩ = some (.int .i64 a) := by rw [Lib.cell_of_heap hh0]; rfl
  have f0_0 : w2.frozen? ⟨w1.heap.size, 0, none⟩ = false := Lib.frozen_of_heap hh0 0
  have c0_1 : w2.cell? ⟨w1.heap.size, 1, none⟩ = some (.int .i64 b) := by rw [Lib.cell_of_heap hh0]; rfl
  have f0_1 : w2.frozen? ⟨w1.heap.size, 1, none⟩ = false := Lib.frozen_of_heap hh0 1
  clear hh0
  have sz2 := hbw2.size
  have HW2 := Lib.hid hbw2
  go_wp2_with fail
  go_ret2
  exact ⟨rfl, by first | exact HW2.out | (go_grown; done)⟩
end Go.Proofs.YtjhgiojmlkeccaaGreatDoor
namespace Go.Proofs.YtjhgiojmlkeccaaGreatDoor
open Go.RowKit Go.Lib
def natCells (l : List Nat) : List Value := l.map fun (n : Nat) => Value.int .i64 (n : Int)
/-- A slice of numbers of the call's own. -/
def OwnI (B : Nat) (v : Value) (l : List Nat) (W : World) : Prop := W.ownsRow B 3 1 v l.length (natCells l)
theorem OwnI.nil (B : Nat) (W : World) : OwnI B (.slice none 0 0) [] W := World.ownsRow_nil W B 3 1
theorem OwnI.below {B : Nat} {v : Value} {l : List Nat} {w w' : World} (h : OwnI B v l w) (hb : Below w.heap.size w w') : OwnI B v l w' := by
  obtain ⟨h1, h2⟩ := h
  refine ⟨h1, ?_⟩
  rcases h2 with h2 | ⟨g, cap, cur, hv, hB, hg, hrest⟩
  · exact Or.inl h2
  · have hlt : g < w.heap.size := (Array.getElem?_eq_some_iff.1 hg).1
    exact Or.inr ⟨g, cap, cur, hv, hB, (hb.block g hlt).trans hg, hrest⟩
theorem OwnI.alloc {B : Nat} {v : Value} {l : List Nat} {w : World} (h : OwnI B v l w) (o : Obj) : OwnI B v l (w.alloc o) := World.ownsRow.alloc h o
theorem OwnI.lt {B : Nat} {v : Value} {l : List Nat} {w : World} (h : OwnI B v l w) : ∀ k, v.ownBlock = some k → B ≤ k := fun k hk => (World.ownsRow.lt h k hk).1
/-- What a text's check answers. -/
def chkE (l : List UInt8) : Int := if 16384 < l.length then 4 else if validD l then 0 else 10
end Go.Proofs.YtjhgiojmlkeccaaGreatDoor
namespace Go.Proofs.YtjhgiojmlkeccaaGreatDoor
open Go.RowKit
/-- The library's tables of UTF-8 hold what their text lays. -/
def EnvU (w : World) : Prop := Lib.Utf8Tabs (Tryz.lays196_ren.g 3) (Tryz.lays196_ren.g 4) w
theorem EnvU.below {w w' : World} (h : EnvU w) (hb : Below w.heap.size w w') : EnvU w' := Utf8Tabs_below h hb
set_option maxRecDepth 100000 in
theorem tcheck_any (s : ByteArray) (hs : s.size ≤ 1000000) (w : World) (hE : EnvU w) :
    Calls Tryz.prog 47 #[.string s] w fun e w' => e = .returned (.int .i64 (chkE s.data.toList)) ∧ Below w.heap.size w w' := by
  unfold chkE
  rw [show s.data.toList.length = s.size from by rw [Array.length_toList]; rfl]
  by_cases h : 16384 < s.size
  · rw [if_pos h]
    clear hE
    go_enter Tryz.func47, Tryz.ntmps47
    go_wp2_with fail
    go_ret
    exact ⟨rfl, Below.refl _ _⟩
  · rw [if_neg h]
    have H1 : Calls Tryz.prog 69 #[.string s] w fun e w' => e = .returned (.bool (Lib.validD s.data.toList)) ∧ Below w.heap.size w w' := Any.utf8_ValidString Tryz.lays196 s w (by omega) hE
    have h2 : s.size ≤ 16384 := by omega
    have HI := Lib.hid H1
    clear h hE H1
    generalize Lib.validD s.data.toList = r at *
    cases r
    all_goals
      go_enter Tryz.func47, Tryz.ntmps47
      go_wp2_with fail
      refine HI.out.mono ?_; rintro e w1 ⟨rfl, hb⟩
      go_wp2_with fail
      go_ret
      exact ⟨rfl, hb⟩
end Go.Proofs.YtjhgiojmlkeccaaGreatDoor
namespace Go.Proofs.YtjhgiojmlkeccaaGreatDoor
open Go.RowKit
/-- What a variable holds, it holds behind a call that only makes blocks. -/
theorem var_stays_w {P : Program} {w w' : World} {n : String} {cs : Array Value} (hv : w.var? P n = some cs) (hb : Below w.heap.size w w') : w'.var? P n = some cs := by
  unfold World.var? at hv
  obtain ⟨g, hg, h2⟩ := Option.bind_eq_some_iff.1 hv
  have hlt : g < w.heap.size := by
    rcases Nat.lt_or_ge g w.heap.size with h | h
    · exact h
    · rw [Array.getElem?_eq_none h] at h2; cases h2
  unfold World.var?
  rw [hg]
  simp only [Option.bind_some]
  rw [hb.block g hlt]; exact h2
/-- What the library's table of powers holds. -/
def EnvT (w : World) : Prop := Lib.TabIs Tryz.prog w "internal/strconv.uint64pow10" .u64 Lib.pow10Tab
theorem below_grow (w : World) (k : Nat) (os : Array Obj) : Below w.heap.size w (Go.Sort.grow (w.drewN k) os) := by
  refine ⟨rfl, rfl, rfl, by show w.heap.size ≤ ((w.drewN k).heap ++ os).size; rw [Array.size_append]; exact Nat.le_add_right _ _, fun i hi => ?_⟩
  show ((w.drewN k).heap ++ os)[i]? = w.heap[i]?
  rw [Array.getElem?_append_left (show i < (w.drewN k).heap.size from hi)]; rfl
theorem EnvT.stays {w w' : World} (h : EnvT w) (hb : Below w.heap.size w w') : EnvT w' := var_stays_w h hb
set_option maxHeartbeats 400000 in
theorem write_tab (n : Int) (hr : R n) (w : World) (ht : EnvT w) :
    Calls Tryz.prog 49 #[.int .i64 n] w fun e w' => e = .returned (.string ⟨(Lib.itoa n).toArray⟩) ∧ Below w.heap.size w w' := by
  have HT := Lib.hid ht
  clear ht
  go_enter Tryz.func49, Tryz.ntmps49
  go_wp2_with fail
  refine (Tryz.strconv_FormatInt_10 n hr.1 hr.2 _ HT.out).mono ?_; rintro e w1 ⟨rfl, k, os, rfl⟩
  go_wp2_with fail
  go_ret
  exact ⟨rfl, below_grow _ _ _⟩
end Go.Proofs.YtjhgiojmlkeccaaGreatDoor
namespace Go.Proofs.YtjhgiojmlkeccaaGreatDoor
open Go.RowKit Go.Shelf
set_option maxRecDepth 100000 in
set_option maxHeartbeats 4000000 in
theorem plain_many (g : Nat) (cap : Array Value) (c a : Value) (l : Bool) (ck : Int) (nm tx : ByteArray) (n m : Int) (w : World) (hm : (m != 0) = true) :
    Calls Tryz.prog 16 #[.agg #[.func (.func g) #[] cap, c, a, .bool l], .agg #[.int .u8 ck, .string nm, .string tx, .int .i64 n, .int .i64 m]] w fun e w' => e = .returned (.tuple #[.agg #[.int .u8 0, .string ⟨#[]⟩, .string ⟨#[]⟩, .int .i64 0, .int .i64 0], .bool false]) ∧ Below w.heap.size w w' := by
  go_enter Tryz.func16, Tryz.ntmps16
  go_wp2_with fail
  refine bodyPost_ret (v := .tuple #[.agg #[.int .u8 0, .string ⟨#[]⟩, .string ⟨#[]⟩, .int .i64 0, .int .i64 0], .bool false]) (by simp [results, Tryz.results16, go_sem]; try rfl) rfl ?_
  exact ⟨rfl, by go_grown⟩
set_option maxRecDepth 100000 in
set_option maxHeartbeats 4000000 in
theorem plain_txt (g : Nat) (cap : Array Value) (c a : Value) (l : Bool) (ck : Int) (nm tx : ByteArray) (n : Int) (w : World) (hk : (ck != 3) = true) (hk2 : (ck == 3) = false) (ht : tx.toList.isEmpty = false) (ht2 : ¬ tx.toList = []) :
    Calls Tryz.prog 16 #[.agg #[.func (.func g) #[] cap, c, a, .bool l], .agg #[.int .u8 ck, .string nm, .string tx, .int .i64 n, .int .i64 0]] w fun e w' => e = .returned (.tuple #[.agg #[.int .u8 0, .string ⟨#[]⟩, .string ⟨#[]⟩, .int .i64 0, .int .i64 0], .bool false]) ∧ Below w.heap.size w w' := by
  go_enter Tryz.func16, Tryz.ntmps16
  go_wp2_with fail
  refine bodyPost_ret (v := .tuple #[.agg #[.int .u8 0, .string ⟨#[]⟩, .string ⟨#[]⟩, .int .i64 0, .int .i64 0], .bool false]) (by simp [results, Tryz.results16, go_sem]; try rfl) rfl ?_
  exact ⟨rfl, by go_grown⟩
set_option maxRecDepth 100000 in
set_option maxHeartbeats 4000000 in
theorem plain_num (g : Nat) (cap : Array Value) (c a : Value) (l : Bool) (nm tx : ByteArray) (n : Int) (w : World) (hn : (n != 0) = true) :
    Calls Tryz.prog 16 #[.agg #[.func (.func g) #[] cap, c, a, .bool l], .agg #[.int .u8 3, .string nm, .string tx, .int .i64 n, .int .i64 0]] w fun e w' => e = .returned (.tuple #[.agg #[.int .u8 0, .string ⟨#[]⟩, .string ⟨#[]⟩, .int .i64 0, .int .i64 0], .bool false]) ∧ Below w.heap.size w w' := by
  go_enter Tryz.func16, Tryz.ntmps16
  go_wp2_with fail
  refine bodyPost_ret (v := .tuple #[.agg #[.int .u8 0, .string ⟨#[]⟩, .string ⟨#[]⟩, .int .i64 0, .int .i64 0], .bool false]) (by simp [results, Tryz.results16, go_sem]; try rfl) rfl ?_
  exact ⟨rfl, by go_grown⟩
/-- What a scalar reads of a cell without a name, without fields: kind, text, number, and whether it is one. -/
abbrev RdV := Int → ByteArray → Int → Int × ByteArray × Int × Bool
def toldR (cs : ByteArray → ByteArray × Int) : RdV := fun ck tx n => if ck = 3 ∧ chkE tx.data.toList = 0 then (3, (cs tx).1, 0, (cs tx).2 == 0) else (ck, tx, n, false)
def digsR (rd : RdV) : RdV := fun ck tx n => if ck = 2 then (3, ⟨(Lib.itoa n).toArray⟩, 0, true) else rd ck tx n
def numR : RdV := fun ck tx n => (ck, tx, n, ck == 2 && decide (-2147483648 ≤ n ∧ n ≤ 2147483647))
def boolR : RdV := fun ck tx n => (ck, tx, n, ck == 1 && (n == 0 || n == 1))
def plainR (rd : RdV) : Int → ByteArray → Int → Int → Int × ByteArray × Int × Bool := fun ck tx n m => if m = 0 ∧ (if ck = 3 then n = 0 else tx.toList = []) then rd ck tx n else (0, ⟨#[]⟩, 0, false)
/-- A text's function, of those that scalars hold. -/
def CanC (w : World) (g : Nat) (cap : Array Value) (cs : ByteArray → ByteArray × Int) : Prop := ∀ s : ByteArray, s.size ≤ 16384 → DoesU w g (#[.string s] ++ cap) (.tuple #[.string (cs s).1, .int .i64 (cs s).2])
/-- A reader. -/
def RdC (w : World) (g : Nat) (cap : Array Value) (rd : RdV) : Prop := ∀ (ck : Int) (tx : ByteArray) (n : Int), 0 ≤ ck → ck ≤ 255 → tx.size ≤ 1000000 → R n →
  DoesU w g (#[.agg #[.int .u8 ck, .string ⟨#[]⟩, .string tx, .int .i64 n, .int .i64 0]] ++ cap) (.tuple #[.agg #[.int .u8 (rd ck tx n).1, .string ⟨#[]⟩, .string (rd ck tx n).2.1, .int .i64 (rd ck tx n).2.2.1, .int .i64 0], .bool (rd ck tx n).2.2.2])
theorem CanC.below {w w' : World} {g : Nat} {cap : Array Value} {cs : ByteArray → ByteArray × Int} (h : CanC w g cap cs) (hb : Below w.heap.size w w') : CanC w' g cap cs := fun s hs => (h s hs).below hb
theorem RdC.below {w w' : World} {g : Nat} {cap : Array Value} {rd : RdV} (h : RdC w g cap rd) (hb : Below w.heap.size w w') : RdC w' g cap rd := fun ck tx n h0 h1 h2 h3 => (h ck tx n h0 h1 h2 h3).below hb
theorem app_nil (x : Value) : #[x] ++ #[] = #[x] := by simp
theorem told_c (p g : Nat) (cap : Array Value) (cs : ByteArray → ByteArray × Int) (w : World) (HP : w.cell? ⟨p, 0, none⟩ = some (.func (.func g) #[] cap)) (eg : ∀ args w, (callFunc g args).run Tryz.prog w = .ok (.enter g args) w) (hE : EnvU w) (HC : CanC w g cap cs) :
    RdC w 46 #[.pointer (some ⟨p, 0, none⟩)] (toldR cs) := by
  intro ck tx n h0 h1 h2 h3 W hW
  have HK : Hid (DoesU W 47 #[.string tx] (.int .i64 (chkE tx.data.toList))) := Lib.hid fun W' hW' => tcheck_any tx h2 W' ((hE.below hW).below hW')
  unfold toldR
  by_cases hk : ck = 3
  · subst hk
    by_cases hc : chkE tx.data.toList = 0
    · rw [if_pos ⟨rfl, hc⟩]
      rw [hc] at HK
      have hs : tx.size ≤ 16384 := by
        unfold chkE at hc
        by_cases h : 16384 < tx.data.toList.length
        · rw [if_pos h] at hc; cases hc
        · have : tx.data.toList.length = tx.size := by rw [Array.length_toList]; rfl
          omega
      exact told_go ⟨#[]⟩ tx n 0 p g cap (cs tx).1 (cs tx).2 _ W (Lib.hid ((hW.cell (p := ⟨p, 0, none⟩) (lt_of_cell HP)).trans HP)) (Nat.lt_of_lt_of_le (lt_of_cell HP) hW.size) eg rfl HK (Lib.hid ((HC tx hs).below hW))
    · rw [if_neg (fun h => hc h.2)]
      exact told_bad ⟨#[]⟩ tx n 0 p _ W (by simpa using hc) HK
  · rw [if_neg (fun h => hk h.1)]
    exact told_kind ck ⟨#[]⟩ tx n 0 p W (by simpa using hk)
theorem digs_c (p g : Nat) (cap : Array Value) (rd : RdV) (w : World) (HP : w.cell? ⟨p, 0, none⟩ = some (.func (.func g) #[] cap)) (eg : ∀ args w, (callFunc g args).run Tryz.prog w = .ok (.enter g args) w) (hE : EnvT w) (HC : RdC w g cap rd) :
    RdC w 48 #[.pointer (some ⟨p, 0, none⟩)] (digsR rd) := by
  intro ck tx n h0 h1 h2 h3 W hW
  unfold digsR
  by_cases hk : ck = 2
  · subst hk
    rw [if_pos rfl]
    exact digs_int ⟨#[]⟩ tx n 0 p _ W (Lib.hid fun W' hW' => write_tab n h3 W' ((EnvT.stays hE hW).stays hW'))
  · rw [if_neg hk]
    exact digs_go ck ⟨#[]⟩ tx n 0 p g cap _ _ _ _ _ _ W (Lib.hid ((hW.cell (p := ⟨p, 0, none⟩) (lt_of_cell HP)).trans HP)) (Nat.lt_of_lt_of_le (lt_of_cell HP) hW.size) eg (by simpa using hk) (Lib.hid ((HC ck tx n h0 h1 h2 h3).below hW))
theorem number_c (w : World) : RdC w 24 #[] numR := by
  intro ck tx n h0 h1 h2 h3 W hW
  rw [app_nil]
  unfold numR
  by_cases hk : ck = 2
  · subst hk
    exact number_2 _ _ _ _ h3 W
  · have e : (ck == 2) = false := by simpa using hk
    rw [e]
    exact number_k ck _ _ _ _ e W
theorem bool_c (w : World) : RdC w 30 #[] boolR := by
  intro ck tx n h0 h1 h2 h3 W hW
  rw [app_nil]
  unfold boolR
  by_cases hk : ck = 1
  · subst hk
    by_cases hn : n = 0
    · subst hn; exact bool_0 _ _ _ W
    · by_cases hn1 : n = 1
      · subst hn1; exact bool_1 _ _ _ W
      · have e0 : (n == 0) = false := by simpa using hn
        have e1 : (n == 1) = false := by simpa using hn1
        rw [e0, e1]
        exact bool_n _ _ _ _ e0 e1 W
  · have e : (ck == 1) = false := by simpa using hk
    rw [e]
    exact bool_k ck _ _ _ _ e W
/-- plain, of a scalar. -/
def PlC (w : World) (g : Nat) (cap : Array Value) (c a : Value) (l : Bool) (rd : RdV) : Prop := ∀ (ck : Int) (nm tx : ByteArray) (n m : Int), 0 ≤ ck → ck ≤ 255 → tx.size ≤ 1000000 → R n → R m →
  DoesU w 16 #[.agg #[.func (.func g) #[] cap, c, a, .bool l], .agg #[.int .u8 ck, .string nm, .string tx, .int .i64 n, .int .i64 m]] (.tuple #[.agg #[.int .u8 (plainR rd ck tx n m).1, .string ⟨#[]⟩, .string (plainR rd ck tx n m).2.1, .int .i64 (plainR rd ck tx n m).2.2.1, .int .i64 0], .bool (plainR rd ck tx n m).2.2.2])
theorem plain_c (g : Nat) (cap : Array Value) (c a : Value) (l : Bool) (rd : RdV) (w : World) (eg : ∀ args w, (callFunc g args).run Tryz.prog w = .ok (.enter g args) w) (HR : RdC w g cap rd) : PlC w g cap c a l rd := by
  intro ck nm tx n m h0 h1 h2 h3 h4 W hW
  have HR' := HR.below hW
  unfold plainR
  by_cases hm : m = 0
  · subst hm
    by_cases hk : ck = 3
    · subst hk
      by_cases hn : n = 0
      · subst hn
        rw [if_pos ⟨rfl, by rw [if_pos rfl]⟩]
        exact plain_text g cap c a l nm tx _ _ _ _ _ _ W eg (Lib.hid (HR' 3 tx 0 h0 h1 h2 h3))
      · rw [if_neg (fun h => hn (by simpa using h.2))]
        exact plain_num g cap c a l nm tx n W (by simpa using hn)
    · have e1 : (ck != 3) = true := by simpa using hk
      have e2 : (ck == 3) = false := by simpa using hk
      by_cases ht : tx.toList = []
      · rw [if_pos ⟨rfl, by rw [if_neg hk]; exact ht⟩]
        obtain rfl : tx = ⟨#[]⟩ := by
          rw [ByteArray.toList_eq] at ht
          have : tx.data = #[] := Array.toList_inj.1 (by rw [ht])
          cases tx; simp_all
        exact plain_other g cap c a l ck nm n _ _ _ _ _ _ W eg e1 e2 (Lib.hid (HR' ck ⟨#[]⟩ n h0 h1 (by decide) h3))
      · rw [if_neg (fun h => ht (by have := h.2; rw [if_neg hk] at this; exact this))]
        exact plain_txt g cap c a l ck nm tx n W e1 e2 (by simpa using ht) ht
  · rw [if_neg (fun h => hm h.1)]
    exact plain_many g cap c a l ck nm tx n m W (by simpa using hm)
end Go.Proofs.YtjhgiojmlkeccaaGreatDoor
namespace Go.Proofs.YtjhgiojmlkeccaaGreatDoor
open Go.RowKit Go.Shelf
theorem pset {b i : Nat} {W : World} {A A' : Array Value} {T : TypeId} (h : W.heap[b]? = some (.cells A T (0, 0))) (v : Value) (hA : A.setIfInBounds i v = A') : (W.setCell ⟨b, i, none⟩ v).heap[b]? = some (.cells A' T (0, 0)) := on_pset h v hA
theorem pother {b b' i : Nat} {W : World} {o : Obj} (h : W.heap[b]? = some o) (v : Value) (hne : b ≠ b') : (W.setCell ⟨b', i, none⟩ v).heap[b]? = some o := by
  rw [Below.heap_setCell _ _ _ _ hne]; exact h
set_option maxRecDepth 100000 in
set_option maxHeartbeats 4000000 in
theorem sread_go (k : Int) (ck : Int) (cn ct : ByteArray) (ci cm : Int) (rk : Int) (rn rt : ByteArray) (ri rm : Int) (w : World)
    (HO : Hid (∀ W, Below w.heap.size w W → Calls Tryz.prog 15 #[.int .u8 k] W fun e w' => (∃ g cap c a l, e = .returned (.tuple #[.agg #[.func (.func g) #[] cap, c, a, .bool l], .int .i64 0]) ∧ Hid (c.oneCell' = true ∧ a.oneCell' = true) ∧ Hid (DoesU w' 16 #[.agg #[.func (.func g) #[] cap, c, a, .bool l], .agg #[.int .u8 ck, .string cn, .string ct, .int .i64 ci, .int .i64 cm]] (.tuple #[.agg #[.int .u8 rk, .string rn, .string rt, .int .i64 ri, .int .i64 rm], .bool true]))) ∧ Below W.heap.size W w')) :
    Calls Tryz.prog 8 #[.int .u8 k, .agg #[.int .u8 ck, .string cn, .string ct, .int .i64 ci, .int .i64 cm]] w fun e w' => e = .returned (.tuple #[.agg #[.int .u8 rk, .string rn, .string rt, .int .i64 ri, .int .i64 rm], .int .i64 0]) ∧ Below w.heap.size w w' := by
  go_enter Tryz.func8, Tryz.ntmps8
  go_wp2_with fail
  refine (HO.out _ (by first | exact Below.refl _ _ | (go_grown; done))).mono ?_; rintro e w1 ⟨⟨g, cap, c, a, l, rfl, HC, HQ⟩, hb⟩
  have hh0 : w1.heap[w.heap.size]? = some (.cells #[.int .u8 ck, .string cn, .string ct, .int .i64 ci, .int .i64 cm] 23 (0, 0)) := (hb.block _ (by first | omega | (simp; done) | (simp; omega))).trans (heap_old (o' := (.cells #[.int .u8 0, .string ⟨#[]⟩, .string ⟨#[]⟩, .int .i64 0, .int .i64 0] 23 (0, 0))) (heap_new _ _ _ (by first | rfl | simp)))
  have hh1 : w1.heap[w.heap.size + 1]? = some (.cells #[.int .u8 0, .string ⟨#[]⟩, .string ⟨#[]⟩, .int .i64 0, .int .i64 0] 23 (0, 0)) := (hb.block _ (by first | omega | (simp; done) | (simp; omega))).trans (heap_new _ _ _ (by first | rfl | simp))
  have hbw1 : Below w.heap.size w w1 := (show Below w.heap.size w _ by first | exact Below.refl _ _ | (go_grown; done)).trans (hb.mono (by first | omega | (simp; done) | (simp; omega)))
  clear hb
  have HH0_1 := Lib.hid hh0
  have lt0 := heap_lt hh0
  have c0_0 : w1.cell? ⟨w.heap.size, 0, none⟩ = some (.int .u8 ck) := by rw [Lib.cell_of_heap hh0]; rfl
  have f0_0 : w1.frozen? ⟨w.heap.size, 0, none⟩ = false := Lib.frozen_of_heap hh0 0
  have c0_1 : w1.cell? ⟨w.heap.size, 1, none⟩ = some (.string cn) := by rw [Lib.cell_of_heap hh0]; rfl
  have f0_1 : w1.frozen? ⟨w.heap.size, 1, none⟩ = false := Lib.frozen_of_heap hh0 1
  have c0_2 : w1.cell? ⟨w.heap.size, 2, none⟩ = some (.string ct) := by rw [Lib.cell_of_heap hh0]; rfl
  have f0_2 : w1.frozen? ⟨w.heap.size, 2, none⟩ = false := Lib.frozen_of_heap hh0 2
  have c0_3 : w1.cell? ⟨w.heap.size, 3, none⟩ = some (.int .i64 ci) := by rw [Lib.cell_of_heap hh0]; rfl
  have f0_3 : w1.frozen? ⟨w.heap.size, 3, none⟩ = false := Lib.frozen_of_heap hh0 3
  have c0_4 : w1.cell? ⟨w.heap.size, 4, none⟩ = some (.int .i64 cm) := by rw [Lib.cell_of_heap hh0]; rfl
  have f0_4 : w1.frozen? ⟨w.heap.size, 4, none⟩ = false := Lib.frozen_of_heap hh0 4
  clear hh0
  have HH1_1 := Lib.hid hh1
  have lt1 := heap_lt hh1
  have c1_0 : w1.cell? ⟨w.heap.size + 1, 0, none⟩ = some (.int .u8 0) := by rw [Lib.cell_of_heap hh1]; rfl
  have f1_0 : w1.frozen? ⟨w.heap.size + 1, 0, none⟩ = false := Lib.frozen_of_heap hh1 0
  have c1_1 : w1.cell? ⟨w.heap.size + 1, 1, none⟩ = some (.string ⟨#[]⟩) := by rw [Lib.cell_of_heap hh1]; rfl
  have f1_1 : w1.frozen? ⟨w.heap.size + 1, 1, none⟩ = false := Lib.frozen_of_heap hh1 1
  have c1_2 : w1.cell? ⟨w.heap.size + 1, 2, none⟩ = some (.string ⟨#[]⟩) := by rw [Lib.cell_of_heap hh1]; rfl
  have f1_2 : w1.frozen? ⟨w.heap.size + 1, 2, none⟩ = false := Lib.frozen_of_heap hh1 2
  have c1_3 : w1.cell? ⟨w.heap.size + 1, 3, none⟩ = some (.int .i64 0) := by rw [Lib.cell_of_heap hh1]; rfl
  have f1_3 : w1.frozen? ⟨w.heap.size + 1, 3, none⟩ = false := Lib.frozen_of_heap hh1 3
  have c1_4 : w1.cell? ⟨w.heap.size + 1, 4, none⟩ = some (.int .i64 0) := by rw [Lib.cell_of_heap hh1]; rfl
  have f1_4 : w1.frozen? ⟨w.heap.size + 1, 4, none⟩ = false := Lib.frozen_of_heap hh1 4
  clear hh1
  have sz1 := hbw1.size
  have HW1 := Lib.hid hbw1
  have hsn := fun W a x hc hz => st_one Tryz.prog .nilFunc rfl W a x hc hz
  have hsf := fun W b x hc hz => st_one Tryz.prog (.func (.func g) #[] cap) rfl W b x hc hz
  have hsc := fun W b x hc hz => st_one Tryz.prog c HC.out.1 W b x hc hz
  have hsa := fun W b x hc hz => st_one Tryz.prog a HC.out.2 W b x hc hz
  go_wp2_with fail
  refine (HQ.out _ (by first | exact Below.refl _ _ | exact hq1 | (go_grown; done))).mono ?_; rintro e w2 ⟨rfl, hb⟩
  have hv0 := heap_old (o' := (.cells #[.func (.func g) #[] cap, c, a, .bool l] 41 (0, 0))) (HH0_1.out)
  have hh0 : w2.heap[w.heap.size]? = some (.cells #[.int .u8 ck, .string cn, .string ct, .int .i64 ci, .int .i64 cm] 23 (0, 0)) := (hb.block _ (heap_lt hv0)).trans hv0
  clear hv0
  have hv1 := heap_old (o' := (.cells #[.func (.func g) #[] cap, c, a, .bool l] 41 (0, 0))) (HH1_1.out)
  have hh1 : w2.heap[w.heap.size + 1]? = some (.cells #[.int .u8 0, .string ⟨#[]⟩, .string ⟨#[]⟩, .int .i64 0, .int .i64 0] 23 (0, 0)) := (hb.block _ (heap_lt hv1)).trans hv1
  clear hv1
  have hh2 : w2.heap[w1.heap.size]? = some (.cells #[.func (.func g) #[] cap, c, a, .bool l] 41 (0, 0)) := (hb.block _ (by first | omega | (simp; done) | (simp; omega))).trans (heap_new _ _ _ (by first | rfl | simp))
  have hbw2 : Below w.heap.size w w2 := (show Below w.heap.size w _ by first | exact HW1.out.trans ⟨rfl, rfl, rfl, Nat.le_refl _, fun _ _ => rfl⟩ | exact HW1.out | (go_grown; done)).trans (hb.mono (by first | omega | (simp; done) | (simp; omega)))
  clear hb lt0 c0_0 f0_0 c0_1 f0_1 c0_2 f0_2 c0_3 f0_3 c0_4 f0_4 lt1 c1_0 f1_0 c1_1 f1_1 c1_2 f1_2 c1_3 f1_3 c1_4 f1_4 hbw1
  have HH0_2 := Lib.hid hh0
  have lt0 := heap_lt hh0
  have c0_0 : w2.cell? ⟨w.heap.size, 0, none⟩ = some (.int .u8 ck) := by rw [Lib.cell_of_heap hh0]; rfl
  have f0_0 : w2.frozen? ⟨w.heap.size, 0, none⟩ = false := Lib.frozen_of_heap hh0 0
  have c0_1 : w2.cell? ⟨w.heap.size, 1, none⟩ = some (.string cn) := by rw [Lib.cell_of_heap hh0]; rfl
  have f0_1 : w2.frozen? ⟨w.heap.size, 1, none⟩ = false := Lib.frozen_of_heap hh0 1
  have c0_2 : w2.cell? ⟨w.heap.size, 2, none⟩ = some (.string ct) := by rw [Lib.cell_of_heap hh0]; rfl
  have f0_2 : w2.frozen? ⟨w.heap.size, 2, none⟩ = false := Lib.frozen_of_heap hh0 2
  have c0_3 : w2.cell? ⟨w.heap.size, 3, none⟩ = some (.int .i64 ci) := by rw [Lib.cell_of_heap hh0]; rfl
  have f0_3 : w2.frozen? ⟨w.heap.size, 3, none⟩ = false := Lib.frozen_of_heap hh0 3
  have c0_4 : w2.cell? ⟨w.heap.size, 4, none⟩ = some (.int .i64 cm) := by rw [Lib.cell_of_heap hh0]; rfl
  have f0_4 : w2.frozen? ⟨w.heap.size, 4, none⟩ = false := Lib.frozen_of_heap hh0 4
  clear hh0
  have HH1_2 := Lib.hid hh1
  have lt1 := heap_lt hh1
  have c1_0 : w2.cell? ⟨w.heap.size + 1, 0, none⟩ = some (.int .u8 0) := by rw [Lib.cell_of_heap hh1]; rfl
  have f1_0 : w2.frozen? ⟨w.heap.size + 1, 0, none⟩ = false := Lib.frozen_of_heap hh1 0
  have c1_1 : w2.cell? ⟨w.heap.size + 1, 1, none⟩ = some (.string ⟨#[]⟩) := by rw [Lib.cell_of_heap hh1]; rfl
  have f1_1 : w2.frozen? ⟨w.heap.size + 1, 1, none⟩ = false := Lib.frozen_of_heap hh1 1
  have c1_2 : w2.cell? ⟨w.heap.size + 1, 2, none⟩ = some (.string ⟨#[]⟩) := by rw [Lib.cell_of_heap hh1]; rfl
  have f1_2 : w2.frozen? ⟨w.heap.size + 1, 2, none⟩ = false := Lib.frozen_of_heap hh1 2
  have c1_3 : w2.cell? ⟨w.heap.size + 1, 3, none⟩ = some (.int .i64 0) := by rw [Lib.cell_of_heap hh1]; rfl
  have f1_3 : w2.frozen? ⟨w.heap.size + 1, 3, none⟩ = false := Lib.frozen_of_heap hh1 3
  have c1_4 : w2.cell? ⟨w.heap.size + 1, 4, none⟩ = some (.int .i64 0) := by rw [Lib.cell_of_heap hh1]; rfl
  have f1_4 : w2.frozen? ⟨w.heap.size + 1, 4, none⟩ = false := Lib.frozen_of_heap hh1 4
  clear hh1
  have HH2_2 := Lib.hid hh2
  have lt2 := heap_lt hh2
  have c2_0 : w2.cell? ⟨w1.heap.size, 0, none⟩ = some (.func (.func g) #[] cap) := by rw [Lib.cell_of_heap hh2]; rfl
  have c2_1 : w2.cell? ⟨w1.heap.size, 1, none⟩ = some (c) := by rw [Lib.cell_of_heap hh2]; rfl
  have c2_2 : w2.cell? ⟨w1.heap.size, 2, none⟩ = some (a) := by rw [Lib.cell_of_heap hh2]; rfl
  have c2_3 : w2.cell? ⟨w1.heap.size, 3, none⟩ = some (.bool l) := by rw [Lib.cell_of_heap hh2]; rfl
  clear hh2
  have sz2 := hbw2.size
  have HW2 := Lib.hid hbw2
  clear hsn hsf hsc hsa
  go_upto_region 5 with fail
  obtain ⟨w3, hw3⟩ : ∃ X : World, X = ((((((((((w2).setCell ⟨w.heap.size, 0, none⟩ (.int .u8 rk))).setCell ⟨w.heap.size, 1, none⟩ (.string rn))).setCell ⟨w.heap.size, 2, none⟩ (.string rt))).setCell ⟨w.heap.size, 3, none⟩ (.int .i64 ri))).setCell ⟨w.heap.size, 4, none⟩ (.int .i64 rm)) := ⟨_, rfl⟩
  rw [← hw3]
  have hh0 : w3.heap[w.heap.size]? = some (.cells #[.int .u8 rk, .string rn, .string rt, .int .i64 ri, .int .i64 rm] 23 (0, 0)) := by rw [hw3]; exact pset (i := 4) (pset (i := 3) (pset (i := 2) (pset (i := 1) (pset (i := 0) (HH0_2.out) (.int .u8 rk) rfl) (.string rn) rfl) (.string rt) rfl) (.int .i64 ri) rfl) (.int .i64 rm) rfl
  have hh1 : w3.heap[w.heap.size + 1]? = some (.cells #[.int .u8 0, .string ⟨#[]⟩, .string ⟨#[]⟩, .int .i64 0, .int .i64 0] 23 (0, 0)) := by rw [hw3]; exact pother (b' := w.heap.size) (i := 4) (pother (b' := w.heap.size) (i := 3) (pother (b' := w.heap.size) (i := 2) (pother (b' := w.heap.size) (i := 1) (pother (b' := w.heap.size) (i := 0) (HH1_2.out) (.int .u8 rk) (by omega)) (.string rn) (by omega)) (.string rt) (by omega)) (.int .i64 ri) (by omega)) (.int .i64 rm) (by omega)
  have hbw3 : Below w.heap.size w w3 := by rw [hw3]; exact ((((((((((HW2.out).setCell (p := ⟨w.heap.size, 0, none⟩) (by first | exact Nat.le_refl _ | omega | (dsimp only; omega)) _)).setCell (p := ⟨w.heap.size, 1, none⟩) (by first | exact Nat.le_refl _ | omega | (dsimp only; omega)) _)).setCell (p := ⟨w.heap.size, 2, none⟩) (by first | exact Nat.le_refl _ | omega | (dsimp only; omega)) _)).setCell (p := ⟨w.heap.size, 3, none⟩) (by first | exact Nat.le_refl _ | omega | (dsimp only; omega)) _)).setCell (p := ⟨w.heap.size, 4, none⟩) (by first | exact Nat.le_refl _ | omega | (dsimp only; omega)) _)
  clear hw3 lt0 c0_0 f0_0 c0_1 f0_1 c0_2 f0_2 c0_3 f0_3 c0_4 f0_4 lt1 c1_0 f1_0 c1_1 f1_1 c1_2 f1_2 c1_3 f1_3 c1_4 f1_4 lt2 c2_0 c2_1 c2_2 c2_3 hbw2
  have HH0_3 := Lib.hid hh0
  have lt0 := heap_lt hh0
  have c0_0 : w3.cell? ⟨w.heap.size, 0, none⟩ = some (.int .u8 rk) := by rw [Lib.cell_of_heap hh0]; rfl
  have f0_0 : w3.frozen? ⟨w.heap.size, 0, none⟩ = false := Lib.frozen_of_heap hh0 0
  have c0_1 : w3.cell? ⟨w.heap.size, 1, none⟩ = some (.string rn) := by rw [Lib.cell_of_heap hh0]; rfl
  have f0_1 : w3.frozen? ⟨w.heap.size, 1, none⟩ = false := Lib.frozen_of_heap hh0 1
  have c0_2 : w3.cell? ⟨w.heap.size, 2, none⟩ = some (.string rt) := by rw [Lib.cell_of_heap hh0]; rfl
  have f0_2 : w3.frozen? ⟨w.heap.size, 2, none⟩ = false := Lib.frozen_of_heap hh0 2
  have c0_3 : w3.cell? ⟨w.heap.size, 3, none⟩ = some (.int .i64 ri) := by rw [Lib.cell_of_heap hh0]; rfl
  have f0_3 : w3.frozen? ⟨w.heap.size, 3, none⟩ = false := Lib.frozen_of_heap hh0 3
  have c0_4 : w3.cell? ⟨w.heap.size, 4, none⟩ = some (.int .i64 rm) := by rw [Lib.cell_of_heap hh0]; rfl
  have f0_4 : w3.frozen? ⟨w.heap.size, 4, none⟩ = false := Lib.frozen_of_heap hh0 4
  clear hh0
  have HH1_3 := Lib.hid hh1
  have lt1 := heap_lt hh1
  have c1_0 : w3.cell? ⟨w.heap.size + 1, 0, none⟩ = some (.int .u8 0) := by rw [Lib.cell_of_heap hh1]; rfl
  have f1_0 : w3.frozen? ⟨w.heap.size + 1, 0, none⟩ = false := Lib.frozen_of_heap hh1 0
  have c1_1 : w3.cell? ⟨w.heap.size + 1, 1, none⟩ = some (.string ⟨#[]⟩) := by rw [Lib.cell_of_heap hh1]; rfl
  have f1_1 : w3.frozen? ⟨w.heap.size + 1, 1, none⟩ = false := Lib.frozen_of_heap hh1 1
  have c1_2 : w3.cell? ⟨w.heap.size + 1, 2, none⟩ = some (.string ⟨#[]⟩) := by rw [Lib.cell_of_heap hh1]; rfl
  have f1_2 : w3.frozen? ⟨w.heap.size + 1, 2, none⟩ = false := Lib.frozen_of_heap hh1 2
  have c1_3 : w3.cell? ⟨w.heap.size + 1, 3, none⟩ = some (.int .i64 0) := by rw [Lib.cell_of_heap hh1]; rfl
  have f1_3 : w3.frozen? ⟨w.heap.size + 1, 3, none⟩ = false := Lib.frozen_of_heap hh1 3
  have c1_4 : w3.cell? ⟨w.heap.size + 1, 4, none⟩ = some (.int .i64 0) := by rw [Lib.cell_of_heap hh1]; rfl
  have f1_4 : w3.frozen? ⟨w.heap.size + 1, 4, none⟩ = false := Lib.frozen_of_heap hh1 4
  clear hh1
  have sz3 := hbw3.size
  have HW3 := Lib.hid hbw3
  go_wp2_with fail
  refine bodyPost_ret (v := .tuple #[.agg #[.int .u8 rk, .string rn, .string rt, .int .i64 ri, .int .i64 rm], .int .i64 0]) (by simp [results, Tryz.results8, go_sem, c1_0, f1_0, c1_1, f1_1, c1_2, f1_2, c1_3, f1_3, c1_4, f1_4]; try rfl) rfl ?_
  refine ⟨rfl, ?_⟩
  repeat' (first | with_reducible exact HW3.out | with_reducible refine Below.setCell ?_ ?_ _ | with_reducible refine Below.alloc ?_ ?_ _)
  all_goals (first | exact Nat.le_refl _ | (dsimp only; omega) | omega | (simp; done) | (simp; omega))
set_option maxRecDepth 100000 in
set_option maxHeartbeats 4000000 in
theorem sread_no (k : Int) (ck : Int) (cn ct : ByteArray) (ci cm : Int) (rk : Int) (rn rt : ByteArray) (ri rm : Int) (w : World)
    (HO : Hid (∀ W, Below w.heap.size w W → Calls Tryz.prog 15 #[.int .u8 k] W fun e w' => (∃ g cap c a l, e = .returned (.tuple #[.agg #[.func (.func g) #[] cap, c, a, .bool l], .int .i64 0]) ∧ Hid (c.oneCell' = true ∧ a.oneCell' = true) ∧ Hid (DoesU w' 16 #[.agg #[.func (.func g) #[] cap, c, a, .bool l], .agg #[.int .u8 ck, .string cn, .string ct, .int .i64 ci, .int .i64 cm]] (.tuple #[.agg #[.int .u8 rk, .string rn, .string rt, .int .i64 ri, .int .i64 rm], .bool false]))) ∧ Below W.heap.size W w')) :
    Calls Tryz.prog 8 #[.int .u8 k, .agg #[.int .u8 ck, .string cn, .string ct, .int .i64 ci, .int .i64 cm]] w fun e w' => e = .returned (.tuple #[.agg #[.int .u8 0, .string ⟨#[]⟩, .string ⟨#[]⟩, .int .i64 0, .int .i64 0], .int .i64 160]) ∧ Below w.heap.size w w' := by
  go_enter Tryz.func8, Tryz.ntmps8
  go_wp2_with fail
  refine (HO.out _ (by first | exact Below.refl _ _ | (go_grown; done))).mono ?_; rintro e w1 ⟨⟨g, cap, c, a, l, rfl, HC, HQ⟩, hb⟩
  have hh0 : w1.heap[w.heap.size]? = some (.cells #[.int .u8 ck, .string cn, .string ct, .int .i64 ci, .int .i64 cm] 23 (0, 0)) := (hb.block _ (by first | omega | (simp; done) | (simp; omega))).trans (heap_old (o' := (.cells #[.int .u8 0, .string ⟨#[]⟩, .string ⟨#[]⟩, .int .i64 0, .int .i64 0] 23 (0, 0))) (heap_new _ _ _ (by first | rfl | simp)))
  have hh1 : w1.heap[w.heap.size + 1]? = some (.cells #[.int .u8 0, .string ⟨#[]⟩, .string ⟨#[]⟩, .int .i64 0, .int .i64 0] 23 (0, 0)) := (hb.block _ (by first | omega | (simp; done) | (simp; omega))).trans (heap_new _ _ _ (by first | rfl | simp))
  have hbw1 : Below w.heap.size w w1 := (show Below w.heap.size w _ by first | exact Below.refl _ _ | (go_grown; done)).trans (hb.mono (by first | omega | (simp; done) | (simp; omega)))
  clear hb
  have HH0_1 := Lib.hid hh0
  have lt0 := heap_lt hh0
  have c0_0 : w1.cell? ⟨w.heap.size, 0, none⟩ = some (.int .u8 ck) := by rw [Lib.cell_of_heap hh0]; rfl
  have f0_0 : w1.frozen? ⟨w.heap.size, 0, none⟩ = false := Lib.frozen_of_heap hh0 0
  have c0_1 : w1.cell? ⟨w.heap.size, 1, none⟩ = some (.string cn) := by rw [Lib.cell_of_heap hh0]; rfl
  have f0_1 : w1.frozen? ⟨w.heap.size, 1, none⟩ = false := Lib.frozen_of_heap hh0 1
  have c0_2 : w1.cell? ⟨w.heap.size, 2, none⟩ = some (.string ct) := by rw [Lib.cell_of_heap hh0]; rfl
  have f0_2 : w1.frozen? ⟨w.heap.size, 2, none⟩ = false := Lib.frozen_of_heap hh0 2
  have c0_3 : w1.cell? ⟨w.heap.size, 3, none⟩ = some (.int .i64 ci) := by rw [Lib.cell_of_heap hh0]; rfl
  have f0_3 : w1.frozen? ⟨w.heap.size, 3, none⟩ = false := Lib.frozen_of_heap hh0 3
  have c0_4 : w1.cell? ⟨w.heap.size, 4, none⟩ = some (.int .i64 cm) := by rw [Lib.cell_of_heap hh0]; rfl
  have f0_4 : w1.frozen? ⟨w.heap.size, 4, none⟩ = false := Lib.frozen_of_heap hh0 4
  clear hh0
  have HH1_1 := Lib.hid hh1
  have lt1 := heap_lt hh1
  have c1_0 : w1.cell? ⟨w.heap.size + 1, 0, none⟩ = some (.int .u8 0) := by rw [Lib.cell_of_heap hh1]; rfl
  have f1_0 : w1.frozen? ⟨w.heap.size + 1, 0, none⟩ = false := Lib.frozen_of_heap hh1 0
  have c1_1 : w1.cell? ⟨w.heap.size + 1, 1, none⟩ = some (.string ⟨#[]⟩) := by rw [Lib.cell_of_heap hh1]; rfl
  have f1_1 : w1.frozen? ⟨w.heap.size + 1, 1, none⟩ = false := Lib.frozen_of_heap hh1 1
  have c1_2 : w1.cell? ⟨w.heap.size + 1, 2, none⟩ = some (.string ⟨#[]⟩) := by rw [Lib.cell_of_heap hh1]; rfl
  have f1_2 : w1.frozen? ⟨w.heap.size + 1, 2, none⟩ = false := Lib.frozen_of_heap hh1 2
  have c1_3 : w1.cell? ⟨w.heap.size + 1, 3, none⟩ = some (.int .i64 0) := by rw [Lib.cell_of_heap hh1]; rfl
  have f1_3 : w1.frozen? ⟨w.heap.size + 1, 3, none⟩ = false := Lib.frozen_of_heap hh1 3
  have c1_4 : w1.cell? ⟨w.heap.size + 1, 4, none⟩ = some (.int .i64 0) := by rw [Lib.cell_of_heap hh1]; rfl
  have f1_4 : w1.frozen? ⟨w.heap.size + 1, 4, none⟩ = false := Lib.frozen_of_heap hh1 4
  clear hh1
  have sz1 := hbw1.size
  have HW1 := Lib.hid hbw1
  have hsn := fun W a x hc hz => st_one Tryz.prog .nilFunc rfl W a x hc hz
  have hsf := fun W b x hc hz => st_one Tryz.prog (.func (.func g) #[] cap) rfl W b x hc hz
  have hsc := fun W b x hc hz => st_one Tryz.prog c HC.out.1 W b x hc hz
  have hsa := fun W b x hc hz => st_one Tryz.prog a HC.out.2 W b x hc hz
  go_wp2_with fail
  refine (HQ.out _ (by first | exact Below.refl _ _ | exact hq1 | (go_grown; done))).mono ?_; rintro e w2 ⟨rfl, hb⟩
  have hv0 := heap_old (o' := (.cells #[.func (.func g) #[] cap, c, a, .bool l] 41 (0, 0))) (HH0_1.out)
  have hh0 : w2.heap[w.heap.size]? = some (.cells #[.int .u8 ck, .string cn, .string ct, .int .i64 ci, .int .i64 cm] 23 (0, 0)) := (hb.block _ (heap_lt hv0)).trans hv0
  clear hv0
  have hv1 := heap_old (o' := (.cells #[.func (.func g) #[] cap, c, a, .bool l] 41 (0, 0))) (HH1_1.out)
  have hh1 : w2.heap[w.heap.size + 1]? = some (.cells #[.int .u8 0, .string ⟨#[]⟩, .string ⟨#[]⟩, .int .i64 0, .int .i64 0] 23 (0, 0)) := (hb.block _ (heap_lt hv1)).trans hv1
  clear hv1
  have hh2 : w2.heap[w1.heap.size]? = some (.cells #[.func (.func g) #[] cap, c, a, .bool l] 41 (0, 0)) := (hb.block _ (by first | omega | (simp; done) | (simp; omega))).trans (heap_new _ _ _ (by first | rfl | simp))
  have hbw2 : Below w.heap.size w w2 := (show Below w.heap.size w _ by first | exact HW1.out.trans ⟨rfl, rfl, rfl, Nat.le_refl _, fun _ _ => rfl⟩ | exact HW1.out | (go_grown; done)).trans (hb.mono (by first | omega | (simp; done) | (simp; omega)))
  clear hb lt0 c0_0 f0_0 c0_1 f0_1 c0_2 f0_2 c0_3 f0_3 c0_4 f0_4 lt1 c1_0 f1_0 c1_1 f1_1 c1_2 f1_2 c1_3 f1_3 c1_4 f1_4 hbw1
  have HH0_2 := Lib.hid hh0
  have lt0 := heap_lt hh0
  have c0_0 : w2.cell? ⟨w.heap.size, 0, none⟩ = some (.int .u8 ck) := by rw [Lib.cell_of_heap hh0]; rfl
  have f0_0 : w2.frozen? ⟨w.heap.size, 0, none⟩ = false := Lib.frozen_of_heap hh0 0
  have c0_1 : w2.cell? ⟨w.heap.size, 1, none⟩ = some (.string cn) := by rw [Lib.cell_of_heap hh0]; rfl
  have f0_1 : w2.frozen? ⟨w.heap.size, 1, none⟩ = false := Lib.frozen_of_heap hh0 1
  have c0_2 : w2.cell? ⟨w.heap.size, 2, none⟩ = some (.string ct) := by rw [Lib.cell_of_heap hh0]; rfl
  have f0_2 : w2.frozen? ⟨w.heap.size, 2, none⟩ = false := Lib.frozen_of_heap hh0 2
  have c0_3 : w2.cell? ⟨w.heap.size, 3, none⟩ = some (.int .i64 ci) := by rw [Lib.cell_of_heap hh0]; rfl
  have f0_3 : w2.frozen? ⟨w.heap.size, 3, none⟩ = false := Lib.frozen_of_heap hh0 3
  have c0_4 : w2.cell? ⟨w.heap.size, 4, none⟩ = some (.int .i64 cm) := by rw [Lib.cell_of_heap hh0]; rfl
  have f0_4 : w2.frozen? ⟨w.heap.size, 4, none⟩ = false := Lib.frozen_of_heap hh0 4
  clear hh0
  have HH1_2 := Lib.hid hh1
  have lt1 := heap_lt hh1
  have c1_0 : w2.cell? ⟨w.heap.size + 1, 0, none⟩ = some (.int .u8 0) := by rw [Lib.cell_of_heap hh1]; rfl
  have f1_0 : w2.frozen? ⟨w.heap.size + 1, 0, none⟩ = false := Lib.frozen_of_heap hh1 0
  have c1_1 : w2.cell? ⟨w.heap.size + 1, 1, none⟩ = some (.string ⟨#[]⟩) := by rw [Lib.cell_of_heap hh1]; rfl
  have f1_1 : w2.frozen? ⟨w.heap.size + 1, 1, none⟩ = false := Lib.frozen_of_heap hh1 1
  have c1_2 : w2.cell? ⟨w.heap.size + 1, 2, none⟩ = some (.string ⟨#[]⟩) := by rw [Lib.cell_of_heap hh1]; rfl
  have f1_2 : w2.frozen? ⟨w.heap.size + 1, 2, none⟩ = false := Lib.frozen_of_heap hh1 2
  have c1_3 : w2.cell? ⟨w.heap.size + 1, 3, none⟩ = some (.int .i64 0) := by rw [Lib.cell_of_heap hh1]; rfl
  have f1_3 : w2.frozen? ⟨w.heap.size + 1, 3, none⟩ = false := Lib.frozen_of_heap hh1 3
  have c1_4 : w2.cell? ⟨w.heap.size + 1, 4, none⟩ = some (.int .i64 0) := by rw [Lib.cell_of_heap hh1]; rfl
  have f1_4 : w2.frozen? ⟨w.heap.size + 1, 4, none⟩ = false := Lib.frozen_of_heap hh1 4
  clear hh1
  have HH2_2 := Lib.hid hh2
  have lt2 := heap_lt hh2
  have c2_0 : w2.cell? ⟨w1.heap.size, 0, none⟩ = some (.func (.func g) #[] cap) := by rw [Lib.cell_of_heap hh2]; rfl
  have c2_1 : w2.cell? ⟨w1.heap.size, 1, none⟩ = some (c) := by rw [Lib.cell_of_heap hh2]; rfl
  have c2_2 : w2.cell? ⟨w1.heap.size, 2, none⟩ = some (a) := by rw [Lib.cell_of_heap hh2]; rfl
  have c2_3 : w2.cell? ⟨w1.heap.size, 3, none⟩ = some (.bool l) := by rw [Lib.cell_of_heap hh2]; rfl
  clear hh2
  have sz2 := hbw2.size
  have HW2 := Lib.hid hbw2
  clear hsn hsf hsc hsa
  go_upto_region 5 with fail
  obtain ⟨w3, hw3⟩ : ∃ X : World, X = ((((((((((w2).setCell ⟨w.heap.size, 0, none⟩ (.int .u8 rk))).setCell ⟨w.heap.size, 1, none⟩ (.string rn))).setCell ⟨w.heap.size, 2, none⟩ (.string rt))).setCell ⟨w.heap.size, 3, none⟩ (.int .i64 ri))).setCell ⟨w.heap.size, 4, none⟩ (.int .i64 rm)) := ⟨_, rfl⟩
  rw [← hw3]
  have hh0 : w3.heap[w.heap.size]? = some (.cells #[.int .u8 rk, .string rn, .string rt, .int .i64 ri, .int .i64 rm] 23 (0, 0)) := by rw [hw3]; exact pset (i := 4) (pset (i := 3) (pset (i := 2) (pset (i := 1) (pset (i := 0) (HH0_2.out) (.int .u8 rk) rfl) (.string rn) rfl) (.string rt) rfl) (.int .i64 ri) rfl) (.int .i64 rm) rfl
  have hh1 : w3.heap[w.heap.size + 1]? = some (.cells #[.int .u8 0, .string ⟨#[]⟩, .string ⟨#[]⟩, .int .i64 0, .int .i64 0] 23 (0, 0)) := by rw [hw3]; exact pother (b' := w.heap.size) (i := 4) (pother (b' := w.heap.size) (i := 3) (pother (b' := w.heap.size) (i := 2) (pother (b' := w.heap.size) (i := 1) (pother (b' := w.heap.size) (i := 0) (HH1_2.out) (.int .u8 rk) (by omega)) (.string rn) (by omega)) (.string rt) (by omega)) (.int .i64 ri) (by omega)) (.int .i64 rm) (by omega)
  have hbw3 : Below w.heap.size w w3 := by rw [hw3]; exact ((((((((((HW2.out).setCell (p := ⟨w.heap.size, 0, none⟩) (by first | exact Nat.le_refl _ | omega | (dsimp only; omega)) _)).setCell (p := ⟨w.heap.size, 1, none⟩) (by first | exact Nat.le_refl _ | omega | (dsimp only; omega)) _)).setCell (p := ⟨w.heap.size, 2, none⟩) (by first | exact Nat.le_refl _ | omega | (dsimp only; omega)) _)).setCell (p := ⟨w.heap.size, 3, none⟩) (by first | exact Nat.le_refl _ | omega | (dsimp only; omega)) _)).setCell (p := ⟨w.heap.size, 4, none⟩) (by first | exact Nat.le_refl _ | omega | (dsimp only; omega)) _)
  clear hw3 lt0 c0_0 f0_0 c0_1 f0_1 c0_2 f0_2 c0_3 f0_3 c0_4 f0_4 lt1 c1_0 f1_0 c1_1 f1_1 c1_2 f1_2 c1_3 f1_3 c1_4 f1_4 lt2 c2_0 c2_1 c2_2 c2_3 hbw2
  have HH0_3 := Lib.hid hh0
  have lt0 := heap_lt hh0
  have c0_0 : w3.cell? ⟨w.heap.size, 0, none⟩ = some (.int .u8 rk) := by rw [Lib.cell_of_heap hh0]; rfl
  have f0_0 : w3.frozen? ⟨w.heap.size, 0, none⟩ = false := Lib.frozen_of_heap hh0 0
  have c0_1 : w3.cell? ⟨w.heap.size, 1, none⟩ = some (.string rn) := by rw [Lib.cell_of_heap hh0]; rfl
  have f0_1 : w3.frozen? ⟨w.heap.size, 1, none⟩ = false := Lib.frozen_of_heap hh0 1
  have c0_2 : w3.cell? ⟨w.heap.size, 2, none⟩ = some (.string rt) := by rw [Lib.cell_of_heap hh0]; rfl
  have f0_2 : w3.frozen? ⟨w.heap.size, 2, none⟩ = false := Lib.frozen_of_heap hh0 2
  have c0_3 : w3.cell? ⟨w.heap.size, 3, none⟩ = some (.int .i64 ri) := by rw [Lib.cell_of_heap hh0]; rfl
  have f0_3 : w3.frozen? ⟨w.heap.size, 3, none⟩ = false := Lib.frozen_of_heap hh0 3
  have c0_4 : w3.cell? ⟨w.heap.size, 4, none⟩ = some (.int .i64 rm) := by rw [Lib.cell_of_heap hh0]; rfl
  have f0_4 : w3.frozen? ⟨w.heap.size, 4, none⟩ = false := Lib.frozen_of_heap hh0 4
  clear hh0
  have HH1_3 := Lib.hid hh1
  have lt1 := heap_lt hh1
  have c1_0 : w3.cell? ⟨w.heap.size + 1, 0, none⟩ = some (.int .u8 0) := by rw [Lib.cell_of_heap hh1]; rfl
  have f1_0 : w3.frozen? ⟨w.heap.size + 1, 0, none⟩ = false := Lib.frozen_of_heap hh1 0
  have c1_1 : w3.cell? ⟨w.heap.size + 1, 1, none⟩ = some (.string ⟨#[]⟩) := by rw [Lib.cell_of_heap hh1]; rfl
  have f1_1 : w3.frozen? ⟨w.heap.size + 1, 1, none⟩ = false := Lib.frozen_of_heap hh1 1
  have c1_2 : w3.cell? ⟨w.heap.size + 1, 2, none⟩ = some (.string ⟨#[]⟩) := by rw [Lib.cell_of_heap hh1]; rfl
  have f1_2 : w3.frozen? ⟨w.heap.size + 1, 2, none⟩ = false := Lib.frozen_of_heap hh1 2
  have c1_3 : w3.cell? ⟨w.heap.size + 1, 3, none⟩ = some (.int .i64 0) := by rw [Lib.cell_of_heap hh1]; rfl
  have f1_3 : w3.frozen? ⟨w.heap.size + 1, 3, none⟩ = false := Lib.frozen_of_heap hh1 3
  have c1_4 : w3.cell? ⟨w.heap.size + 1, 4, none⟩ = some (.int .i64 0) := by rw [Lib.cell_of_heap hh1]; rfl
  have f1_4 : w3.frozen? ⟨w.heap.size + 1, 4, none⟩ = false := Lib.frozen_of_heap hh1 4
  clear hh1
  have sz3 := hbw3.size
  have HW3 := Lib.hid hbw3
  go_wp2_with fail
  refine bodyPost_ret (v := .tuple #[.agg #[.int .u8 0, .string ⟨#[]⟩, .string ⟨#[]⟩, .int .i64 0, .int .i64 0], .int .i64 160]) (by simp [results, Tryz.results8, go_sem, c1_0, f1_0, c1_1, f1_1, c1_2, f1_2, c1_3, f1_3, c1_4, f1_4]; try rfl) rfl ?_
  refine ⟨rfl, ?_⟩
  repeat' (first | with_reducible exact HW3.out | with_reducible refine Below.setCell ?_ ?_ _ | with_reducible refine Below.alloc ?_ ?_ _)
  all_goals (first | exact Nat.le_refl _ | (dsimp only; omega) | omega | (simp; done) | (simp; omega))
set_option maxRecDepth 100000 in
set_option maxHeartbeats 4000000 in
theorem sread_arg (k : Int) (ck : Int) (cn ct : ByteArray) (ci cm : Int) (w : World)
    (HO : Hid (DoesU w 15 #[.int .u8 k] (.tuple #[.agg #[.nilFunc, .nilFunc, .nilFunc, .bool false], .int .i64 2]))) :
    Calls Tryz.prog 8 #[.int .u8 k, .agg #[.int .u8 ck, .string cn, .string ct, .int .i64 ci, .int .i64 cm]] w fun e w' => e = .returned (.tuple #[.agg #[.int .u8 0, .string ⟨#[]⟩, .string ⟨#[]⟩, .int .i64 0, .int .i64 0], .int .i64 2]) ∧ Below w.heap.size w w' := by
  go_enter Tryz.func8, Tryz.ntmps8
  go_wp2_with fail
  refine (HO.out _ (by first | exact Below.refl _ _ | (go_grown; done))).mono ?_; rintro e w1 ⟨rfl, hb⟩
  have hh0 : w1.heap[w.heap.size]? = some (.cells #[.int .u8 ck, .string cn, .string ct, .int .i64 ci, .int .i64 cm] 23 (0, 0)) := (hb.block _ (by first | omega | (simp; done) | (simp; omega))).trans (heap_old (o' := (.cells #[.int .u8 0, .string ⟨#[]⟩, .string ⟨#[]⟩, .int .i64 0, .int .i64 0] 23 (0, 0))) (heap_new _ _ _ (by first | rfl | simp)))
  have hh1 : w1.heap[w.heap.size + 1]? = some (.cells #[.int .u8 0, .string ⟨#[]⟩, .string ⟨#[]⟩, .int .i64 0, .int .i64 0] 23 (0, 0)) := (hb.block _ (by first | omega | (simp; done) | (simp; omega))).trans (heap_new _ _ _ (by first | rfl | simp))
  have hbw1 : Below w.heap.size w w1 := (show Below w.heap.size w _ by first | exact Below.refl _ _ | (go_grown; done)).trans (hb.mono (by first | omega | (simp; done) | (simp; omega)))
  clear hb
  have HH0_1 := Lib.hid hh0
  have lt0 := heap_lt hh0
  have c0_0 : w1.cell? ⟨w.heap.size, 0, none⟩ = some (.int .u8 ck) := by rw [Lib.cell_of_heap hh0]; rfl
  have f0_0 : w1.frozen? ⟨w.heap.size, 0, none⟩ = false := Lib.frozen_of_heap hh0 0
  have c0_1 : w1.cell? ⟨w.heap.size, 1, none⟩ = some (.string cn) := by rw [Lib.cell_of_heap hh0]; rfl
  have f0_1 : w1.frozen? ⟨w.heap.size, 1, none⟩ = false := Lib.frozen_of_heap hh0 1
  have c0_2 : w1.cell? ⟨w.heap.size, 2, none⟩ = some (.string ct) := by rw [Lib.cell_of_heap hh0]; rfl
  have f0_2 : w1.frozen? ⟨w.heap.size, 2, none⟩ = false := Lib.frozen_of_heap hh0 2
  have c0_3 : w1.cell? ⟨w.heap.size, 3, none⟩ = some (.int .i64 ci) := by rw [Lib.cell_of_heap hh0]; rfl
  have f0_3 : w1.frozen? ⟨w.heap.size, 3, none⟩ = false := Lib.frozen_of_heap hh0 3
  have c0_4 : w1.cell? ⟨w.heap.size, 4, none⟩ = some (.int .i64 cm) := by rw [Lib.cell_of_heap hh0]; rfl
  have f0_4 : w1.frozen? ⟨w.heap.size, 4, none⟩ = false := Lib.frozen_of_heap hh0 4
  clear hh0
  have HH1_1 := Lib.hid hh1
  have lt1 := heap_lt hh1
  have c1_0 : w1.cell? ⟨w.heap.size + 1, 0, none⟩ = some (.int .u8 0) := by rw [Lib.cell_of_heap hh1]; rfl
  have f1_0 : w1.frozen? ⟨w.heap.size + 1, 0, none⟩ = false := Lib.frozen_of_heap hh1 0
  have c1_1 : w1.cell? ⟨w.heap.size + 1, 1, none⟩ = some (.string ⟨#[]⟩) := by rw [Lib.cell_of_heap hh1]; rfl
  have f1_1 : w1.frozen? ⟨w.heap.size + 1, 1, none⟩ = false := Lib.frozen_of_heap hh1 1
  have c1_2 : w1.cell? ⟨w.heap.size + 1, 2, none⟩ = some (.string ⟨#[]⟩) := by rw [Lib.cell_of_heap hh1]; rfl
  have f1_2 : w1.frozen? ⟨w.heap.size + 1, 2, none⟩ = false := Lib.frozen_of_heap hh1 2
  have c1_3 : w1.cell? ⟨w.heap.size + 1, 3, none⟩ = some (.int .i64 0) := by rw [Lib.cell_of_heap hh1]; rfl
  have f1_3 : w1.frozen? ⟨w.heap.size + 1, 3, none⟩ = false := Lib.frozen_of_heap hh1 3
  have c1_4 : w1.cell? ⟨w.heap.size + 1, 4, none⟩ = some (.int .i64 0) := by rw [Lib.cell_of_heap hh1]; rfl
  have f1_4 : w1.frozen? ⟨w.heap.size + 1, 4, none⟩ = false := Lib.frozen_of_heap hh1 4
  clear hh1
  have sz1 := hbw1.size
  have HW1 := Lib.hid hbw1
  have hsn := fun W a x hc hz => st_one Tryz.prog .nilFunc rfl W a x hc hz
  go_wp2_with fail
  refine bodyPost_ret (v := .tuple #[.agg #[.int .u8 0, .string ⟨#[]⟩, .string ⟨#[]⟩, .int .i64 0, .int .i64 0], .int .i64 2]) (by simp [results, Tryz.results8, go_sem, lt1, c1_0, f1_0, c1_1, f1_1, c1_2, f1_2, c1_3, f1_3, c1_4, f1_4]; try rfl) rfl ?_
  refine ⟨rfl, ?_⟩
  repeat' (first | with_reducible exact HW1.out | with_reducible refine Below.setCell ?_ ?_ _ | with_reducible refine Below.alloc ?_ ?_ _)
  all_goals (first | exact Nat.le_refl _ | (dsimp only; omega) | omega | (simp; done) | (simp; omega))
end Go.Proofs.YtjhgiojmlkeccaaGreatDoor
namespace Go.Proofs.YtjhgiojmlkeccaaGreatDoor
open Go.RowKit
set_option maxHeartbeats 400000 in
theorem limit_any (s n : Int) (h : s = 0 ∨ s = 1) (w : World) :
    Calls Tryz.prog 174 #[.agg #[.int .i64 s, .int .u64 n]] w fun e w' => e = .returned (.int .u64 (9223372036854775807 + s)) ∧ Below w.heap.size w w' := by
  have hi0 : ∀ w, (Instr.index 252 (Value.agg #[Value.int IntKind.u64 9223372036854775807, Value.int IntKind.u64 9223372036854775808]) (Value.int IntKind.i64 0)).run Tryz.prog w = .ok (.int .u64 9223372036854775807) w := fun _ => by kernel_rfl
  have hi1 : ∀ w, (Instr.index 252 (Value.agg #[Value.int IntKind.u64 9223372036854775807, Value.int IntKind.u64 9223372036854775808]) (Value.int IntKind.i64 1)).run Tryz.prog w = .ok (.int .u64 9223372036854775808) w := fun _ => by kernel_rfl
  rcases h with rfl | rfl
  all_goals
    go_enter Tryz.func174, Tryz.ntmps174
    go_wp2
    go_ret
    exact ⟨rfl, (Below.refl _ _).alloc (Nat.le_refl _) _⟩
/-- The cells of a block just made, behind a call that only makes blocks. -/
theorem keep2 {w W w1 : World} {b : Nat} {x y : Value} (h : W.cell? ⟨b, 0, none⟩ = some x ∧ W.cell? ⟨b, 1, none⟩ = some y ∧ b < W.heap.size ∧ Below w.heap.size w W) (hb : Below W.heap.size W w1) (hw : w.heap.size ≤ W.heap.size) :
    w1.cell? ⟨b, 0, none⟩ = some x ∧ w1.cell? ⟨b, 1, none⟩ = some y ∧ b < w1.heap.size ∧ Below w.heap.size w w1 := by
  obtain ⟨h0, h1, h2, h3⟩ := h
  exact ⟨(hb.cell (p := ⟨b, 0, none⟩) h2).trans h0, (hb.cell (p := ⟨b, 1, none⟩) h2).trans h1, Nat.lt_of_lt_of_le h2 hb.size, h3.trans (hb.mono hw)⟩
set_option maxRecDepth 100000 in
set_option maxHeartbeats 1000000 in
theorem number_0 (n : Int) (h0 : 0 ≤ n) (h1 : n ≤ 18446744073709551615) (w : World) :
    Calls Tryz.prog 132 #[.agg #[.int .i64 0, .int .u64 n]] w fun e w' => e = .returned (.tuple #[.int .i64 (val n), .int .i64 (err n)]) ∧ Below w.heap.size w w' := by
  have L := Lib.hid (fun w => limit_any 0 n (by simp) w)
  go_enter Tryz.func132, Tryz.ntmps132
  go_wp2_with fail
  go_region_held3 (fun W => W.cell? ⟨w.heap.size, 0, none⟩ = some (.int .i64 0) ∧ W.cell? ⟨w.heap.size, 1, none⟩ = some (.int .u64 n) ∧ w.heap.size < W.heap.size ∧ Below w.heap.size w W) 
     (first | exact keep2 (by assumption) (by assumption) (by omega) | (refine ⟨by simp [go_sem], by simp [go_sem], by simp, ?_⟩; go_grown; done))
     (first | (refine (L.out _).mono ?_; rintro e w1 ⟨rfl, hb⟩))
  rename_i hS
  obtain ⟨hS0, hS1, hS2, hS3⟩ := hS
  go_wp2
  all_goals
    go_ret2
    refine ⟨ret2 ?_ ?_, hS3⟩
    all_goals
      go_light
      simp only [val, err, wrap64, IntKind.wrap_i64, IntKind.wrap_u64] at *
      (try simp at *) <;> (try split) <;> omega
set_option maxRecDepth 100000 in
set_option maxHeartbeats 1000000 in
theorem number_1 (n : Int) (h0 : 0 ≤ n) (h1 : n ≤ 18446744073709551615) (w : World) :
    Calls Tryz.prog 132 #[.agg #[.int .i64 1, .int .u64 n]] w fun e w' => e = .returned (.tuple #[.int .i64 (val (-n)), .int .i64 (err (-n))]) ∧ Below w.heap.size w w' := by
  have L := Lib.hid (fun w => limit_any 1 n (by simp) w)
  go_enter Tryz.func132, Tryz.ntmps132
  go_wp2_with fail
  go_region_held3 (fun W => W.cell? ⟨w.heap.size, 0, none⟩ = some (.int .i64 1) ∧ W.cell? ⟨w.heap.size, 1, none⟩ = some (.int .u64 n) ∧ w.heap.size < W.heap.size ∧ Below w.heap.size w W) 
     (first | exact keep2 (by assumption) (by assumption) (by omega) | (refine ⟨by simp [go_sem], by simp [go_sem], by simp, ?_⟩; go_grown; done))
     (first | (refine (L.out _).mono ?_; rintro e w1 ⟨rfl, hb⟩))
  rename_i hS
  obtain ⟨hS0, hS1, hS2, hS3⟩ := hS
  go_wp2
  all_goals
    go_ret2
    refine ⟨ret2 ?_ ?_, hS3⟩
    all_goals
      go_light
      simp only [val, err, wrap64, IntKind.wrap_i64, IntKind.wrap_u64] at *
      (try simp at *) <;> (try split) <;> omega
end Go.Proofs.YtjhgiojmlkeccaaGreatDoor
namespace Go.Proofs.YtjhgiojmlkeccaaGreatDoor
open Go.RowKit

/-- What the library's variables hold. -/
structure Env (w : World) : Prop where
  tab : Lib.TabIs Tryz.prog w "internal/strconv.uint64pow10" .u64 Lib.pow10Tab
  rng : ∃ tp p, w.var? Tryz.prog "strconv.ErrRange" = some #[.iface tp p]
theorem Env.stays {w w' : World} (h : Env w) (hb : Below w.heap.size w w') : Env w' :=
  ⟨var_stays_w h.tab hb, let ⟨tp, p, hv⟩ := h.rng; ⟨tp, p, var_stays_w hv hb⟩⟩
theorem Env.below {B : Nat} {w w' : World} (h : Env w) (hb : Below B w w') (hB : w.heap.size ≤ B) : Env w' := h.stays (hb.mono hB)
theorem cut_dash (s b : ByteArray) (bl : Bool) (hb : b.data.toList = body s.data.toList) (hbl : below s.data.toList = bl) (w : World) :
    Calls Tryz.prog 84 #[.string s, .string ⟨#[45]⟩] w fun e w' => e = .returned (.tuple #[.string b, .bool bl]) ∧ w = w' :=
  (Tryz.strings_CutPrefix s ⟨#[45]⟩ w).mono fun e w' ⟨he, hw⟩ => ⟨by
    rw [he, show (⟨#[45]⟩ : ByteArray).data.toList = [45] from rfl, trimPrefix_dash, hasPrefix_dash, hbl, ← hb], hw.symm⟩
theorem trim_any (b : ByteArray) (hs : b.size ≤ 9223372036854775807) (w : World) :
    Calls Tryz.prog 88 #[.string b, .string ⟨#[48, 49, 50, 51, 52, 53, 54, 55, 56, 57]⟩] w fun e w' => e = .returned (.string ⟨(Lib.trimS b.data.toList [48, 49, 50, 51, 52, 53, 54, 55, 56, 57]).toArray⟩) ∧ Below w.heap.size w w' :=
  Any.strings_Trim_laid Tryz.lays160 (by kernel_rfl) b ⟨#[48, 49, 50, 51, 52, 53, 54, 55, 56, 57]⟩ w hs (by decide) (ascii_of_all (by decide))
theorem ne_nil (b : ByteArray) (h : 0 < b.size) : ¬ b.toList = [] := by
  rw [ByteArray.toList_eq]
  intro e
  have : b.data.toList.length = 0 := by rw [e]; rfl
  rw [Array.length_toList] at this
  change 0 < b.data.size at h; omega
theorem trim_to (b t : ByteArray) (hs : b.size ≤ 9223372036854775807) (ht : (Lib.trimS b.data.toList [48, 49, 50, 51, 52, 53, 54, 55, 56, 57]).toArray = t.data) (w : World) :
    Calls Tryz.prog 88 #[.string b, .string ⟨#[48, 49, 50, 51, 52, 53, 54, 55, 56, 57]⟩] w fun e w' => e = .returned (.string t) ∧ Below w.heap.size w w' :=
  (trim_any b hs w).mono fun e w' ⟨he, hw⟩ => ⟨by rw [he, ht], hw⟩
theorem below_freeze {B : Nat} {w w' : World} (h : Below B w w') {a : Addr} (ha : B ≤ a.block) (n : Nat) : Below B w (w'.freeze a n) := by
  unfold World.freeze
  split
  · exact h
  · exact ⟨h.os, h.tape, h.output, by show _ ≤ (Array.modify _ _ _).size; rw [Array.size_modify]; exact h.size, fun i hi => by
      show (Array.modify _ _ _)[i]? = _
      rw [Array.getElem?_modify, if_neg (by omega)]; exact h.block i hi⟩
theorem below_bytes (w : World) (t : TypeId) (s : ByteArray) : Below w.heap.size w (Lib.bytesWorld w t s) :=
  below_freeze (((Below.refl _ _).drew).alloc (Nat.le_refl _) _) (Nat.le_refl _) 1
theorem parse_in (b : ByteArray) (hs : b.size ≤ 281474976710656) (hd : digitsB b.data.toList = true) (hn : num b.data.toList ≤ 18446744073709551615) (w : World) :
    Calls Tryz.prog 131 #[.string b, .int .i64 10, .int .i64 64] w fun e w' => e = .returned (.tuple #[.int .u64 (num b.data.toList : Int), .nilIface]) ∧ Below w.heap.size w w' :=
  (Tryz.strconv_ParseUint_10_at64_ok b (by omega) _ (parse_ok _ hd hn) w).mono fun e w' ⟨he, hw⟩ => ⟨he, by rcases hw with rfl | rfl; exact Below.refl _ _; exact below_bytes _ _ _⟩
/-- An error came. -/
def Over (w : World) (e : Ending) (w' : World) : Prop := ∃ a : Addr, e = .returned (.tuple #[.int .u64 18446744073709551615, .iface 249 (.pointer (some a))]) ∧ Below w.heap.size w w'
theorem parse_out (b : ByteArray) (hs : b.size ≤ 281474976710656) (hd : digitsB b.data.toList = true) (hn : ¬ num b.data.toList ≤ 18446744073709551615) (w : World) (he : Env w) :
    Calls Tryz.prog 131 #[.string b, .int .i64 10, .int .i64 64] w (Over w) := by
  obtain ⟨tp, p, hv⟩ := he.rng
  exact (Tryz.strconv_ParseUint_10_at64_range_var b hs (parse_range _ hd hn) tp p w hv).mono fun e w' ⟨N, he, _, _, hb⟩ => ⟨_, he, hb⟩
/-- A block just made, behind calls that only make blocks. -/
theorem own2 {w w1 : World} {x y : Value} {t : TypeId} (hb : Below (w.alloc (.cells #[x, y] t)).heap.size (w.alloc (.cells #[x, y] t)) w1) :
    w1.cell? ⟨w.heap.size, 0, none⟩ = some x ∧ w1.cell? ⟨w.heap.size, 1, none⟩ = some y ∧ w1.frozen? ⟨w.heap.size, 0, none⟩ = false ∧ w1.frozen? ⟨w.heap.size, 1, none⟩ = false ∧ w.heap.size < w1.heap.size ∧ Below w.heap.size w w1 := by
  have hsz : (w.alloc (.cells #[x, y] t)).heap.size = w.heap.size + 1 := World.size_alloc _ _
  rw [hsz] at hb
  have hz := hb.size
  refine ⟨?_, ?_, ?_, ?_, by omega, ((Below.refl _ _).alloc (Nat.le_refl _) _).trans (hb.mono (Nat.le_succ _))⟩
  · rw [hb.cell (p := ⟨w.heap.size, 0, none⟩) (by simp)]; simp [go_sem]
  · rw [hb.cell (p := ⟨w.heap.size, 1, none⟩) (by simp)]; simp [go_sem]
  · rw [hb.frozen (p := ⟨w.heap.size, 0, none⟩) (by simp)]; simp [go_sem]
  · rw [hb.frozen (p := ⟨w.heap.size, 1, none⟩) (by simp)]; simp [go_sem]
theorem rdV_of {l b : List UInt8} {bl : Bool} (hb : b = body l) (hbl : below l = bl) : rdV l = if okDigits b then val (if bl then -(num b : Int) else num b) else 0 := by unfold rdV signed; rw [hbl, ← hb]
theorem rdE_of {l b : List UInt8} {bl : Bool} (hb : b = body l) (hbl : below l = bl) : rdE l = if okDigits b then err (if bl then -(num b : Int) else num b) else 21 := by unfold rdE signed; rw [hbl, ← hb]
set_option maxRecDepth 100000 in
set_option maxHeartbeats 1000000 in
theorem read_ok (s b : ByteArray) (bl : Bool) (hb : b.data.toList = body s.data.toList) (hbl : below s.data.toList = bl) (hs : s.size ≤ 281474976710656) (hbs : b.size ≤ s.size) (hd : digitsB b.data.toList = true)
    (z z1 : Bool) (hp : 0 < b.size) (hz : ((b[0].toNat : Int) == 48) = z) (hz1 : (b.toList == [48]) = z1) (hzz : z = true → z1 = true) (hok : okDigits b.data.toList = true) (hin : num b.data.toList ≤ 18446744073709551615) (w : World) (he : Env w) :
    Calls Tryz.prog 86 #[.string s] w fun e w' => e = .returned (.tuple #[.int .i64 (rdV s.data.toList), .int .i64 (rdE s.data.toList)]) ∧ Below w.heap.size w w' := by
  have HC := Lib.hid (fun w => cut_dash s b bl hb hbl w)
  have HV := Lib.hid (rdV_of hb hbl)
  have HE := Lib.hid (rdE_of hb hbl)
  have hne := ne_nil b hp
  have hne2 : b.toList.isEmpty = false := by simpa using hne
  have ht : Lib.trimS b.data.toList [48, 49, 50, 51, 52, 53, 54, 55, 56, 57] = [] := (trim_digits _).2 (by simp only [digitsB, Bool.and_eq_true] at hd; exact hd.1)
  have HT := Lib.hid (fun w => trim_to b ⟨#[]⟩ (by omega) (by rw [ht]) w)
  have HP := Lib.hid (fun w => parse_in b (by omega) hd hin w)
  have HK := Lib.hid hok
  clear hb hbl ht hd hok
  have hcase : z = false ∨ (z = true ∧ z1 = true) := by cases z <;> simp_all
  clear hzz
  cases bl
  all_goals
    rcases hcase with rfl | ⟨rfl, rfl⟩
  all_goals
    go_enter Tryz.func86, Tryz.ntmps86
    go_wp2_with fail
    refine (HC.out _).mono ?_; rintro e w1 ⟨rfl, rfl⟩
    go_wp2_with fail
    refine (HT.out _).mono ?_; rintro e w1 ⟨rfl, hb1⟩
    go_wp2_with fail
    refine (HP.out _).mono ?_; rintro e w2 ⟨rfl, hb2⟩
    obtain ⟨c0, c1, f0, f1, hlt, hbw⟩ := own2 (hb1.trans (hb2.mono hb1.size))
    go_wp2_with fail
    first
      | ((with_reducible refine (number_0 _ (Int.natCast_nonneg _) (by omega) _).mono ?_); rintro e w3 ⟨rfl, hb3⟩)
      | ((with_reducible refine (number_1 _ (Int.natCast_nonneg _) (by omega) _).mono ?_); rintro e w3 ⟨rfl, hb3⟩)
    have hz3 : (w2.setCell { block := w.heap.size, off := 1 } (Value.int IntKind.u64 (num b.data.toList : Int))).heap.size = w2.heap.size := World.size_setCell _ _ _
    rw [hz3] at hb3
    clear hz3
    go_wp2_with fail
    go_ret2
    exact ⟨ret2 (by rw [HV.out, HK.out]; rfl) (by rw [HE.out, HK.out]; rfl), (hbw.setCell (Nat.le_refl _) _).trans (hb3.mono (Nat.le_of_lt hlt))⟩
set_option maxRecDepth 100000 in
set_option maxHeartbeats 1000000 in
theorem read_over (s b : ByteArray) (bl : Bool) (hb : b.data.toList = body s.data.toList) (hbl : below s.data.toList = bl) (hs : s.size ≤ 281474976710656) (hbs : b.size ≤ s.size) (hd : digitsB b.data.toList = true)
    (z z1 : Bool) (hp : 0 < b.size) (hz : ((b[0].toNat : Int) == 48) = z) (hz1 : (b.toList == [48]) = z1) (hzz : z = true → z1 = true) (hok : okDigits b.data.toList = true) (hin : ¬ num b.data.toList ≤ 18446744073709551615) (w : World) (he : Env w) :
    Calls Tryz.prog 86 #[.string s] w fun e w' => e = .returned (.tuple #[.int .i64 (rdV s.data.toList), .int .i64 (rdE s.data.toList)]) ∧ Below w.heap.size w w' := by
  have HC := Lib.hid (fun w => cut_dash s b bl hb hbl w)
  have HV := Lib.hid (rdV_of hb hbl)
  have HE := Lib.hid (rdE_of hb hbl)
  have hne := ne_nil b hp
  have hne2 : b.toList.isEmpty = false := by simpa using hne
  have ht : Lib.trimS b.data.toList [48, 49, 50, 51, 52, 53, 54, 55, 56, 57] = [] := (trim_digits _).2 (by simp only [digitsB, Bool.and_eq_true] at hd; exact hd.1)
  have HT := Lib.hid (fun w => trim_to b ⟨#[]⟩ (by omega) (by rw [ht]) w)
  have HP := Lib.hid (fun w (he : Env w) => parse_out b (by omega) hd hin w he)
  have HK := Lib.hid hok
  have hov : ¬ R (if bl then -(num b.data.toList : Int) else num b.data.toList) := by unfold R; cases bl <;> simp <;> omega
  have HO := Lib.hid hov
  have HEnv := Lib.hid he
  clear hb hbl ht hd hok hov he hin
  have hcase : z = false ∨ (z = true ∧ z1 = true) := by cases z <;> simp_all
  clear hzz
  cases bl
  all_goals
    rcases hcase with rfl | ⟨rfl, rfl⟩
  all_goals
    go_enter Tryz.func86, Tryz.ntmps86
    go_wp2_with fail
    refine (HC.out _).mono ?_; rintro e w1 ⟨rfl, rfl⟩
    go_wp2_with fail
    refine (HT.out _).mono ?_; rintro e w1 ⟨rfl, hb1⟩
    go_wp2_with fail
    refine (HP.out _ (HEnv.out.below (((Below.refl _ _).alloc (Nat.le_refl _) _).trans (hb1.mono (by simp))) (Nat.le_refl _))).mono ?_; rintro e w2 ⟨a, rfl, hb2⟩
    have hbw := (own2 (hb1.trans (hb2.mono hb1.size))).2.2.2.2.2
    go_wp2_with fail
    go_ret2
    exact ⟨ret2 (by rw [HV.out, HK.out]; exact (val_out HO.out).symm) (by rw [HE.out, HK.out]; exact (err_out HO.out).symm), hbw⟩
set_option maxRecDepth 100000 in
set_option maxHeartbeats 1000000 in
theorem read_zero (s b : ByteArray) (bl : Bool) (hb : b.data.toList = body s.data.toList) (hbl : below s.data.toList = bl) (hs : s.size ≤ 281474976710656) (hbs : b.size ≤ s.size) (hd : digitsB b.data.toList = true)
    (hp : 0 < b.size) (hz : ((b[0].toNat : Int) == 48) = true) (hz1 : (b.toList == [48]) = false) (hok : okDigits b.data.toList = false) (w : World) (he : Env w) :
    Calls Tryz.prog 86 #[.string s] w fun e w' => e = .returned (.tuple #[.int .i64 (rdV s.data.toList), .int .i64 (rdE s.data.toList)]) ∧ Below w.heap.size w w' := by
  have HC := Lib.hid (fun w => cut_dash s b bl hb hbl w)
  have HV := Lib.hid (rdV_of hb hbl)
  have HE := Lib.hid (rdE_of hb hbl)
  have hne := ne_nil b hp
  have hne2 : b.toList.isEmpty = false := by simpa using hne
  have ht : Lib.trimS b.data.toList [48, 49, 50, 51, 52, 53, 54, 55, 56, 57] = [] := (trim_digits _).2 (by simp only [digitsB, Bool.and_eq_true] at hd; exact hd.1)
  have HT := Lib.hid (fun w => trim_to b ⟨#[]⟩ (by omega) (by rw [ht]) w)
  have HK := Lib.hid hok
  clear hb hbl ht hd hok he
  cases bl
  all_goals
    go_enter Tryz.func86, Tryz.ntmps86
    go_wp2_with fail
    refine (HC.out _).mono ?_; rintro e w1 ⟨rfl, rfl⟩
    go_wp2_with fail
    refine (HT.out _).mono ?_; rintro e w1 ⟨rfl, hb1⟩
    go_wp2_with fail
    have hbw := (own2 hb1).2.2.2.2.2
    go_ret2
    exact ⟨ret2 (by rw [HV.out, HK.out]; rfl) (by rw [HE.out, HK.out]; rfl), hbw⟩
set_option maxRecDepth 100000 in
set_option maxHeartbeats 1000000 in
theorem read_odd (s b : ByteArray) (bl : Bool) (hb : b.data.toList = body s.data.toList) (hbl : below s.data.toList = bl) (hs : s.size ≤ 281474976710656) (hbs : b.size ≤ s.size) (hd : b.data.toList.all isDig = false)
    (hp : 0 < b.size) (w : World) (he : Env w) :
    Calls Tryz.prog 86 #[.string s] w fun e w' => e = .returned (.tuple #[.int .i64 (rdV s.data.toList), .int .i64 (rdE s.data.toList)]) ∧ Below w.heap.size w w' := by
  have HC := Lib.hid (fun w => cut_dash s b bl hb hbl w)
  have HV := Lib.hid (rdV_of hb hbl)
  have HE := Lib.hid (rdE_of hb hbl)
  have hne := ne_nil b hp
  have hne2 : b.toList.isEmpty = false := by simpa using hne
  have HK := Lib.hid (not_ok_dig b.data.toList (by unfold digitsB; rw [hd]; rfl))
  have ht : ¬ Lib.trimS b.data.toList [48, 49, 50, 51, 52, 53, 54, 55, 56, 57] = [] := fun h => by rw [(trim_digits _).1 h] at hd; cases hd
  obtain ⟨t, htt⟩ : ∃ t : ByteArray, (Lib.trimS b.data.toList [48, 49, 50, 51, 52, 53, 54, 55, 56, 57]).toArray = t.data := ⟨⟨_⟩, rfl⟩
  have hnt : ¬ t.toList = [] := by
    rw [ByteArray.toList_eq, ← htt]; exact ht
  have hnt2 : t.toList.isEmpty = false := by simpa using hnt
  have HT := Lib.hid (fun w => trim_to b t (by omega) htt w)
  clear hb hbl ht hd he htt
  cases bl
  all_goals
    go_enter Tryz.func86, Tryz.ntmps86
    go_wp2_with fail
    refine (HC.out _).mono ?_; rintro e w1 ⟨rfl, rfl⟩
    go_wp2_with fail
    refine (HT.out _).mono ?_; rintro e w1 ⟨rfl, hb1⟩
    go_wp2_with fail
    have hbw := (own2 hb1).2.2.2.2.2
    go_ret2
    exact ⟨ret2 (by rw [HV.out, HK.out]; rfl) (by rw [HE.out, HK.out]; rfl), hbw⟩
set_option maxRecDepth 100000 in
set_option maxHeartbeats 1000000 in
theorem read_empty (s b : ByteArray) (bl : Bool) (hb : b.data.toList = body s.data.toList) (hbl : below s.data.toList = bl) (hs : s.size ≤ 281474976710656) (hbs : b.size ≤ s.size) (hp : b.size = 0) (w : World) (he : Env w) :
    Calls Tryz.prog 86 #[.string s] w fun e w' => e = .returned (.tuple #[.int .i64 (rdV s.data.toList), .int .i64 (rdE s.data.toList)]) ∧ Below w.heap.size w w' := by
  have HC := Lib.hid (fun w => cut_dash s b bl hb hbl w)
  have HV := Lib.hid (rdV_of hb hbl)
  have HE := Lib.hid (rdE_of hb hbl)
  have hbe : b = ⟨#[]⟩ := ByteArray.ext (Array.eq_empty_of_size_eq_zero hp)
  have HK := Lib.hid (not_ok_dig b.data.toList (by rw [hbe]; rfl))
  clear hb hbl he hp
  subst hbe
  cases bl
  all_goals
    go_enter Tryz.func86, Tryz.ntmps86
    go_wp2_with fail
    refine (HC.out _).mono ?_; rintro e w1 ⟨rfl, rfl⟩
    go_wp2_with fail
    go_ret2
    exact ⟨ret2 (by rw [HV.out, HK.out]; rfl) (by rw [HE.out, HK.out]; rfl), (Below.refl _ _).alloc (Nat.le_refl _) _⟩
theorem zero_only (b : ByteArray) (hp : 0 < b.size) (hz : (b[0].toNat : Int) = 48) : (b.toList == [48]) = decide (b.size ≤ 1) := by
  rw [ByteArray.toList_eq]
  obtain ⟨c, r, hl⟩ : ∃ c r, b.data.toList = c :: r := by
    cases hl : b.data.toList with
    | nil => have h2 : b.data.toList.length = 0 := by rw [hl]; rfl
             rw [Array.length_toList] at h2; change 0 < b.data.size at hp; omega
    | cons c r => exact ⟨c, r, rfl⟩
  have e : b[0] = c := by
    have : b.data.toList[0]? = some b[0] := by rw [List.getElem?_eq_getElem (by simpa using hp)]; rfl
    rw [hl] at this; simpa using this.symm
  have hc : c = 48 := UInt8.toNat_inj.1 (by rw [e] at hz; have : (48 : UInt8).toNat = 48 := rfl; omega)
  have hsz : b.size = r.length + 1 := by
    have : b.data.toList.length = r.length + 1 := by rw [hl]; rfl
    rw [Array.length_toList] at this; exact this
  rw [hl, hc, hsz]
  cases r with
  | nil => rfl
  | cons d q => simp
theorem read_any (s : ByteArray) (hs : s.size ≤ 281474976710656) (w : World) (he : Env w) :
    Calls Tryz.prog 86 #[.string s] w fun e w' => e = .returned (.tuple #[.int .i64 (rdV s.data.toList), .int .i64 (rdE s.data.toList)]) ∧ Below w.heap.size w w' := by
  obtain ⟨b, hb⟩ : ∃ b : ByteArray, b.data.toList = body s.data.toList := ⟨⟨(body s.data.toList).toArray⟩, rfl⟩
  have hbs : b.size ≤ s.size := by
    have h : b.data.toList.length ≤ s.data.toList.length := by rw [hb]; unfold body; split <;> simp
    simp only [Array.length_toList] at h; exact h
  rcases Nat.eq_zero_or_pos b.size with h0 | hp
  · exact read_empty s b _ hb rfl hs hbs h0 w he
  cases hd : b.data.toList.all isDig with
  | false => exact read_odd s b _ hb rfl hs hbs hd hp w he
  | true =>
    have hne : b.data.toList.isEmpty = false := by
      have := ne_nil b hp
      rw [ByteArray.toList_eq] at this; simpa using this
    have hdig : digitsB b.data.toList = true := by unfold digitsB; rw [hd, hne]; rfl
    by_cases hz : (b[0].toNat : Int) = 48
    · have h1 := zero_only b hp hz
      by_cases hs1 : b.size ≤ 1
      · have hok := ok_size b hdig hp (fun _ => hs1)
        by_cases hin : num b.data.toList ≤ 18446744073709551615
        · exact read_ok s b _ hb rfl hs hbs hdig true true hp (by simpa using hz) (by rw [h1]; simpa using hs1) (fun _ => rfl) hok hin w he
        · exact read_over s b _ hb rfl hs hbs hdig true true hp (by simpa using hz) (by rw [h1]; simpa using hs1) (fun _ => rfl) hok hin w he
      · exact read_zero s b _ hb rfl hs hbs hdig hp (by simpa using hz) (by rw [h1]; simpa using hs1) (not_ok_zero b hp hz (by omega)) w he
    · have hok := ok_size b hdig hp (fun h => absurd h hz)
      by_cases hin : num b.data.toList ≤ 18446744073709551615
      · exact read_ok s b _ hb rfl hs hbs hdig false _ hp (by simpa using hz) rfl (fun h => by cases h) hok hin w he
      · exact read_over s b _ hb rfl hs hbs hdig false _ hp (by simpa using hz) rfl (fun h => by cases h) hok hin w he
end Go.Proofs.YtjhgiojmlkeccaaGreatDoor
