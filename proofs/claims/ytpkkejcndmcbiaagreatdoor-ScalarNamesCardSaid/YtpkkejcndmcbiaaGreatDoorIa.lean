/- sync.Once, one goroutine: the lock, what doSlow defers, doSlow, Do: at the head of a block of the call's own. -/
import Derived.Test.YtpkkejcndmcbiaaGreatDoorRows
import Derived.Tactics
import Derived.Tactics2
import Derived.Defers
import Derived.Laws.Pointers
import Derived.Laws.LoneSync
import Derived.RegionTactic
import Derived.RegionCalls
import Derived.ChangeAlike
import Derived.WalkKit
import Derived.Below
import Derived.Lib.Builder
import Derived.Lib.Hide
set_option linter.unusedSimpArgs false
set_option linter.unusedVariables false
namespace Go.Proofs.YtpkkejcndmcbiaaGreatDoor
open Go.RowKit
theorem on_disable (w : World) : (callFunc 160 #[]).run Tryz.prog w = .ok (.value (.tuple #[])) w := run_call_mark0 Tryz.func160 (by kernel_rfl) (by kernel_rfl) (by kernel_rfl) .disable (by kernel_rfl) w
theorem on_enable (w : World) : (callFunc 162 #[]).run Tryz.prog w = .ok (.value (.tuple #[])) w := run_call_mark0 Tryz.func162 (by kernel_rfl) (by kernel_rfl) (by kernel_rfl) .enable (by kernel_rfl) w
theorem on_acquire (a : Addr) (w : World) : (callFunc 163 #[.pointer (some a)]).run Tryz.prog w = .ok (.value (.tuple #[])) w := run_call_marked Tryz.func163 (by kernel_rfl) (by kernel_rfl) (by kernel_rfl) .acquire (by kernel_rfl) a w
theorem on_release (a : Addr) (w : World) : (callFunc 165 #[.pointer (some a)]).run Tryz.prog w = .ok (.value (.tuple #[])) w := run_call_marked Tryz.func165 (by kernel_rfl) (by kernel_rfl) (by kernel_rfl) .releaseMerge (by kernel_rfl) a w
set_option maxRecDepth 100000 in
theorem on_ilock (a : Addr) (w : World) (hc : w.cell? a = some (.int .i32 0)) (hz : w.frozen? a = false) :
    Calls Tryz.prog 115 #[.pointer (some a)] w fun e w' => e = .returned (.tuple #[]) ∧ w' = w.setCell a (.int .i32 1) := by
  have hd := on_disable
  have he := on_enable
  have ha := on_acquire
  have hcas := run_call_cas_hit (P := Tryz.prog) Tryz.func161 (by kernel_rfl) (by kernel_rfl) (by kernel_rfl) .i32 (by kernel_rfl) (y := 1) hc hz
  have hc' : (w.setCell a (.int .i32 1)).cell? a = some (.int .i32 1) := World.cell?_setCell_same w a _ hc
  have hcv := run_convert_to_unsafe (P := Tryz.prog) (src := 220) (dst := 223) Tryz.underlying220 Tryz.underlying223 (by kernel_rfl) hc'
  go_enter Tryz.func115, Tryz.ntmps115
  go_wp2
  first | go_end0 | (simp only [Exit.inBlock, Exit.then]; refine bodyPost_ret (results_none rfl _ _ _) rfl ?_) | refine bodyPost_ret (results_none rfl _ _ _) rfl ?_
  exact ⟨rfl, rfl⟩
set_option maxRecDepth 100000 in
theorem on_iunlock (a : Addr) (w : World) (hc : w.cell? a = some (.int .i32 1)) (hz : w.frozen? a = false) :
    Calls Tryz.prog 116 #[.pointer (some a)] w fun e w' => e = .returned (.tuple #[]) ∧ w' = w.setCell a (.int .i32 0) := by
  have hd := on_disable
  have he := on_enable
  have hr := on_release
  have hadd := run_call_add (P := Tryz.prog) Tryz.func46 (by kernel_rfl) (by kernel_rfl) (by kernel_rfl) .i32 (by kernel_rfl) (y := -1) (s := 0) hc hz (by simp [go_sem]; rfl)
  have hcv := run_convert_to_unsafe (P := Tryz.prog) (src := 220) (dst := 223) Tryz.underlying220 Tryz.underlying223 (by kernel_rfl) hc
  go_enter Tryz.func116, Tryz.ntmps116
  go_wp2
  first | go_end0 | skip
  exact ⟨rfl, rfl⟩
set_option maxRecDepth 100000 in
theorem on_lock (b o : Nat) (w : World) (hc : w.cell? ⟨b, o, none⟩ = some (.int .i32 0)) (hz : w.frozen? ⟨b, o, none⟩ = false) :
    Calls Tryz.prog 71 #[.pointer (some ⟨b, o, none⟩)] w fun e w' => e = .returned (.tuple #[]) ∧ w' = w.setCell ⟨b, o, none⟩ (.int .i32 1) := by
  go_enter Tryz.func71, Tryz.ntmps71
  go_wp2_with fail
  refine (on_ilock ⟨b, o, none⟩ _ hc hz).mono ?_; rintro e w1 ⟨rfl, rfl⟩
  go_wp2_with fail
  go_end0
  all_goals exact ⟨rfl, rfl⟩
set_option maxRecDepth 100000 in
theorem on_unlock_d (b o : Nat) (u : FrameMode) (w : World) (hc : w.cell? ⟨b, o, none⟩ = some (.int .i32 1)) (hz : w.frozen? ⟨b, o, none⟩ = false) :
    CallsD Tryz.prog 72 #[.pointer (some ⟨b, o, none⟩)] u w fun e u' w' => u' = u ∧ (e = .returned (.tuple #[]) ∧ w' = w.setCell ⟨b, o, none⟩ (.int .i32 0)) := by
  go_enter_d Tryz.func72, Tryz.ntmps72
  go_wp2_with fail
  refine (on_iunlock ⟨b, o, none⟩ _ hc hz).mono ?_; rintro e w1 ⟨rfl, rfl⟩
  go_wp2_with fail
  go_end0
  all_goals exact ⟨rfl, rfl⟩
set_option maxRecDepth 100000 in
theorem on_store_d (b o : Nat) (x : Value) (u : FrameMode) (w : World) (hc : w.cell? ⟨b, o, none⟩ = some x) (hz : w.frozen? ⟨b, o, none⟩ = false) :
    CallsD Tryz.prog 73 #[.pointer (some ⟨b, o, none⟩), .bool true] u w fun e u' w' => u' = u ∧ (e = .returned (.tuple #[]) ∧ w' = w.drew.setCell ⟨b, o, none⟩ (.int .u32 1)) := by
  have hc' : w.drew.cell? ⟨b, o, none⟩ = some x := by go_simp
  have hz' : w.drew.frozen? ⟨b, o, none⟩ = false := by go_simp
  have hst := run_call_store (P := Tryz.prog) Tryz.func117 (by kernel_rfl) (by kernel_rfl) (by kernel_rfl) (by kernel_rfl) (k := .u32) (y := 1) hc' hz'
  go_enter_d Tryz.func73, Tryz.ntmps73
  go_wp2
  go_region_calls
  all_goals (go_end0; exact ⟨rfl, rfl⟩)
set_option maxRecDepth 100000 in
theorem on_load (b o : Nat) (x : Int) (t : Bool) (w : World) (hc : w.cell? ⟨b, o, none⟩ = some (.int .u32 x)) (ht : (x != 0) = t) :
    Calls Tryz.prog 47 #[.pointer (some ⟨b, o, none⟩)] w fun e w' => e = .returned (.bool t) ∧ w = w' := by
  have hl := run_call_load (P := Tryz.prog) Tryz.func70 (by kernel_rfl) (by kernel_rfl) (by kernel_rfl) .u32 (by kernel_rfl) hc
  go_enter Tryz.func47, Tryz.ntmps47
  go_wp2
  go_ret
  exact ⟨rfl, rfl⟩
/-- A block that begins with a Once: done, the lock's state, its count; then what the caller keeps. -/
theorem on_pset {b i : Nat} {W : World} {A A' : Array Value} {T : TypeId} (h : W.heap[b]? = some (.cells A T (0, 0))) (v : Value) (hA : A.setIfInBounds i v = A') : (W.setCell ⟨b, i, none⟩ v).heap[b]? = some (.cells A' T (0, 0)) := by
  subst hA
  have hlt : b < W.heap.size := (Array.getElem?_eq_some_iff.1 h).1
  simp only [World.setCell, Array.getElem?_modify]
  simp [h]
set_option maxRecDepth 100000 in
set_option maxHeartbeats 4000000 in
theorem on_slow (tb g : Nat) (T : TypeId) (s a : Int) (l0 : Value) (cap : Array Value) (P : Value → World → Prop) (w : World)
    (hh : w.heap[tb]? = some (.cells #[.int .u32 0, .int .i32 0, .int .u32 s, .int .i32 a, l0] T (0, 0)))
    (eg : ∀ args w, (callFunc g args).run Tryz.prog w = .ok (.enter g args) w)
    (HP : Hid (∀ l W W', P l W → (∀ b, b ≠ tb → W'.heap[b]? = W.heap[b]?) → P l W'))
    (HC : Hid (∀ W, W.heap[tb]? = some (.cells #[.int .u32 0, .int .i32 1, .int .u32 s, .int .i32 a, l0] T (0, 0)) → Below tb w W → (∀ b, b ≠ tb → W.heap[b]? = w.heap[b]?) → Calls Tryz.prog g cap W fun e w' => e = .returned (.tuple #[]) ∧ (∃ l1, w'.heap[tb]? = some (.cells #[.int .u32 0, .int .i32 1, .int .u32 s, .int .i32 a, l1] T (0, 0)) ∧ P l1 w') ∧ Below tb W w' ∧ (∀ b, b < W.heap.size → b ≠ tb → w'.heap[b]? = W.heap[b]?))) :
    Calls Tryz.prog 48 #[.pointer (some ⟨tb, 0, none⟩), .func (.func g) #[] cap] w fun e w' => e = .returned (.tuple #[]) ∧ (∃ l1, w'.heap[tb]? = some (.cells #[.int .u32 1, .int .i32 0, .int .u32 s, .int .i32 a, l1] T (0, 0)) ∧ P l1 w') ∧ Below tb w w' ∧ (∀ b, b < w.heap.size → b ≠ tb → w'.heap[b]? = w.heap[b]?) := by
  have c1 : w.cell? ⟨tb, 1, none⟩ = some (.int .i32 0) := (Lib.cell_of_heap hh 1).trans rfl
  have z1 : w.frozen? ⟨tb, 1, none⟩ = false := Lib.frozen_of_heap hh 1
  have h1 : (w.setCell ⟨tb, 1, none⟩ (.int .i32 1)).heap[tb]? = some (.cells #[.int .u32 0, .int .i32 1, .int .u32 s, .int .i32 a, l0] T (0, 0)) := on_pset hh _ rfl
  have hb1 : Below tb w (w.setCell ⟨tb, 1, none⟩ (.int .i32 1)) := (Below.refl tb w).setCell (p := ⟨tb, 1, none⟩) (Nat.le_refl tb) _
  have d0 : (w.setCell ⟨tb, 1, none⟩ (.int .i32 1)).cell? ⟨tb, 0, none⟩ = some (.int .u32 0) := (Lib.cell_of_heap h1 0).trans rfl
  go_enter_defers Tryz.func48, Tryz.ntmps48
  go_wp2_with fail
  refine (on_lock tb 1 w c1 z1).mono ?_; rintro e w1 ⟨rfl, rfl⟩
  go_wp2_with fail
  refine (on_load tb 0 0 false _ d0 rfl).mono ?_; rintro e w1 ⟨rfl, rfl⟩
  go_wp2_with fail
  refine (HC.out _ h1 hb1 (fun b hb => Below.heap_setCell _ _ _ _ hb)).mono ?_; rintro e w3 ⟨rfl, ⟨l1, h3, hp3⟩, hb3, hk3⟩
  have c0 : w3.cell? ⟨tb, 0, none⟩ = some (.int .u32 0) := (Lib.cell_of_heap h3 0).trans rfl
  have z0 : w3.frozen? ⟨tb, 0, none⟩ = false := Lib.frozen_of_heap h3 0
  have h4 : (w3.drew.setCell ⟨tb, 0, none⟩ (.int .u32 1)).heap[tb]? = some (.cells #[.int .u32 1, .int .i32 1, .int .u32 s, .int .i32 a, l1] T (0, 0)) := on_pset (W := w3.drew) h3 _ rfl
  have c4 : (w3.drew.setCell ⟨tb, 0, none⟩ (.int .u32 1)).cell? ⟨tb, 1, none⟩ = some (.int .i32 1) := (Lib.cell_of_heap h4 1).trans rfl
  have z4 : (w3.drew.setCell ⟨tb, 0, none⟩ (.int .u32 1)).frozen? ⟨tb, 1, none⟩ = false := Lib.frozen_of_heap h4 1
  have h5 : ((w3.drew.setCell ⟨tb, 0, none⟩ (.int .u32 1)).setCell ⟨tb, 1, none⟩ (.int .i32 0)).heap[tb]? = some (.cells #[.int .u32 1, .int .i32 0, .int .u32 s, .int .i32 a, l1] T (0, 0)) := on_pset h4 _ rfl
  have hp5 : P l1 ((w3.drew.setCell ⟨tb, 0, none⟩ (.int .u32 1)).setCell ⟨tb, 1, none⟩ (.int .i32 0)) := HP.out l1 w3 _ hp3 (fun b hb => by
    rw [Below.heap_setCell _ _ _ _ hb, Below.heap_setCell _ _ _ _ hb]; rfl)
  have hb5 : Below tb w ((w3.drew.setCell ⟨tb, 0, none⟩ (.int .u32 1)).setCell ⟨tb, 1, none⟩ (.int .i32 0)) := (((hb1.trans hb3).drew).setCell (p := ⟨tb, 0, none⟩) (Nat.le_refl tb) _).setCell (p := ⟨tb, 1, none⟩) (Nat.le_refl tb) _
  have hk5 : ∀ b, b < w.heap.size → b ≠ tb → ((w3.drew.setCell ⟨tb, 0, none⟩ (.int .u32 1)).setCell ⟨tb, 1, none⟩ (.int .i32 0)).heap[b]? = w.heap[b]? := fun b hb hne => by
    rw [Below.heap_setCell _ _ _ _ hne, Below.heap_setCell _ _ _ _ hne]
    show w3.heap[b]? = _
    rw [hk3 b (by simpa [World.setCell] using hb) hne, Below.heap_setCell _ _ _ _ hne]
  have HF := Lib.hid (And.intro h5 (And.intro hp5 (And.intro hb5 hk5)))
  clear h5 hp5 hb5 hk5 hk3 hb1 hb3 hp3 HP HC
  go_wp2_with fail
  refine leaves_cons (f := 73) (args := #[.pointer (some ⟨tb, 0, none⟩), .bool true]) (by simp) (by simp [go_sem]) ?_
  refine (on_store_d tb 0 (.int .u32 0) .returning _ c0 z0).mono ?_
  rintro e u' w5 ⟨rfl, rfl, rfl⟩
  refine leaves_cons (f := 72) (args := #[.pointer (some ⟨tb, 1, none⟩)]) (by simp [settle]) (by simp [go_sem]) ?_
  refine (on_unlock_d tb 1 _ _ c4 z4).mono ?_
  rintro e u' w6 ⟨rfl, rfl, rfl⟩
  have HG : (∃ l1', ((w3.drew.setCell ⟨tb, 0, none⟩ (.int .u32 1)).setCell ⟨tb, 1, none⟩ (.int .i32 0)).heap[tb]? = some (.cells #[.int .u32 1, .int .i32 0, .int .u32 s, .int .i32 a, l1'] T (0, 0)) ∧ P l1' ((w3.drew.setCell ⟨tb, 0, none⟩ (.int .u32 1)).setCell ⟨tb, 1, none⟩ (.int .i32 0))) ∧ Below tb w ((w3.drew.setCell ⟨tb, 0, none⟩ (.int .u32 1)).setCell ⟨tb, 1, none⟩ (.int .i32 0)) ∧ (∀ b, b < w.heap.size → b ≠ tb → ((w3.drew.setCell ⟨tb, 0, none⟩ (.int .u32 1)).setCell ⟨tb, 1, none⟩ (.int .i32 0)).heap[b]? = w.heap[b]?) := ⟨⟨l1, HF.out.1, HF.out.2.1⟩, HF.out.2.2⟩
  generalize (w3.drew.setCell ⟨tb, 0, none⟩ (.int .u32 1)).setCell ⟨tb, 1, none⟩ (.int .i32 0) = wf at *
  simp only [Leaves, settle, results, Tryz.results48]
  first | exact ⟨rfl, HG⟩ | (simp; exact HG)
set_option maxRecDepth 100000 in
set_option maxHeartbeats 4000000 in
theorem on_do (tb g : Nat) (T : TypeId) (s a : Int) (l0 : Value) (cap : Array Value) (P : Value → World → Prop) (w : World)
    (hh : w.heap[tb]? = some (.cells #[.int .u32 0, .int .i32 0, .int .u32 s, .int .i32 a, l0] T (0, 0)))
    (eg : ∀ args w, (callFunc g args).run Tryz.prog w = .ok (.enter g args) w)
    (HP : Hid (∀ l W W', P l W → (∀ b, b ≠ tb → W'.heap[b]? = W.heap[b]?) → P l W'))
    (HC : Hid (∀ W, W.heap[tb]? = some (.cells #[.int .u32 0, .int .i32 1, .int .u32 s, .int .i32 a, l0] T (0, 0)) → Below tb w W → (∀ b, b ≠ tb → W.heap[b]? = w.heap[b]?) → Calls Tryz.prog g cap W fun e w' => e = .returned (.tuple #[]) ∧ (∃ l1, w'.heap[tb]? = some (.cells #[.int .u32 0, .int .i32 1, .int .u32 s, .int .i32 a, l1] T (0, 0)) ∧ P l1 w') ∧ Below tb W w' ∧ (∀ b, b < W.heap.size → b ≠ tb → w'.heap[b]? = W.heap[b]?))) :
    Calls Tryz.prog 25 #[.pointer (some ⟨tb, 0, none⟩), .func (.func g) #[] cap] w fun e w' => e = .returned (.tuple #[]) ∧ (∃ l1, w'.heap[tb]? = some (.cells #[.int .u32 1, .int .i32 0, .int .u32 s, .int .i32 a, l1] T (0, 0)) ∧ P l1 w') ∧ Below tb w w' ∧ (∀ b, b < w.heap.size → b ≠ tb → w'.heap[b]? = w.heap[b]?) := by
  have HS := Lib.hid (on_slow tb g T s a l0 cap P w hh eg HP HC)
  have d0 : w.cell? ⟨tb, 0, none⟩ = some (.int .u32 0) := (Lib.cell_of_heap hh 0).trans rfl
  clear HP HC eg hh
  go_enter Tryz.func25, Tryz.ntmps25
  go_wp2_with fail
  refine (on_load tb 0 0 false _ d0 rfl).mono ?_; rintro e w1 ⟨rfl, rfl⟩
  go_wp2_with fail
  refine HS.out.mono ?_; rintro e w1 ⟨rfl, h1, h2⟩
  have H1 := Lib.hid h1
  have H2 := Lib.hid h2
  clear h1 h2
  go_wp2_with fail
  go_end0
  all_goals exact ⟨rfl, H1.out, H2.out⟩
set_option maxRecDepth 100000 in
theorem on_did (tb : Nat) (F : Value) (w : World) (d0 : w.cell? ⟨tb, 0, none⟩ = some (.int .u32 1)) :
    Calls Tryz.prog 25 #[.pointer (some ⟨tb, 0, none⟩), F] w fun e w' => e = .returned (.tuple #[]) ∧ w = w' := by
  go_enter Tryz.func25, Tryz.ntmps25
  go_wp2_with fail
  refine (on_load tb 0 1 true _ d0 rfl).mono ?_; rintro e w1 ⟨rfl, rfl⟩
  go_wp2_with fail
  go_end0
  all_goals exact ⟨rfl, rfl⟩
end Go.Proofs.YtpkkejcndmcbiaaGreatDoor
