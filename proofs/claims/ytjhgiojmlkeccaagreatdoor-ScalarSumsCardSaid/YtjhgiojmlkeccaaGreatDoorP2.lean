/- Walks and plain laws of this proof, joined from smaller texts (2). -/
import Derived.Test.YtjhgiojmlkeccaaGreatDoorRows
import Derived.WalkKit
import Derived.WalkSpells
import Derived.Handy
import Derived.Lib.Hide
import Derived.Deep.Light
import Derived.Deep.RegionWith
import Derived.Deep.RegionHeld3
import Derived.Test.YtjhgiojmlkeccaaGreatDoorShelf
import Derived.Deep.Draws
import Derived.Shelf.Strings.SlTrimAscii
import Derived.Lib.CutLaws
import Derived.Deep.QuietTactic
import Derived.BigQuiet
import Derived.Shelf.Spec.BitsCarry
import Derived.Outline
import Derived.Laws.BitsLemmas
import Derived.Lib.Bytealg
import Derived.Lib.IndexLaws
import Derived.Lib.Strings
import Derived.Lib.IndexBytes
import Derived.Test.YtjhgiojmlkeccaaGreatDoorP1
set_option linter.unusedSimpArgs false
set_option linter.unusedVariables false
namespace Go.Proofs.YtjhgiojmlkeccaaGreatDoor
open Go.RowKit Go.Shelf
set_option maxRecDepth 100000 in
set_option maxHeartbeats 4000000 in
theorem plain_many (g : Nat) (cap : Array Value) (c a : Value) (l : Bool) (ck : Int) (nm tx : ByteArray) (n m : Int) (w : World) (hm : (m != 0) = true) :
    Calls Tryz.prog 16 #[.agg #[.func (.func g) #[] cap, c, a, .bool l], .agg #[.int .u8 ck, .string nm, .string tx, .int .i64 n, .int .i64 m]] w fun e w' => e = .returned (.tuple #[.agg #[.int .u8 0, .string ⟨#[]⟩, .string ⟨#[]⟩, .int .i64 0, .int .i64 0], .bool false]) ∧ Below w.heap.size w w' := by
  go_enter Tryz.func16, Tryz.ntmps16
  go_wp2_with fail
  refine bodyPost_ret (v := .tuple #[.agg #[.int .u8 0, .string ⟨#[]⟩, .string ⟨#[]⟩, .int .i64 0, .int .i64 0], .bool false]) (by simp [results, Tryz.results16, go_sem]; try rfl) rfl ?_
  exact ⟨rfl, by go_grown⟩
set_option maxRecDepth 100000 in
set_option maxHeartbeats 4000000 in
theorem plain_txt (g : Nat) (cap : Array Value) (c a : Value) (l : Bool) (ck : Int) (nm tx : ByteArray) (n : Int) (w : World) (hk : (ck != 3) = true) (hk2 : (ck == 3) = false) (ht : tx.toList.isEmpty = false) (ht2 : ¬ tx.toList = []) :
    Calls Tryz.prog 16 #[.agg #[.func (.func g) #[] cap, c, a, .bool l], .agg #[.int .u8 ck, .string nm, .string tx, .int .i64 n, .int .i64 0]] w fun e w' => e = .returned (.tuple #[.agg #[.int .u8 0, .string ⟨#[]⟩, .string ⟨#[]⟩, .int .i64 0, .int .i64 0], .bool false]) ∧ Below w.heap.size w w' := by
  go_enter Tryz.func16, Tryz.ntmps16
  go_wp2_with fail
  refine bodyPost_ret (v := .tuple #[.agg #[.int .u8 0, .string ⟨#[]⟩, .string ⟨#[]⟩, .int .i64 0, .int .i64 0], .bool false]) (by simp [results, Tryz.results16, go_sem]; try rfl) rfl ?_
  exact ⟨rfl, by go_grown⟩
set_option maxRecDepth 100000 in
set_option maxHeartbeats 4000000 in
theorem plain_num (g : Nat) (cap : Array Value) (c a : Value) (l : Bool) (nm tx : ByteArray) (n : Int) (w : World) (hn : (n != 0) = true) :
    Calls Tryz.prog 16 #[.agg #[.func (.func g) #[] cap, c, a, .bool l], .agg #[.int .u8 3, .string nm, .string tx, .int .i64 n, .int .i64 0]] w fun e w' => e = .returned (.tuple #[.agg #[.int .u8 0, .string ⟨#[]⟩, .string ⟨#[]⟩, .int .i64 0, .int .i64 0], .bool false]) ∧ Below w.heap.size w w' := by
  go_enter Tryz.func16, Tryz.ntmps16
  go_wp2_with fail
  refine bodyPost_ret (v := .tuple #[.agg #[.int .u8 0, .string ⟨#[]⟩, .string ⟨#[]⟩, .int .i64 0, .int .i64 0], .bool false]) (by simp [results, Tryz.results16, go_sem]; try rfl) rfl ?_
  exact ⟨rfl, by go_grown⟩
/-- What a scalar reads of a cell without a name, without fields: kind, text, number, and whether it is one. -/
abbrev RdV := Int → ByteArray → Int → Int × ByteArray × Int × Bool
def toldR (cs : ByteArray → ByteArray × Int) : RdV := fun ck tx n => if ck = 3 ∧ chkE tx.data.toList = 0 then (3, (cs tx).1, 0, (cs tx).2 == 0) else (ck, tx, n, false)
def digsR (rd : RdV) : RdV := fun ck tx n => if ck = 2 then (3, ⟨(Lib.itoa n).toArray⟩, 0, true) else rd ck tx n
def numR : RdV := fun ck tx n => (ck, tx, n, ck == 2 && decide (-2147483648 ≤ n ∧ n ≤ 2147483647))
def boolR : RdV := fun ck tx n => (ck, tx, n, ck == 1 && (n == 0 || n == 1))
def plainR (rd : RdV) : Int → ByteArray → Int → Int → Int × ByteArray × Int × Bool := fun ck tx n m => if m = 0 ∧ (if ck = 3 then n = 0 else tx.toList = []) then rd ck tx n else (0, ⟨#[]⟩, 0, false)
/-- A text's function, of those that scalars hold. -/
def CanC (w : World) (g : Nat) (cap : Array Value) (cs : ByteArray → ByteArray × Int) : Prop := ∀ s : ByteArray, s.size ≤ 16384 → DoesU w g (#[.string s] ++ cap) (.tuple #[.string (cs s).1, .int .i64 (cs s).2])
/-- A reader. -/
def RdC (w : World) (g : Nat) (cap : Array Value) (rd : RdV) : Prop := ∀ (ck : Int) (tx : ByteArray) (n : Int), 0 ≤ ck → ck ≤ 255 → tx.size ≤ 1000000 → R n →
  DoesU w g (#[.agg #[.int .u8 ck, .string ⟨#[]⟩, .string tx, .int .i64 n, .int .i64 0]] ++ cap) (.tuple #[.agg #[.int .u8 (rd ck tx n).1, .string ⟨#[]⟩, .string (rd ck tx n).2.1, .int .i64 (rd ck tx n).2.2.1, .int .i64 0], .bool (rd ck tx n).2.2.2])
theorem CanC.below {w w' : World} {g : Nat} {cap : Array Value} {cs : ByteArray → ByteArray × Int} (h : CanC w g cap cs) (hb : Below w.heap.size w w') : CanC w' g cap cs := fun s hs => (h s hs).below hb
theorem RdC.below {w w' : World} {g : Nat} {cap : Array Value} {rd : RdV} (h : RdC w g cap rd) (hb : Below w.heap.size w w') : RdC w' g cap rd := fun ck tx n h0 h1 h2 h3 => (h ck tx n h0 h1 h2 h3).below hb
theorem app_nil (x : Value) : #[x] ++ #[] = #[x] := by simp
theorem told_c (p g : Nat) (cap : Array Value) (cs : ByteArray → ByteArray × Int) (w : World) (HP : w.cell? ⟨p, 0, none⟩ = some (.func (.func g) #[] cap)) (eg : ∀ args w, (callFunc g args).run Tryz.prog w = .ok (.enter g args) w) (hE : EnvU w) (HC : CanC w g cap cs) :
    RdC w 46 #[.pointer (some ⟨p, 0, none⟩)] (toldR cs) := by
  intro ck tx n h0 h1 h2 h3 W hW
  have HK : Hid (DoesU W 47 #[.string tx] (.int .i64 (chkE tx.data.toList))) := Lib.hid fun W' hW' => tcheck_any tx h2 W' ((hE.below hW).below hW')
  unfold toldR
  by_cases hk : ck = 3
  · subst hk
    by_cases hc : chkE tx.data.toList = 0
    · rw [if_pos ⟨rfl, hc⟩]
      rw [hc] at HK
      have hs : tx.size ≤ 16384 := by
        unfold chkE at hc
        by_cases h : 16384 < tx.data.toList.length
        · rw [if_pos h] at hc; cases hc
        · have : tx.data.toList.length = tx.size := by rw [Array.length_toList]; rfl
          omega
      exact told_go ⟨#[]⟩ tx n 0 p g cap (cs tx).1 (cs tx).2 _ W (Lib.hid ((hW.cell (p := ⟨p, 0, none⟩) (lt_of_cell HP)).trans HP)) (Nat.lt_of_lt_of_le (lt_of_cell HP) hW.size) eg rfl HK (Lib.hid ((HC tx hs).below hW))
    · rw [if_neg (fun h => hc h.2)]
      exact told_bad ⟨#[]⟩ tx n 0 p _ W (by simpa using hc) HK
  · rw [if_neg (fun h => hk h.1)]
    exact told_kind ck ⟨#[]⟩ tx n 0 p W (by simpa using hk)
theorem digs_c (p g : Nat) (cap : Array Value) (rd : RdV) (w : World) (HP : w.cell? ⟨p, 0, none⟩ = some (.func (.func g) #[] cap)) (eg : ∀ args w, (callFunc g args).run Tryz.prog w = .ok (.enter g args) w) (hE : EnvT w) (HC : RdC w g cap rd) :
    RdC w 48 #[.pointer (some ⟨p, 0, none⟩)] (digsR rd) := by
  intro ck tx n h0 h1 h2 h3 W hW
  unfold digsR
  by_cases hk : ck = 2
  · subst hk
    rw [if_pos rfl]
    exact digs_int ⟨#[]⟩ tx n 0 p _ W (Lib.hid fun W' hW' => write_tab n h3 W' ((EnvT.stays hE hW).stays hW'))
  · rw [if_neg hk]
    exact digs_go ck ⟨#[]⟩ tx n 0 p g cap _ _ _ _ _ _ W (Lib.hid ((hW.cell (p := ⟨p, 0, none⟩) (lt_of_cell HP)).trans HP)) (Nat.lt_of_lt_of_le (lt_of_cell HP) hW.size) eg (by simpa using hk) (Lib.hid ((HC ck tx n h0 h1 h2 h3).below hW))
theorem number_c (w : World) : RdC w 24 #[] numR := by
  intro ck tx n h0 h1 h2 h3 W hW
  rw [app_nil]
  unfold numR
  by_cases hk : ck = 2
  · subst hk
    exact number_2 _ _ _ _ h3 W
  · have e : (ck == 2) = false := by simpa using hk
    rw [e]
    exact number_k ck _ _ _ _ e W
theorem bool_c (w : World) : RdC w 30 #[] boolR := by
  intro ck tx n h0 h1 h2 h3 W hW
  rw [app_nil]
  unfold boolR
  by_cases hk : ck = 1
  · subst hk
    by_cases hn : n = 0
    · subst hn; exact bool_0 _ _ _ W
    · by_cases hn1 : n = 1
      · subst hn1; exact bool_1 _ _ _ W
      · have e0 : (n == 0) = false := by simpa using hn
        have e1 : (n == 1) = false := by simpa using hn1
        rw [e0, e1]
        exact bool_n _ _ _ _ e0 e1 W
  · have e : (ck == 1) = false := by simpa using hk
    rw [e]
    exact bool_k ck _ _ _ _ e W
/-- plain, of a scalar. -/
def PlC (w : World) (g : Nat) (cap : Array Value) (c a : Value) (l : Bool) (rd : RdV) : Prop := ∀ (ck : Int) (nm tx : ByteArray) (n m : Int), 0 ≤ ck → ck ≤ 255 → tx.size ≤ 1000000 → R n → R m →
  DoesU w 16 #[.agg #[.func (.func g) #[] cap, c, a, .bool l], .agg #[.int .u8 ck, .string nm, .string tx, .int .i64 n, .int .i64 m]] (.tuple #[.agg #[.int .u8 (plainR rd ck tx n m).1, .string ⟨#[]⟩, .string (plainR rd ck tx n m).2.1, .int .i64 (plainR rd ck tx n m).2.2.1, .int .i64 0], .bool (plainR rd ck tx n m).2.2.2])
theorem plain_c (g : Nat) (cap : Array Value) (c a : Value) (l : Bool) (rd : RdV) (w : World) (eg : ∀ args w, (callFunc g args).run Tryz.prog w = .ok (.enter g args) w) (HR : RdC w g cap rd) : PlC w g cap c a l rd := by
  intro ck nm tx n m h0 h1 h2 h3 h4 W hW
  have HR' := HR.below hW
  unfold plainR
  by_cases hm : m = 0
  · subst hm
    by_cases hk : ck = 3
    · subst hk
      by_cases hn : n = 0
      · subst hn
        rw [if_pos ⟨rfl, by rw [if_pos rfl]⟩]
        exact plain_text g cap c a l nm tx _ _ _ _ _ _ W eg (Lib.hid (HR' 3 tx 0 h0 h1 h2 h3))
      · rw [if_neg (fun h => hn (by simpa using h.2))]
        exact plain_num g cap c a l nm tx n W (by simpa using hn)
    · have e1 : (ck != 3) = true := by simpa using hk
      have e2 : (ck == 3) = false := by simpa using hk
      by_cases ht : tx.toList = []
      · rw [if_pos ⟨rfl, by rw [if_neg hk]; exact ht⟩]
        obtain rfl : tx = ⟨#[]⟩ := by
          rw [ByteArray.toList_eq] at ht
          have : tx.data = #[] := Array.toList_inj.1 (by rw [ht])
          cases tx; simp_all
        exact plain_other g cap c a l ck nm n _ _ _ _ _ _ W eg e1 e2 (Lib.hid (HR' ck ⟨#[]⟩ n h0 h1 (by decide) h3))
      · rw [if_neg (fun h => ht (by have := h.2; rw [if_neg hk] at this; exact this))]
        exact plain_txt g cap c a l ck nm tx n W e1 e2 (by simpa using ht) ht
  · rw [if_neg (fun h => hm h.1)]
    exact plain_many g cap c a l ck nm tx n m W (by simpa using hm)
end Go.Proofs.YtjhgiojmlkeccaaGreatDoor
namespace Go.Proofs.YtjhgiojmlkeccaaGreatDoor
open Go.RowKit Go.Shelf
theorem pset {b i : Nat} {W : World} {A A' : Array Value} {T : TypeId} (h : W.heap[b]? = some (.cells A T (0, 0))) (v : Value) (hA : A.setIfInBounds i v = A') : (W.setCell ⟨b, i, none⟩ v).heap[b]? = some (.cells A' T (0, 0)) := on_pset h v hA
theorem pother {b b' i : Nat} {W : World} {o : Obj} (h : W.heap[b]? = some o) (v : Value) (hne : b ≠ b') : (W.setCell ⟨b', i, none⟩ v).heap[b]? = some o := by
  rw [Below.heap_setCell _ _ _ _ hne]; exact h
set_option maxRecDepth 100000 in
set_option maxHeartbeats 4000000 in
theorem sread_go (k : Int) (ck : Int) (cn ct : ByteArray) (ci cm : Int) (rk : Int) (rn rt : ByteArray) (ri rm : Int) (w : World)
    (HO : Hid (∀ W, Below w.heap.size w W → Calls Tryz.prog 15 #[.int .u8 k] W fun e w' => (∃ g cap c a l, e = .returned (.tuple #[.agg #[.func (.func g) #[] cap, c, a, .bool l], .int .i64 0]) ∧ Hid (c.oneCell' = true ∧ a.oneCell' = true) ∧ Hid (DoesU w' 16 #[.agg #[.func (.func g) #[] cap, c, a, .bool l], .agg #[.int .u8 ck, .string cn, .string ct, .int .i64 ci, .int .i64 cm]] (.tuple #[.agg #[.int .u8 rk, .string rn, .string rt, .int .i64 ri, .int .i64 rm], .bool true]))) ∧ Below W.heap.size W w')) :
    Calls Tryz.prog 8 #[.int .u8 k, .agg #[.int .u8 ck, .string cn, .string ct, .int .i64 ci, .int .i64 cm]] w fun e w' => e = .returned (.tuple #[.agg #[.int .u8 rk, .string rn, .string rt, .int .i64 ri, .int .i64 rm], .int .i64 0]) ∧ Below w.heap.size w w' := by
  go_enter Tryz.func8, Tryz.ntmps8
  go_wp2_with fail
  refine (HO.out _ (by first | exact Below.refl _ _ | (go_grown; done))).mono ?_; rintro e w1 ⟨⟨g, cap, c, a, l, rfl, HC, HQ⟩, hb⟩
  have hh0 : w1.heap[w.heap.size]? = some (.cells #[.int .u8 ck, .string cn, .string ct, .int .i64 ci, .int .i64 cm] 23 (0, 0)) := (hb.block _ (by first | omega | (simp; done) | (simp; omega))).trans (heap_old (o' := (.cells #[.int .u8 0, .string ⟨#[]⟩, .string ⟨#[]⟩, .int .i64 0, .int .i64 0] 23 (0, 0))) (heap_new _ _ _ (by first | rfl | simp)))
  have hh1 : w1.heap[w.heap.size + 1]? = some (.cells #[.int .u8 0, .string ⟨#[]⟩, .string ⟨#[]⟩, .int .i64 0, .int .i64 0] 23 (0, 0)) := (hb.block _ (by first | omega | (simp; done) | (simp; omega))).trans (heap_new _ _ _ (by first | rfl | simp))
  have hbw1 : Below w.heap.size w w1 := (show Below w.heap.size w _ by first | exact Below.refl _ _ | (go_grown; done)).trans (hb.mono (by first | omega | (simp; done) | (simp; omega)))
  clear hb
  have HH0_1 := Lib.hid hh0
  have lt0 := heap_lt hh0
  have c0_0 : w1.cell? ⟨w.heap.size, 0, none⟩ = some (.int .u8 ck) := by rw [Lib.cell_of_heap hh0]; rfl
  have f0_0 : w1.frozen? ⟨w.heap.size, 0, none⟩ = false := Lib.frozen_of_heap hh0 0
  have c0_1 : w1.cell? ⟨w.heap.size, 1, none⟩ = some (.string cn) := by rw [Lib.cell_of_heap hh0]; rfl
  have f0_1 : w1.frozen? ⟨w.heap.size, 1, none⟩ = false := Lib.frozen_of_heap hh0 1
  have c0_2 : w1.cell? ⟨w.heap.size, 2, none⟩ = some (.string ct) := by rw [Lib.cell_of_heap hh0]; rfl
  have f0_2 : w1.frozen? ⟨w.heap.size, 2, none⟩ = false := Lib.frozen_of_heap hh0 2
  have c0_3 : w1.cell? ⟨w.heap.size, 3, none⟩ = some (.int .i64 ci) := by rw [Lib.cell_of_heap hh0]; rfl
  have f0_3 : w1.frozen? ⟨w.heap.size, 3, none⟩ = false := Lib.frozen_of_heap hh0 3
  have c0_4 : w1.cell? ⟨w.heap.size, 4, none⟩ = some (.int .i64 cm) := by rw [Lib.cell_of_heap hh0]; rfl
  have f0_4 : w1.frozen? ⟨w.heap.size, 4, none⟩ = false := Lib.frozen_of_heap hh0 4
  clear hh0
  have HH1_1 := Lib.hid hh1
  have lt1 := heap_lt hh1
  have c1_0 : w1.cell? ⟨w.heap.size + 1, 0, none⟩ = some (.int .u8 0) := by rw [Lib.cell_of_heap hh1]; rfl
  have f1_0 : w1.frozen? ⟨w.heap.size + 1, 0, none⟩ = false := Lib.frozen_of_heap hh1 0
  have c1_1 : w1.cell? ⟨w.heap.size + 1, 1, none⟩ = some (.string ⟨#[]⟩) := by rw [Lib.cell_of_heap hh1]; rfl
  have f1_1 : w1.frozen? ⟨w.heap.size + 1, 1, none⟩ = false := Lib.frozen_of_heap hh1 1
  have c1_2 : w1.cell? ⟨w.heap.size + 1, 2, none⟩ = some (.string ⟨#[]⟩) := by rw [Lib.cell_of_heap hh1]; rfl
  have f1_2 : w1.frozen? ⟨w.heap.size + 1, 2, none⟩ = false := Lib.frozen_of_heap hh1 2
  have c1_3 : w1.cell? ⟨w.heap.size + 1, 3, none⟩ = some (.int .i64 0) := by rw [Lib.cell_of_heap hh1]; rfl
  have f1_3 : w1.frozen? ⟨w.heap.size + 1, 3, none⟩ = false := Lib.frozen_of_heap hh1 3
  have c1_4 : w1.cell? ⟨w.heap.size + 1, 4, none⟩ = some (.int .i64 0) := by rw [Lib.cell_of_heap hh1]; rfl
  have f1_4 : w1.frozen? ⟨w.heap.size + 1, 4, none⟩ = false := Lib.frozen_of_heap hh1 4
  clear hh1
  have sz1 := hbw1.size
  have HW1 := Lib.hid hbw1
  have hsn := fun W a x hc hz => st_one Tryz.prog .nilFunc rfl W a x hc hz
  have hsf := fun W b x hc hz => st_one Tryz.prog (.func (.func g) #[] cap) rfl W b x hc hz
  have hsc := fun W b x hc hz => st_one Tryz.prog c HC.out.1 W b x hc hz
  have hsa := fun W b x hc hz => st_one Tryz.prog a HC.out.2 W b x hc hz
  go_wp2_with fail
  refine (HQ.out _ (by first | exact Below.refl _ _ | exact hq1 | (go_grown; done))).mono ?_; rintro e w2 ⟨rfl, hb⟩
  have hv0 := heap_old (o' := (.cells #[.func (.func g) #[] cap, c, a, .bool l] 41 (0, 0))) (HH0_1.out)
  have hh0 : w2.heap[w.heap.size]? = some (.cells #[.int .u8 ck, .string cn, .string ct, .int .i64 ci, .int .i64 cm] 23 (0, 0)) := (hb.block _ (heap_lt hv0)).trans hv0
  clear hv0
  have hv1 := heap_old (o' := (.cells #[.func (.func g) #[] cap, c, a, .bool l] 41 (0, 0))) (HH1_1.out)
  have hh1 : w2.heap[w.heap.size + 1]? = some (.cells #[.int .u8 0, .string ⟨#[]⟩, .string ⟨#[]⟩, .int .i64 0, .int .i64 0] 23 (0, 0)) := (hb.block _ (heap_lt hv1)).trans hv1
  clear hv1
  have hh2 : w2.heap[w1.heap.size]? = some (.cells #[.func (.func g) #[] cap, c, a, .bool l] 41 (0, 0)) := (hb.block _ (by first | omega | (simp; done) | (simp; omega))).trans (heap_new _ _ _ (by first | rfl | simp))
  have hbw2 : Below w.heap.size w w2 := (show Below w.heap.size w _ by first | exact HW1.out.trans ⟨rfl, rfl, rfl, Nat.le_refl _, fun _ _ => rfl⟩ | exact HW1.out | (go_grown; done)).trans (hb.mono (by first | omega | (simp; done) | (simp; omega)))
  clear hb lt0 c0_0 f0_0 c0_1 f0_1 c0_2 f0_2 c0_3 f0_3 c0_4 f0_4 lt1 c1_0 f1_0 c1_1 f1_1 c1_2 f1_2 c1_3 f1_3 c1_4 f1_4 hbw1
  have HH0_2 := Lib.hid hh0
  have lt0 := heap_lt hh0
  have c0_0 : w2.cell? ⟨w.heap.size, 0, none⟩ = some (.int .u8 ck) := by rw [Lib.cell_of_heap hh0]; rfl
  have f0_0 : w2.frozen? ⟨w.heap.size, 0, none⟩ = false := Lib.frozen_of_heap hh0 0
  have c0_1 : w2.cell? ⟨w.heap.size, 1, none⟩ = some (.string cn) := by rw [Lib.cell_of_heap hh0]; rfl
  have f0_1 : w2.frozen? ⟨w.heap.size, 1, none⟩ = false := Lib.frozen_of_heap hh0 1
  have c0_2 : w2.cell? ⟨w.heap.size, 2, none⟩ = some (.string ct) := by rw [Lib.cell_of_heap hh0]; rfl
  have f0_2 : w2.frozen? ⟨w.heap.size, 2, none⟩ = false := Lib.frozen_of_heap hh0 2
  have c0_3 : w2.cell? ⟨w.heap.size, 3, none⟩ = some (.int .i64 ci) := by rw [Lib.cell_of_heap hh0]; rfl
  have f0_3 : w2.frozen? ⟨w.heap.size, 3, none⟩ = false := Lib.frozen_of_heap hh0 3
  have c0_4 : w2.cell? ⟨w.heap.size, 4, none⟩ = some (.int .i64 cm) := by rw [Lib.cell_of_heap hh0]; rfl
  have f0_4 : w2.frozen? ⟨w.heap.size, 4, none⟩ = false := Lib.frozen_of_heap hh0 4
  clear hh0
  have HH1_2 := Lib.hid hh1
  have lt1 := heap_lt hh1
  have c1_0 : w2.cell? ⟨w.heap.size + 1, 0, none⟩ = some (.int .u8 0) := by rw [Lib.cell_of_heap hh1]; rfl
  have f1_0 : w2.frozen? ⟨w.heap.size + 1, 0, none⟩ = false := Lib.frozen_of_heap hh1 0
  have c1_1 : w2.cell? ⟨w.heap.size + 1, 1, none⟩ = some (.string ⟨#[]⟩) := by rw [Lib.cell_of_heap hh1]; rfl
  have f1_1 : w2.frozen? ⟨w.heap.size + 1, 1, none⟩ = false := Lib.frozen_of_heap hh1 1
  have c1_2 : w2.cell? ⟨w.heap.size + 1, 2, none⟩ = some (.string ⟨#[]⟩) := by rw [Lib.cell_of_heap hh1]; rfl
  have f1_2 : w2.frozen? ⟨w.heap.size + 1, 2, none⟩ = false := Lib.frozen_of_heap hh1 2
  have c1_3 : w2.cell? ⟨w.heap.size + 1, 3, none⟩ = some (.int .i64 0) := by rw [Lib.cell_of_heap hh1]; rfl
  have f1_3 : w2.frozen? ⟨w.heap.size + 1, 3, none⟩ = false := Lib.frozen_of_heap hh1 3
  have c1_4 : w2.cell? ⟨w.heap.size + 1, 4, none⟩ = some (.int .i64 0) := by rw [Lib.cell_of_heap hh1]; rfl
  have f1_4 : w2.frozen? ⟨w.heap.size + 1, 4, none⟩ = false := Lib.frozen_of_heap hh1 4
  clear hh1
  have HH2_2 := Lib.hid hh2
  have lt2 := heap_lt hh2
  have c2_0 : w2.cell? ⟨w1.heap.size, 0, none⟩ = some (.func (.func g) #[] cap) := by rw [Lib.cell_of_heap hh2]; rfl
  have c2_1 : w2.cell? ⟨w1.heap.size, 1, none⟩ = some (c) := by rw [Lib.cell_of_heap hh2]; rfl
  have c2_2 : w2.cell? ⟨w1.heap.size, 2, none⟩ = some (a) := by rw [Lib.cell_of_heap hh2]; rfl
  have c2_3 : w2.cell? ⟨w1.heap.size, 3, none⟩ = some (.bool l) := by rw [Lib.cell_of_heap hh2]; rfl
  clear hh2
  have sz2 := hbw2.size
  have HW2 := Lib.hid hbw2
  clear hsn hsf hsc hsa
  go_upto_region 5 with fail
  obtain ⟨w3, hw3⟩ : ∃ X : World, X = ((((((((((w2).setCell ⟨w.heap.size, 0, none⟩ (.int .u8 rk))).setCell ⟨w.heap.size, 1, none⟩ (.string rn))).setCell ⟨w.heap.size, 2, none⟩ (.string rt))).setCell ⟨w.heap.size, 3, none⟩ (.int .i64 ri))).setCell ⟨w.heap.size, 4, none⟩ (.int .i64 rm)) := ⟨_, rfl⟩
  rw [← hw3]
  have hh0 : w3.heap[w.heap.size]? = some (.cells #[.int .u8 rk, .string rn, .string rt, .int .i64 ri, .int .i64 rm] 23 (0, 0)) := by rw [hw3]; exact pset (i := 4) (pset (i := 3) (pset (i := 2) (pset (i := 1) (pset (i := 0) (HH0_2.out) (.int .u8 rk) rfl) (.string rn) rfl) (.string rt) rfl) (.int .i64 ri) rfl) (.int .i64 rm) rfl
  have hh1 : w3.heap[w.heap.size + 1]? = some (.cells #[.int .u8 0, .string ⟨#[]⟩, .string ⟨#[]⟩, .int .i64 0, .int .i64 0] 23 (0, 0)) := by rw [hw3]; exact pother (b' := w.heap.size) (i := 4) (pother (b' := w.heap.size) (i := 3) (pother (b' := w.heap.size) (i := 2) (pother (b' := w.heap.size) (i := 1) (pother (b' := w.heap.size) (i := 0) (HH1_2.out) (.int .u8 rk) (by omega)) (.string rn) (by omega)) (.string rt) (by omega)) (.int .i64 ri) (by omega)) (.int .i64 rm) (by omega)
  have hbw3 : Below w.heap.size w w3 := by rw [hw3]; exact ((((((((((HW2.out).setCell (p := ⟨w.heap.size, 0, none⟩) (by first | exact Nat.le_refl _ | omega | (dsimp only; omega)) _)).setCell (p := ⟨w.heap.size, 1, none⟩) (by first | exact Nat.le_refl _ | omega | (dsimp only; omega)) _)).setCell (p := ⟨w.heap.size, 2, none⟩) (by first | exact Nat.le_refl _ | omega | (dsimp only; omega)) _)).setCell (p := ⟨w.heap.size, 3, none⟩) (by first | exact Nat.le_refl _ | omega | (dsimp only; omega)) _)).setCell (p := ⟨w.heap.size, 4, none⟩) (by first | exact Nat.le_refl _ | omega | (dsimp only; omega)) _)
  clear hw3 lt0 c0_0 f0_0 c0_1 f0_1 c0_2 f0_2 c0_3 f0_3 c0_4 f0_4 lt1 c1_0 f1_0 c1_1 f1_1 c1_2 f1_2 c1_3 f1_3 c1_4 f1_4 lt2 c2_0 c2_1 c2_2 c2_3 hbw2
  have HH0_3 := Lib.hid hh0
  have lt0 := heap_lt hh0
  have c0_0 : w3.cell? ⟨w.heap.size, 0, none⟩ = some (.int .u8 rk) := by rw [Lib.cell_of_heap hh0]; rfl
  have f0_0 : w3.frozen? ⟨w.heap.size, 0, none⟩ = false := Lib.frozen_of_heap hh0 0
  have c0_1 : w3.cell? ⟨w.heap.size, 1, none⟩ = some (.string rn) := by rw [Lib.cell_of_heap hh0]; rfl
  have f0_1 : w3.frozen? ⟨w.heap.size, 1, none⟩ = false := Lib.frozen_of_heap hh0 1
  have c0_2 : w3.cell? ⟨w.heap.size, 2, none⟩ = some (.string rt) := by rw [Lib.cell_of_heap hh0]; rfl
  have f0_2 : w3.frozen? ⟨w.heap.size, 2, none⟩ = false := Lib.frozen_of_heap hh0 2
  have c0_3 : w3.cell? ⟨w.heap.size, 3, none⟩ = some (.int .i64 ri) := by rw [Lib.cell_of_heap hh0]; rfl
  have f0_3 : w3.frozen? ⟨w.heap.size, 3, none⟩ = false := Lib.frozen_of_heap hh0 3
  have c0_4 : w3.cell? ⟨w.heap.size, 4, none⟩ = some (.int .i64 rm) := by rw [Lib.cell_of_heap hh0]; rfl
  have f0_4 : w3.frozen? ⟨w.heap.size, 4, none⟩ = false := Lib.frozen_of_heap hh0 4
  clear hh0
  have HH1_3 := Lib.hid hh1
  have lt1 := heap_lt hh1
  have c1_0 : w3.cell? ⟨w.heap.size + 1, 0, none⟩ = some (.int .u8 0) := by rw [Lib.cell_of_heap hh1]; rfl
  have f1_0 : w3.frozen? ⟨w.heap.size + 1, 0, none⟩ = false := Lib.frozen_of_heap hh1 0
  have c1_1 : w3.cell? ⟨w.heap.size + 1, 1, none⟩ = some (.string ⟨#[]⟩) := by rw [Lib.cell_of_heap hh1]; rfl
  have f1_1 : w3.frozen? ⟨w.heap.size + 1, 1, none⟩ = false := Lib.frozen_of_heap hh1 1
  have c1_2 : w3.cell? ⟨w.heap.size + 1, 2, none⟩ = some (.string ⟨#[]⟩) := by rw [Lib.cell_of_heap hh1]; rfl
  have f1_2 : w3.frozen? ⟨w.heap.size + 1, 2, none⟩ = false := Lib.frozen_of_heap hh1 2
  have c1_3 : w3.cell? ⟨w.heap.size + 1, 3, none⟩ = some (.int .i64 0) := by rw [Lib.cell_of_heap hh1]; rfl
  have f1_3 : w3.frozen? ⟨w.heap.size + 1, 3, none⟩ = false := Lib.frozen_of_heap hh1 3
  have c1_4 : w3.cell? ⟨w.heap.size + 1, 4, none⟩ = some (.int .i64 0) := by rw [Lib.cell_of_heap hh1]; rfl
  have f1_4 : w3.frozen? ⟨w.heap.size + 1, 4, none⟩ = false := Lib.frozen_of_heap hh1 4
  clear hh1
  have sz3 := hbw3.size
  have HW3 := Lib.hid hbw3
  go_wp2_with fail
  refine bodyPost_ret (v := .tuple #[.agg #[.int .u8 rk, .string rn, .string rt, .int .i64 ri, .int .i64 rm], .int .i64 0]) (by simp [results, Tryz.results8, go_sem, c1_0, f1_0, c1_1, f1_1, c1_2, f1_2, c1_3, f1_3, c1_4, f1_4]; try rfl) rfl ?_
  refine ⟨rfl, ?_⟩
  repeat' (first | with_reducible exact HW3.out | with_reducible refine Below.setCell ?_ ?_ _ | with_reducible refine Below.alloc ?_ ?_ _)
  all_goals (first | exact Nat.le_refl _ | (dsimp only; omega) | omega | (simp; done) | (simp; omega))
set_option maxRecDepth 100000 in
set_option maxHeartbeats 4000000 in
theorem sread_no (k : Int) (ck : Int) (cn ct : ByteArray) (ci cm : Int) (rk : Int) (rn rt : ByteArray) (ri rm : Int) (w : World)
    (HO : Hid (∀ W, Below w.heap.size w W → Calls Tryz.prog 15 #[.int .u8 k] W fun e w' => (∃ g cap c a l, e = .returned (.tuple #[.agg #[.func (.func g) #[] cap, c, a, .bool l], .int .i64 0]) ∧ Hid (c.oneCell' = true ∧ a.oneCell' = true) ∧ Hid (DoesU w' 16 #[.agg #[.func (.func g) #[] cap, c, a, .bool l], .agg #[.int .u8 ck, .string cn, .string ct, .int .i64 ci, .int .i64 cm]] (.tuple #[.agg #[.int .u8 rk, .string rn, .string rt, .int .i64 ri, .int .i64 rm], .bool false]))) ∧ Below W.heap.size W w')) :
    Calls Tryz.prog 8 #[.int .u8 k, .agg #[.int .u8 ck, .string cn, .string ct, .int .i64 ci, .int .i64 cm]] w fun e w' => e = .returned (.tuple #[.agg #[.int .u8 0, .string ⟨#[]⟩, .string ⟨#[]⟩, .int .i64 0, .int .i64 0], .int .i64 160]) ∧ Below w.heap.size w w' := by
  go_enter Tryz.func8, Tryz.ntmps8
  go_wp2_with fail
  refine (HO.out _ (by first | exact Below.refl _ _ | (go_grown; done))).mono ?_; rintro e w1 ⟨⟨g, cap, c, a, l, rfl, HC, HQ⟩, hb⟩
  have hh0 : w1.heap[w.heap.size]? = some (.cells #[.int .u8 ck, .string cn, .string ct, .int .i64 ci, .int .i64 cm] 23 (0, 0)) := (hb.block _ (by first | omega | (simp; done) | (simp; omega))).trans (heap_old (o' := (.cells #[.int .u8 0, .string ⟨#[]⟩, .string ⟨#[]⟩, .int .i64 0, .int .i64 0] 23 (0, 0))) (heap_new _ _ _ (by first | rfl | simp)))
  have hh1 : w1.heap[w.heap.size + 1]? = some (.cells #[.int .u8 0, .string ⟨#[]⟩, .string ⟨#[]⟩, .int .i64 0, .int .i64 0] 23 (0, 0)) := (hb.block _ (by first | omega | (simp; done) | (simp; omega))).trans (heap_new _ _ _ (by first | rfl | simp))
  have hbw1 : Below w.heap.size w w1 := (show Below w.heap.size w _ by first | exact Below.refl _ _ | (go_grown; done)).trans (hb.mono (by first | omega | (simp; done) | (simp; omega)))
  clear hb
  have HH0_1 := Lib.hid hh0
  have lt0 := heap_lt hh0
  have c0_0 : w1.cell? ⟨w.heap.size, 0, none⟩ = some (.int .u8 ck) := by rw [Lib.cell_of_heap hh0]; rfl
  have f0_0 : w1.frozen? ⟨w.heap.size, 0, none⟩ = false := Lib.frozen_of_heap hh0 0
  have c0_1 : w1.cell? ⟨w.heap.size, 1, none⟩ = some (.string cn) := by rw [Lib.cell_of_heap hh0]; rfl
  have f0_1 : w1.frozen? ⟨w.heap.size, 1, none⟩ = false := Lib.frozen_of_heap hh0 1
  have c0_2 : w1.cell? ⟨w.heap.size, 2, none⟩ = some (.string ct) := by rw [Lib.cell_of_heap hh0]; rfl
  have f0_2 : w1.frozen? ⟨w.heap.size, 2, none⟩ = false := Lib.frozen_of_heap hh0 2
  have c0_3 : w1.cell? ⟨w.heap.size, 3, none⟩ = some (.int .i64 ci) := by rw [Lib.cell_of_heap hh0]; rfl
  have f0_3 : w1.frozen? ⟨w.heap.size, 3, none⟩ = false := Lib.frozen_of_heap hh0 3
  have c0_4 : w1.cell? ⟨w.heap.size, 4, none⟩ = some (.int .i64 cm) := by rw [Lib.cell_of_heap hh0]; rfl
  have f0_4 : w1.frozen? ⟨w.heap.size, 4, none⟩ = false := Lib.frozen_of_heap hh0 4
  clear hh0
  have HH1_1 := Lib.hid hh1
  have lt1 := heap_lt hh1
  have c1_0 : w1.cell? ⟨w.heap.size + 1, 0, none⟩ = some (.int .u8 0) := by rw [Lib.cell_of_heap hh1]; rfl
  have f1_0 : w1.frozen? ⟨w.heap.size + 1, 0, none⟩ = false := Lib.frozen_of_heap hh1 0
  have c1_1 : w1.cell? ⟨w.heap.size + 1, 1, none⟩ = some (.string ⟨#[]⟩) := by rw [Lib.cell_of_heap hh1]; rfl
  have f1_1 : w1.frozen? ⟨w.heap.size + 1, 1, none⟩ = false := Lib.frozen_of_heap hh1 1
  have c1_2 : w1.cell? ⟨w.heap.size + 1, 2, none⟩ = some (.string ⟨#[]⟩) := by rw [Lib.cell_of_heap hh1]; rfl
  have f1_2 : w1.frozen? ⟨w.heap.size + 1, 2, none⟩ = false := Lib.frozen_of_heap hh1 2
  have c1_3 : w1.cell? ⟨w.heap.size + 1, 3, none⟩ = some (.int .i64 0) := by rw [Lib.cell_of_heap hh1]; rfl
  have f1_3 : w1.frozen? ⟨w.heap.size + 1, 3, none⟩ = false := Lib.frozen_of_heap hh1 3
  have c1_4 : w1.cell? ⟨w.heap.size + 1, 4, none⟩ = some (.int .i64 0) := by rw [Lib.cell_of_heap hh1]; rfl
  have f1_4 : w1.frozen? ⟨w.heap.size + 1, 4, none⟩ = false := Lib.frozen_of_heap hh1 4
  clear hh1
  have sz1 := hbw1.size
  have HW1 := Lib.hid hbw1
  have hsn := fun W a x hc hz => st_one Tryz.prog .nilFunc rfl W a x hc hz
  have hsf := fun W b x hc hz => st_one Tryz.prog (.func (.func g) #[] cap) rfl W b x hc hz
  have hsc := fun W b x hc hz => st_one Tryz.prog c HC.out.1 W b x hc hz
  have hsa := fun W b x hc hz => st_one Tryz.prog a HC.out.2 W b x hc hz
  go_wp2_with fail
  refine (HQ.out _ (by first | exact Below.refl _ _ | exact hq1 | (go_grown; done))).mono ?_; rintro e w2 ⟨rfl, hb⟩
  have hv0 := heap_old (o' := (.cells #[.func (.func g) #[] cap, c, a, .bool l] 41 (0, 0))) (HH0_1.out)
  have hh0 : w2.heap[w.heap.size]? = some (.cells #[.int .u8 ck, .string cn, .string ct, .int .i64 ci, .int .i64 cm] 23 (0, 0)) := (hb.block _ (heap_lt hv0)).trans hv0
  clear hv0
  have hv1 := heap_old (o' := (.cells #[.func (.func g) #[] cap, c, a, .bool l] 41 (0, 0))) (HH1_1.out)
  have hh1 : w2.heap[w.heap.size + 1]? = some (.cells #[.int .u8 0, .string ⟨#[]⟩, .string ⟨#[]⟩, .int .i64 0, .int .i64 0] 23 (0, 0)) := (hb.block _ (heap_lt hv1)).trans hv1
  clear hv1
  have hh2 : w2.heap[w1.heap.size]? = some (.cells #[.func (.func g) #[] cap, c, a, .bool l] 41 (0, 0)) := (hb.block _ (by first | omega | (simp; done) | (simp; omega))).trans (heap_new _ _ _ (by first | rfl | simp))
  have hbw2 : Below w.heap.size w w2 := (show Below w.heap.size w _ by first | exact HW1.out.trans ⟨rfl, rfl, rfl, Nat.le_refl _, fun _ _ => rfl⟩ | exact HW1.out | (go_grown; done)).trans (hb.mono (by first | omega | (simp; done) | (simp; omega)))
  clear hb lt0 c0_0 f0_0 c0_1 f0_1 c0_2 f0_2 c0_3 f0_3 c0_4 f0_4 lt1 c1_0 f1_0 c1_1 f1_1 c1_2 f1_2 c1_3 f1_3 c1_4 f1_4 hbw1
  have HH0_2 := Lib.hid hh0
  have lt0 := heap_lt hh0
  have c0_0 : w2.cell? ⟨w.heap.size, 0, none⟩ = some (.int .u8 ck) := by rw [Lib.cell_of_heap hh0]; rfl
  have f0_0 : w2.frozen? ⟨w.heap.size, 0, none⟩ = false := Lib.frozen_of_heap hh0 0
  have c0_1 : w2.cell? ⟨w.heap.size, 1, none⟩ = some (.string cn) := by rw [Lib.cell_of_heap hh0]; rfl
  have f0_1 : w2.frozen? ⟨w.heap.size, 1, none⟩ = false := Lib.frozen_of_heap hh0 1
  have c0_2 : w2.cell? ⟨w.heap.size, 2, none⟩ = some (.string ct) := by rw [Lib.cell_of_heap hh0]; rfl
  have f0_2 : w2.frozen? ⟨w.heap.size, 2, none⟩ = false := Lib.frozen_of_heap hh0 2
  have c0_3 : w2.cell? ⟨w.heap.size, 3, none⟩ = some (.int .i64 ci) := by rw [Lib.cell_of_heap hh0]; rfl
  have f0_3 : w2.frozen? ⟨w.heap.size, 3, none⟩ = false := Lib.frozen_of_heap hh0 3
  have c0_4 : w2.cell? ⟨w.heap.size, 4, none⟩ = some (.int .i64 cm) := by rw [Lib.cell_of_heap hh0]; rfl
  have f0_4 : w2.frozen? ⟨w.heap.size, 4, none⟩ = false := Lib.frozen_of_heap hh0 4
  clear hh0
  have HH1_2 := Lib.hid hh1
  have lt1 := heap_lt hh1
  have c1_0 : w2.cell? ⟨w.heap.size + 1, 0, none⟩ = some (.int .u8 0) := by rw [Lib.cell_of_heap hh1]; rfl
  have f1_0 : w2.frozen? ⟨w.heap.size + 1, 0, none⟩ = false := Lib.frozen_of_heap hh1 0
  have c1_1 : w2.cell? ⟨w.heap.size + 1, 1, none⟩ = some (.string ⟨#[]⟩) := by rw [Lib.cell_of_heap hh1]; rfl
  have f1_1 : w2.frozen? ⟨w.heap.size + 1, 1, none⟩ = false := Lib.frozen_of_heap hh1 1
  have c1_2 : w2.cell? ⟨w.heap.size + 1, 2, none⟩ = some (.string ⟨#[]⟩) := by rw [Lib.cell_of_heap hh1]; rfl
  have f1_2 : w2.frozen? ⟨w.heap.size + 1, 2, none⟩ = false := Lib.frozen_of_heap hh1 2
  have c1_3 : w2.cell? ⟨w.heap.size + 1, 3, none⟩ = some (.int .i64 0) := by rw [Lib.cell_of_heap hh1]; rfl
  have f1_3 : w2.frozen? ⟨w.heap.size + 1, 3, none⟩ = false := Lib.frozen_of_heap hh1 3
  have c1_4 : w2.cell? ⟨w.heap.size + 1, 4, none⟩ = some (.int .i64 0) := by rw [Lib.cell_of_heap hh1]; rfl
  have f1_4 : w2.frozen? ⟨w.heap.size + 1, 4, none⟩ = false := Lib.frozen_of_heap hh1 4
  clear hh1
  have HH2_2 := Lib.hid hh2
  have lt2 := heap_lt hh2
  have c2_0 : w2.cell? ⟨w1.heap.size, 0, none⟩ = some (.func (.func g) #[] cap) := by rw [Lib.cell_of_heap hh2]; rfl
  have c2_1 : w2.cell? ⟨w1.heap.size, 1, none⟩ = some (c) := by rw [Lib.cell_of_heap hh2]; rfl
  have c2_2 : w2.cell? ⟨w1.heap.size, 2, none⟩ = some (a) := by rw [Lib.cell_of_heap hh2]; rfl
  have c2_3 : w2.cell? ⟨w1.heap.size, 3, none⟩ = some (.bool l) := by rw [Lib.cell_of_heap hh2]; rfl
  clear hh2
  have sz2 := hbw2.size
  have HW2 := Lib.hid hbw2
  clear hsn hsf hsc hsa
  go_upto_region 5 with fail
  obtain ⟨w3, hw3⟩ : ∃ X : World, X = ((((((((((w2).setCell ⟨w.heap.size, 0, none⟩ (.int .u8 rk))).setCell ⟨w.heap.size, 1, none⟩ (.string rn))).setCell ⟨w.heap.size, 2, none⟩ (.string rt))).setCell ⟨w.heap.size, 3, none⟩ (.int .i64 ri))).setCell ⟨w.heap.size, 4, none⟩ (.int .i64 rm)) := ⟨_, rfl⟩
  rw [← hw3]
  have hh0 : w3.heap[w.heap.size]? = some (.cells #[.int .u8 rk, .string rn, .string rt, .int .i64 ri, .int .i64 rm] 23 (0, 0)) := by rw [hw3]; exact pset (i := 4) (pset (i := 3) (pset (i := 2) (pset (i := 1) (pset (i := 0) (HH0_2.out) (.int .u8 rk) rfl) (.string rn) rfl) (.string rt) rfl) (.int .i64 ri) rfl) (.int .i64 rm) rfl
  have hh1 : w3.heap[w.heap.size + 1]? = some (.cells #[.int .u8 0, .string ⟨#[]⟩, .string ⟨#[]⟩, .int .i64 0, .int .i64 0] 23 (0, 0)) := by rw [hw3]; exact pother (b' := w.heap.size) (i := 4) (pother (b' := w.heap.size) (i := 3) (pother (b' := w.heap.size) (i := 2) (pother (b' := w.heap.size) (i := 1) (pother (b' := w.heap.size) (i := 0) (HH1_2.out) (.int .u8 rk) (by omega)) (.string rn) (by omega)) (.string rt) (by omega)) (.int .i64 ri) (by omega)) (.int .i64 rm) (by omega)
  have hbw3 : Below w.heap.size w w3 := by rw [hw3]; exact ((((((((((HW2.out).setCell (p := ⟨w.heap.size, 0, none⟩) (by first | exact Nat.le_refl _ | omega | (dsimp only; omega)) _)).setCell (p := ⟨w.heap.size, 1, none⟩) (by first | exact Nat.le_refl _ | omega | (dsimp only; omega)) _)).setCell (p := ⟨w.heap.size, 2, none⟩) (by first | exact Nat.le_refl _ | omega | (dsimp only; omega)) _)).setCell (p := ⟨w.heap.size, 3, none⟩) (by first | exact Nat.le_refl _ | omega | (dsimp only; omega)) _)).setCell (p := ⟨w.heap.size, 4, none⟩) (by first | exact Nat.le_refl _ | omega | (dsimp only; omega)) _)
  clear hw3 lt0 c0_0 f0_0 c0_1 f0_1 c0_2 f0_2 c0_3 f0_3 c0_4 f0_4 lt1 c1_0 f1_0 c1_1 f1_1 c1_2 f1_2 c1_3 f1_3 c1_4 f1_4 lt2 c2_0 c2_1 c2_2 c2_3 hbw2
  have HH0_3 := Lib.hid hh0
  have lt0 := heap_lt hh0
  have c0_0 : w3.cell? ⟨w.heap.size, 0, none⟩ = some (.int .u8 rk) := by rw [Lib.cell_of_heap hh0]; rfl
  have f0_0 : w3.frozen? ⟨w.heap.size, 0, none⟩ = false := Lib.frozen_of_heap hh0 0
  have c0_1 : w3.cell? ⟨w.heap.size, 1, none⟩ = some (.string rn) := by rw [Lib.cell_of_heap hh0]; rfl
  have f0_1 : w3.frozen? ⟨w.heap.size, 1, none⟩ = false := Lib.frozen_of_heap hh0 1
  have c0_2 : w3.cell? ⟨w.heap.size, 2, none⟩ = some (.string rt) := by rw [Lib.cell_of_heap hh0]; rfl
  have f0_2 : w3.frozen? ⟨w.heap.size, 2, none⟩ = false := Lib.frozen_of_heap hh0 2
  have c0_3 : w3.cell? ⟨w.heap.size, 3, none⟩ = some (.int .i64 ri) := by rw [Lib.cell_of_heap hh0]; rfl
  have f0_3 : w3.frozen? ⟨w.heap.size, 3, none⟩ = false := Lib.frozen_of_heap hh0 3
  have c0_4 : w3.cell? ⟨w.heap.size, 4, none⟩ = some (.int .i64 rm) := by rw [Lib.cell_of_heap hh0]; rfl
  have f0_4 : w3.frozen? ⟨w.heap.size, 4, none⟩ = false := Lib.frozen_of_heap hh0 4
  clear hh0
  have HH1_3 := Lib.hid hh1
  have lt1 := heap_lt hh1
  have c1_0 : w3.cell? ⟨w.heap.size + 1, 0, none⟩ = some (.int .u8 0) := by rw [Lib.cell_of_heap hh1]; rfl
  have f1_0 : w3.frozen? ⟨w.heap.size + 1, 0, none⟩ = false := Lib.frozen_of_heap hh1 0
  have c1_1 : w3.cell? ⟨w.heap.size + 1, 1, none⟩ = some (.string ⟨#[]⟩) := by rw [Lib.cell_of_heap hh1]; rfl
  have f1_1 : w3.frozen? ⟨w.heap.size + 1, 1, none⟩ = false := Lib.frozen_of_heap hh1 1
  have c1_2 : w3.cell? ⟨w.heap.size + 1, 2, none⟩ = some (.string ⟨#[]⟩) := by rw [Lib.cell_of_heap hh1]; rfl
  have f1_2 : w3.frozen? ⟨w.heap.size + 1, 2, none⟩ = false := Lib.frozen_of_heap hh1 2
  have c1_3 : w3.cell? ⟨w.heap.size + 1, 3, none⟩ = some (.int .i64 0) := by rw [Lib.cell_of_heap hh1]; rfl
  have f1_3 : w3.frozen? ⟨w.heap.size + 1, 3, none⟩ = false := Lib.frozen_of_heap hh1 3
  have c1_4 : w3.cell? ⟨w.heap.size + 1, 4, none⟩ = some (.int .i64 0) := by rw [Lib.cell_of_heap hh1]; rfl
  have f1_4 : w3.frozen? ⟨w.heap.size + 1, 4, none⟩ = false := Lib.frozen_of_heap hh1 4
  clear hh1
  have sz3 := hbw3.size
  have HW3 := Lib.hid hbw3
  go_wp2_with fail
  refine bodyPost_ret (v := .tuple #[.agg #[.int .u8 0, .string ⟨#[]⟩, .string ⟨#[]⟩, .int .i64 0, .int .i64 0], .int .i64 160]) (by simp [results, Tryz.results8, go_sem, c1_0, f1_0, c1_1, f1_1, c1_2, f1_2, c1_3, f1_3, c1_4, f1_4]; try rfl) rfl ?_
  refine ⟨rfl, ?_⟩
  repeat' (first | with_reducible exact HW3.out | with_reducible refine Below.setCell ?_ ?_ _ | with_reducible refine Below.alloc ?_ ?_ _)
  all_goals (first | exact Nat.le_refl _ | (dsimp only; omega) | omega | (simp; done) | (simp; omega))
end Go.Proofs.YtjhgiojmlkeccaaGreatDoor
namespace Go.Proofs.YtjhgiojmlkeccaaGreatDoor
open Go.RowKit Go.Shelf
theorem nil_cmp (w : World) : (binOp .neq 38 .nilFunc .nilFunc).run Tryz.prog w = .ok (.bool false) w := by kernel_rfl
theorem fun_cmp (w : World) (g : Nat) : (binOp .neq 38 (.func (.func g) #[] #[]) .nilFunc).run Tryz.prog w = .ok (.bool true) w := by kernel_rfl
theorem nil_add (w : World) : (binOp .neq 39 .nilFunc .nilFunc).run Tryz.prog w = .ok (.bool false) w := by kernel_rfl
theorem fun_add (w : World) (g : Nat) : (binOp .neq 39 (.func (.func g) #[] #[]) .nilFunc).run Tryz.prog w = .ok (.bool true) w := by kernel_rfl
set_option maxRecDepth 100000 in
set_option maxHeartbeats 4000000 in
theorem scompare_none (k : Int) (k1 : Int) (nm1 tx1 : ByteArray) (n1 m1 : Int) (k2 : Int) (nm2 tx2 : ByteArray) (n2 m2 : Int) (w : World)
    (HO : Hid (∀ W, Below w.heap.size w W → Calls Tryz.prog 15 #[.int .u8 k] W fun e w' => (∃ (g : Nat) (cap : Array Value) (a : Value) (l : Bool), e = .returned (.tuple #[.agg #[.func (.func g) #[] cap, .nilFunc, a, .bool l], .int .i64 0]) ∧ Hid (a.oneCell' = true)) ∧ Below W.heap.size W w')) :
    Calls Tryz.prog 10 #[.int .u8 k, .agg #[.int .u8 k1, .string nm1, .string tx1, .int .i64 n1, .int .i64 m1], .agg #[.int .u8 k2, .string nm2, .string tx2, .int .i64 n2, .int .i64 m2]] w fun e w' => e = .returned (.tuple #[.int .i64 0, .int .i64 6]) ∧ Below w.heap.size w w' := by
  go_enter Tryz.func10, Tryz.ntmps10
  go_wp2_with fail
  refine (HO.out _ (by first | exact Below.refl _ _ | (go_grown; done))).mono ?_; rintro e w1 ⟨⟨g, cap, a, l, rfl, HC⟩, hb⟩
  have hh0 : w1.heap[w.heap.size]? = some (.cells #[.int .u8 k1, .string nm1, .string tx1, .int .i64 n1, .int .i64 m1] 23 (0, 0)) := (hb.block _ (by first | omega | (simp; done) | (simp; omega))).trans (heap_old (o' := (.cells #[.int .u8 k2, .string nm2, .string tx2, .int .i64 n2, .int .i64 m2] 23 (0, 0))) (heap_new _ _ _ (by first | rfl | simp)))
  have hh1 : w1.heap[w.heap.size + 1]? = some (.cells #[.int .u8 k2, .string nm2, .string tx2, .int .i64 n2, .int .i64 m2] 23 (0, 0)) := (hb.block _ (by first | omega | (simp; done) | (simp; omega))).trans (heap_new _ _ _ (by first | rfl | simp))
  have hbw1 : Below w.heap.size w w1 := (show Below w.heap.size w _ by first | exact Below.refl _ _ | (go_grown; done)).trans (hb.mono (by first | omega | (simp; done) | (simp; omega)))
  clear hb
  have HH0_1 := Lib.hid hh0
  have lt0 := heap_lt hh0
  have c0_0 : w1.cell? ⟨w.heap.size, 0, none⟩ = some (.int .u8 k1) := by rw [Lib.cell_of_heap hh0]; rfl
  have c0_1 : w1.cell? ⟨w.heap.size, 1, none⟩ = some (.string nm1) := by rw [Lib.cell_of_heap hh0]; rfl
  have c0_2 : w1.cell? ⟨w.heap.size, 2, none⟩ = some (.string tx1) := by rw [Lib.cell_of_heap hh0]; rfl
  have c0_3 : w1.cell? ⟨w.heap.size, 3, none⟩ = some (.int .i64 n1) := by rw [Lib.cell_of_heap hh0]; rfl
  have c0_4 : w1.cell? ⟨w.heap.size, 4, none⟩ = some (.int .i64 m1) := by rw [Lib.cell_of_heap hh0]; rfl
  clear hh0
  have HH1_1 := Lib.hid hh1
  have lt1 := heap_lt hh1
  have c1_0 : w1.cell? ⟨w.heap.size + 1, 0, none⟩ = some (.int .u8 k2) := by rw [Lib.cell_of_heap hh1]; rfl
  have c1_1 : w1.cell? ⟨w.heap.size + 1, 1, none⟩ = some (.string nm2) := by rw [Lib.cell_of_heap hh1]; rfl
  have c1_2 : w1.cell? ⟨w.heap.size + 1, 2, none⟩ = some (.string tx2) := by rw [Lib.cell_of_heap hh1]; rfl
  have c1_3 : w1.cell? ⟨w.heap.size + 1, 3, none⟩ = some (.int .i64 n2) := by rw [Lib.cell_of_heap hh1]; rfl
  have c1_4 : w1.cell? ⟨w.heap.size + 1, 4, none⟩ = some (.int .i64 m2) := by rw [Lib.cell_of_heap hh1]; rfl
  clear hh1
  have sz1 := hbw1.size
  have HW1 := Lib.hid hbw1
  have hne := nil_cmp
  have hst0 := (fun W b x hc hz => st_one Tryz.prog (.func (.func g) #[] cap) rfl W b x hc hz)
  have hst1 := (fun W b x hc hz => st_one Tryz.prog (.nilFunc) rfl W b x hc hz)
  have hst2 := (fun W b x hc hz => st_one Tryz.prog (a) HC.out W b x hc hz)
  go_wp2_with fail
  refine (asked_no (.func (.func g) #[] cap) (.nilFunc) (a) l _ _ _ _).mono ?_; rintro e w2 ⟨rfl, hb⟩
  have hv0 := heap_old (o' := (.cells #[.int .u8 k1, .string nm1, .string tx1, .int .i64 n1, .int .i64 m1, .int .u8 k2, .string nm2, .string tx2, .int .i64 n2, .int .i64 m2] 23 (0, 0))) (heap_old (o' := (.cells #[.func (.func g) #[] cap, .nilFunc, a, .bool l] 41 (0, 0))) (HH0_1.out))
  have hh0 : w2.heap[w.heap.size]? = some (.cells #[.int .u8 k1, .string nm1, .string tx1, .int .i64 n1, .int .i64 m1] 23 (0, 0)) := (hb.block _ (heap_lt hv0)).trans hv0
  clear hv0
  have hv1 := heap_old (o' := (.cells #[.int .u8 k1, .string nm1, .string tx1, .int .i64 n1, .int .i64 m1, .int .u8 k2, .string nm2, .string tx2, .int .i64 n2, .int .i64 m2] 23 (0, 0))) (heap_old (o' := (.cells #[.func (.func g) #[] cap, .nilFunc, a, .bool l] 41 (0, 0))) (HH1_1.out))
  have hh1 : w2.heap[w.heap.size + 1]? = some (.cells #[.int .u8 k2, .string nm2, .string tx2, .int .i64 n2, .int .i64 m2] 23 (0, 0)) := (hb.block _ (heap_lt hv1)).trans hv1
  clear hv1
  have hh2 : w2.heap[w1.heap.size]? = some (.cells #[.func (.func g) #[] cap, .nilFunc, a, .bool l] 41 (0, 0)) := (hb.block _ (by first | omega | (simp; done) | (simp; omega))).trans (heap_old (o' := (.cells #[.int .u8 k1, .string nm1, .string tx1, .int .i64 n1, .int .i64 m1, .int .u8 k2, .string nm2, .string tx2, .int .i64 n2, .int .i64 m2] 23 (0, 0))) (heap_new _ _ _ (by first | rfl | simp)))
  have hh3 : w2.heap[w1.heap.size + 1]? = some (.cells #[.int .u8 k1, .string nm1, .string tx1, .int .i64 n1, .int .i64 m1, .int .u8 k2, .string nm2, .string tx2, .int .i64 n2, .int .i64 m2] 23 (0, 0)) := (hb.block _ (by first | omega | (simp; done) | (simp; omega))).trans (heap_new _ _ _ (by first | rfl | simp))
  have hbw2 : Below w.heap.size w w2 := (show Below w.heap.size w _ by first | exact HW1.out.trans ⟨rfl, rfl, rfl, Nat.le_refl _, fun _ _ => rfl⟩ | exact HW1.out | (go_grown; done)).trans (hb.mono (by first | omega | (simp; done) | (simp; omega)))
  clear hb lt0 c0_0 c0_1 c0_2 c0_3 c0_4 lt1 c1_0 c1_1 c1_2 c1_3 c1_4 hbw1
  have HH0_2 := Lib.hid hh0
  have lt0 := heap_lt hh0
  have c0_0 : w2.cell? ⟨w.heap.size, 0, none⟩ = some (.int .u8 k1) := by rw [Lib.cell_of_heap hh0]; rfl
  have c0_1 : w2.cell? ⟨w.heap.size, 1, none⟩ = some (.string nm1) := by rw [Lib.cell_of_heap hh0]; rfl
  have c0_2 : w2.cell? ⟨w.heap.size, 2, none⟩ = some (.string tx1) := by rw [Lib.cell_of_heap hh0]; rfl
  have c0_3 : w2.cell? ⟨w.heap.size, 3, none⟩ = some (.int .i64 n1) := by rw [Lib.cell_of_heap hh0]; rfl
  have c0_4 : w2.cell? ⟨w.heap.size, 4, none⟩ = some (.int .i64 m1) := by rw [Lib.cell_of_heap hh0]; rfl
  clear hh0
  have HH1_2 := Lib.hid hh1
  have lt1 := heap_lt hh1
  have c1_0 : w2.cell? ⟨w.heap.size + 1, 0, none⟩ = some (.int .u8 k2) := by rw [Lib.cell_of_heap hh1]; rfl
  have c1_1 : w2.cell? ⟨w.heap.size + 1, 1, none⟩ = some (.string nm2) := by rw [Lib.cell_of_heap hh1]; rfl
  have c1_2 : w2.cell? ⟨w.heap.size + 1, 2, none⟩ = some (.string tx2) := by rw [Lib.cell_of_heap hh1]; rfl
  have c1_3 : w2.cell? ⟨w.heap.size + 1, 3, none⟩ = some (.int .i64 n2) := by rw [Lib.cell_of_heap hh1]; rfl
  have c1_4 : w2.cell? ⟨w.heap.size + 1, 4, none⟩ = some (.int .i64 m2) := by rw [Lib.cell_of_heap hh1]; rfl
  clear hh1
  have HH2_2 := Lib.hid hh2
  have lt2 := heap_lt hh2
  have c2_0 : w2.cell? ⟨w1.heap.size, 0, none⟩ = some (.func (.func g) #[] cap) := by rw [Lib.cell_of_heap hh2]; rfl
  have c2_1 : w2.cell? ⟨w1.heap.size, 1, none⟩ = some (.nilFunc) := by rw [Lib.cell_of_heap hh2]; rfl
  have c2_2 : w2.cell? ⟨w1.heap.size, 2, none⟩ = some (a) := by rw [Lib.cell_of_heap hh2]; rfl
  have c2_3 : w2.cell? ⟨w1.heap.size, 3, none⟩ = some (.bool l) := by rw [Lib.cell_of_heap hh2]; rfl
  clear hh2
  have HH3_2 := Lib.hid hh3
  have lt3 := heap_lt hh3
  have c3_0 : w2.cell? ⟨w1.heap.size + 1, 0, none⟩ = some (.int .u8 k1) := by rw [Lib.cell_of_heap hh3]; rfl
  have c3_1 : w2.cell? ⟨w1.heap.size + 1, 1, none⟩ = some (.string nm1) := by rw [Lib.cell_of_heap hh3]; rfl
  have c3_2 : w2.cell? ⟨w1.heap.size + 1, 2, none⟩ = some (.string tx1) := by rw [Lib.cell_of_heap hh3]; rfl
  have c3_3 : w2.cell? ⟨w1.heap.size + 1, 3, none⟩ = some (.int .i64 n1) := by rw [Lib.cell_of_heap hh3]; rfl
  have c3_4 : w2.cell? ⟨w1.heap.size + 1, 4, none⟩ = some (.int .i64 m1) := by rw [Lib.cell_of_heap hh3]; rfl
  have c3_5 : w2.cell? ⟨w1.heap.size + 1, 5, none⟩ = some (.int .u8 k2) := by rw [Lib.cell_of_heap hh3]; rfl
  have c3_6 : w2.cell? ⟨w1.heap.size + 1, 6, none⟩ = some (.string nm2) := by rw [Lib.cell_of_heap hh3]; rfl
  have c3_7 : w2.cell? ⟨w1.heap.size + 1, 7, none⟩ = some (.string tx2) := by rw [Lib.cell_of_heap hh3]; rfl
  have c3_8 : w2.cell? ⟨w1.heap.size + 1, 8, none⟩ = some (.int .i64 n2) := by rw [Lib.cell_of_heap hh3]; rfl
  have c3_9 : w2.cell? ⟨w1.heap.size + 1, 9, none⟩ = some (.int .i64 m2) := by rw [Lib.cell_of_heap hh3]; rfl
  clear hh3
  have sz2 := hbw2.size
  have HW2 := Lib.hid hbw2
  clear hst0 hst1 hst2 hne
  go_wp2_with fail
  go_ret2
  exact ⟨rfl, by first | exact HW2.out | (go_grown; done)⟩
set_option maxRecDepth 100000 in
set_option maxHeartbeats 4000000 in
theorem scompare_go (k : Int) (k1 : Int) (nm1 tx1 : ByteArray) (n1 m1 : Int) (k2 : Int) (nm2 tx2 : ByteArray) (n2 m2 : Int) (r : Int) (w : World)
    (HO : Hid (∀ W, Below w.heap.size w W → Calls Tryz.prog 15 #[.int .u8 k] W fun e w' => (∃ (g : Nat) (cap : Array Value) (gc : Nat) (a : Value) (l : Bool), e = .returned (.tuple #[.agg #[.func (.func g) #[] cap, .func (.func gc) #[] #[], a, .bool l], .int .i64 0]) ∧ Hid (a.oneCell' = true) ∧ Hid (∀ args w, (callFunc gc args).run Tryz.prog w = .ok (.enter gc args) w) ∧ Hid (DoesU w' 16 #[.agg #[.func (.func g) #[] cap, .func (.func gc) #[] #[], a, .bool l], .agg #[.int .u8 k1, .string nm1, .string tx1, .int .i64 n1, .int .i64 m1]] (.tuple #[.agg #[.int .u8 k1, .string nm1, .string tx1, .int .i64 n1, .int .i64 m1], .bool true])) ∧ Hid (DoesU w' 16 #[.agg #[.func (.func g) #[] cap, .func (.func gc) #[] #[], a, .bool l], .agg #[.int .u8 k2, .string nm2, .string tx2, .int .i64 n2, .int .i64 m2]] (.tuple #[.agg #[.int .u8 k2, .string nm2, .string tx2, .int .i64 n2, .int .i64 m2], .bool true])) ∧ Hid (DoesU w' gc #[.agg #[.int .u8 k1, .string nm1, .string tx1, .int .i64 n1, .int .i64 m1], .agg #[.int .u8 k2, .string nm2, .string tx2, .int .i64 n2, .int .i64 m2]] (.int .i64 r))) ∧ Below W.heap.size W w')) :
    Calls Tryz.prog 10 #[.int .u8 k, .agg #[.int .u8 k1, .string nm1, .string tx1, .int .i64 n1, .int .i64 m1], .agg #[.int .u8 k2, .string nm2, .string tx2, .int .i64 n2, .int .i64 m2]] w fun e w' => e = .returned (.tuple #[.int .i64 r, .int .i64 0]) ∧ Below w.heap.size w w' := by
  go_enter Tryz.func10, Tryz.ntmps10
  go_wp2_with fail
  refine (HO.out _ (by first | exact Below.refl _ _ | (go_grown; done))).mono ?_; rintro e w1 ⟨⟨g, cap, gc, a, l, rfl, HC, HE, HQ1, HQ2, HG⟩, hb⟩
  have hh0 : w1.heap[w.heap.size]? = some (.cells #[.int .u8 k1, .string nm1, .string tx1, .int .i64 n1, .int .i64 m1] 23 (0, 0)) := (hb.block _ (by first | omega | (simp; done) | (simp; omega))).trans (heap_old (o' := (.cells #[.int .u8 k2, .string nm2, .string tx2, .int .i64 n2, .int .i64 m2] 23 (0, 0))) (heap_new _ _ _ (by first | rfl | simp)))
  have hh1 : w1.heap[w.heap.size + 1]? = some (.cells #[.int .u8 k2, .string nm2, .string tx2, .int .i64 n2, .int .i64 m2] 23 (0, 0)) := (hb.block _ (by first | omega | (simp; done) | (simp; omega))).trans (heap_new _ _ _ (by first | rfl | simp))
  have hbw1 : Below w.heap.size w w1 := (show Below w.heap.size w _ by first | exact Below.refl _ _ | (go_grown; done)).trans (hb.mono (by first | omega | (simp; done) | (simp; omega)))
  clear hb
  have HH0_1 := Lib.hid hh0
  have lt0 := heap_lt hh0
  have c0_0 : w1.cell? ⟨w.heap.size, 0, none⟩ = some (.int .u8 k1) := by rw [Lib.cell_of_heap hh0]; rfl
  have c0_1 : w1.cell? ⟨w.heap.size, 1, none⟩ = some (.string nm1) := by rw [Lib.cell_of_heap hh0]; rfl
  have c0_2 : w1.cell? ⟨w.heap.size, 2, none⟩ = some (.string tx1) := by rw [Lib.cell_of_heap hh0]; rfl
  have c0_3 : w1.cell? ⟨w.heap.size, 3, none⟩ = some (.int .i64 n1) := by rw [Lib.cell_of_heap hh0]; rfl
  have c0_4 : w1.cell? ⟨w.heap.size, 4, none⟩ = some (.int .i64 m1) := by rw [Lib.cell_of_heap hh0]; rfl
  clear hh0
  have HH1_1 := Lib.hid hh1
  have lt1 := heap_lt hh1
  have c1_0 : w1.cell? ⟨w.heap.size + 1, 0, none⟩ = some (.int .u8 k2) := by rw [Lib.cell_of_heap hh1]; rfl
  have c1_1 : w1.cell? ⟨w.heap.size + 1, 1, none⟩ = some (.string nm2) := by rw [Lib.cell_of_heap hh1]; rfl
  have c1_2 : w1.cell? ⟨w.heap.size + 1, 2, none⟩ = some (.string tx2) := by rw [Lib.cell_of_heap hh1]; rfl
  have c1_3 : w1.cell? ⟨w.heap.size + 1, 3, none⟩ = some (.int .i64 n2) := by rw [Lib.cell_of_heap hh1]; rfl
  have c1_4 : w1.cell? ⟨w.heap.size + 1, 4, none⟩ = some (.int .i64 m2) := by rw [Lib.cell_of_heap hh1]; rfl
  clear hh1
  have sz1 := hbw1.size
  have HW1 := Lib.hid hbw1
  have hne := fun w => fun_cmp w gc
  have hst0 := (fun W b x hc hz => st_one Tryz.prog (.func (.func g) #[] cap) rfl W b x hc hz)
  have hst1 := (fun W b x hc hz => st_one Tryz.prog (.func (.func gc) #[] #[]) rfl W b x hc hz)
  have hst2 := (fun W b x hc hz => st_one Tryz.prog (a) HC.out W b x hc hz)
  go_wp2_with fail
  refine (asked_2 g cap (.func (.func gc) #[] #[]) (a) l k1 nm1 tx1 n1 m1 k2 nm2 tx2 n2 m2 _ _ (Lib.hid (heap_new _ _ _ (by first | rfl | simp))) (Lib.hid (HQ1.out.below (by first | exact Below.refl _ _ | (go_grown; done)))) (Lib.hid (HQ2.out.below (by first | exact Below.refl _ _ | (go_grown; done))))).mono ?_; rintro e w2 ⟨rfl, hb⟩
  have HBQ := Lib.hid ((show Below w1.heap.size w1 _ by first | exact Below.refl _ _ | (go_grown; done)).trans (hb.mono (by first | omega | (simp; done) | (simp; omega))))
  have hv0 := heap_old (o' := (.cells #[.int .u8 k1, .string nm1, .string tx1, .int .i64 n1, .int .i64 m1, .int .u8 k2, .string nm2, .string tx2, .int .i64 n2, .int .i64 m2] 23 (0, 0))) (heap_old (o' := (.cells #[.func (.func g) #[] cap, .func (.func gc) #[] #[], a, .bool l] 41 (0, 0))) (HH0_1.out))
  have hh0 : w2.heap[w.heap.size]? = some (.cells #[.int .u8 k1, .string nm1, .string tx1, .int .i64 n1, .int .i64 m1] 23 (0, 0)) := (hb.block _ (heap_lt hv0)).trans hv0
  clear hv0
  have hv1 := heap_old (o' := (.cells #[.int .u8 k1, .string nm1, .string tx1, .int .i64 n1, .int .i64 m1, .int .u8 k2, .string nm2, .string tx2, .int .i64 n2, .int .i64 m2] 23 (0, 0))) (heap_old (o' := (.cells #[.func (.func g) #[] cap, .func (.func gc) #[] #[], a, .bool l] 41 (0, 0))) (HH1_1.out))
  have hh1 : w2.heap[w.heap.size + 1]? = some (.cells #[.int .u8 k2, .string nm2, .string tx2, .int .i64 n2, .int .i64 m2] 23 (0, 0)) := (hb.block _ (heap_lt hv1)).trans hv1
  clear hv1
  have hh2 : w2.heap[w1.heap.size]? = some (.cells #[.func (.func g) #[] cap, .func (.func gc) #[] #[], a, .bool l] 41 (0, 0)) := (hb.block _ (by first | omega | (simp; done) | (simp; omega))).trans (heap_old (o' := (.cells #[.int .u8 k1, .string nm1, .string tx1, .int .i64 n1, .int .i64 m1, .int .u8 k2, .string nm2, .string tx2, .int .i64 n2, .int .i64 m2] 23 (0, 0))) (heap_new _ _ _ (by first | rfl | simp)))
  have hh3 : w2.heap[w1.heap.size + 1]? = some (.cells #[.int .u8 k1, .string nm1, .string tx1, .int .i64 n1, .int .i64 m1, .int .u8 k2, .string nm2, .string tx2, .int .i64 n2, .int .i64 m2] 23 (0, 0)) := (hb.block _ (by first | omega | (simp; done) | (simp; omega))).trans (heap_new _ _ _ (by first | rfl | simp))
  have hbw2 : Below w.heap.size w w2 := (show Below w.heap.size w _ by first | exact HW1.out.trans ⟨rfl, rfl, rfl, Nat.le_refl _, fun _ _ => rfl⟩ | exact HW1.out | (go_grown; done)).trans (hb.mono (by first | omega | (simp; done) | (simp; omega)))
  clear hb lt0 c0_0 c0_1 c0_2 c0_3 c0_4 lt1 c1_0 c1_1 c1_2 c1_3 c1_4 hbw1
  have HH0_2 := Lib.hid hh0
  have lt0 := heap_lt hh0
  have c0_0 : w2.cell? ⟨w.heap.size, 0, none⟩ = some (.int .u8 k1) := by rw [Lib.cell_of_heap hh0]; rfl
  have c0_1 : w2.cell? ⟨w.heap.size, 1, none⟩ = some (.string nm1) := by rw [Lib.cell_of_heap hh0]; rfl
  have c0_2 : w2.cell? ⟨w.heap.size, 2, none⟩ = some (.string tx1) := by rw [Lib.cell_of_heap hh0]; rfl
  have c0_3 : w2.cell? ⟨w.heap.size, 3, none⟩ = some (.int .i64 n1) := by rw [Lib.cell_of_heap hh0]; rfl
  have c0_4 : w2.cell? ⟨w.heap.size, 4, none⟩ = some (.int .i64 m1) := by rw [Lib.cell_of_heap hh0]; rfl
  clear hh0
  have HH1_2 := Lib.hid hh1
  have lt1 := heap_lt hh1
  have c1_0 : w2.cell? ⟨w.heap.size + 1, 0, none⟩ = some (.int .u8 k2) := by rw [Lib.cell_of_heap hh1]; rfl
  have c1_1 : w2.cell? ⟨w.heap.size + 1, 1, none⟩ = some (.string nm2) := by rw [Lib.cell_of_heap hh1]; rfl
  have c1_2 : w2.cell? ⟨w.heap.size + 1, 2, none⟩ = some (.string tx2) := by rw [Lib.cell_of_heap hh1]; rfl
  have c1_3 : w2.cell? ⟨w.heap.size + 1, 3, none⟩ = some (.int .i64 n2) := by rw [Lib.cell_of_heap hh1]; rfl
  have c1_4 : w2.cell? ⟨w.heap.size + 1, 4, none⟩ = some (.int .i64 m2) := by rw [Lib.cell_of_heap hh1]; rfl
  clear hh1
  have HH2_2 := Lib.hid hh2
  have lt2 := heap_lt hh2
  have c2_0 : w2.cell? ⟨w1.heap.size, 0, none⟩ = some (.func (.func g) #[] cap) := by rw [Lib.cell_of_heap hh2]; rfl
  have c2_1 : w2.cell? ⟨w1.heap.size, 1, none⟩ = some (.func (.func gc) #[] #[]) := by rw [Lib.cell_of_heap hh2]; rfl
  have c2_2 : w2.cell? ⟨w1.heap.size, 2, none⟩ = some (a) := by rw [Lib.cell_of_heap hh2]; rfl
  have c2_3 : w2.cell? ⟨w1.heap.size, 3, none⟩ = some (.bool l) := by rw [Lib.cell_of_heap hh2]; rfl
  clear hh2
  have HH3_2 := Lib.hid hh3
  have lt3 := heap_lt hh3
  have c3_0 : w2.cell? ⟨w1.heap.size + 1, 0, none⟩ = some (.int .u8 k1) := by rw [Lib.cell_of_heap hh3]; rfl
  have c3_1 : w2.cell? ⟨w1.heap.size + 1, 1, none⟩ = some (.string nm1) := by rw [Lib.cell_of_heap hh3]; rfl
  have c3_2 : w2.cell? ⟨w1.heap.size + 1, 2, none⟩ = some (.string tx1) := by rw [Lib.cell_of_heap hh3]; rfl
  have c3_3 : w2.cell? ⟨w1.heap.size + 1, 3, none⟩ = some (.int .i64 n1) := by rw [Lib.cell_of_heap hh3]; rfl
  have c3_4 : w2.cell? ⟨w1.heap.size + 1, 4, none⟩ = some (.int .i64 m1) := by rw [Lib.cell_of_heap hh3]; rfl
  have c3_5 : w2.cell? ⟨w1.heap.size + 1, 5, none⟩ = some (.int .u8 k2) := by rw [Lib.cell_of_heap hh3]; rfl
  have c3_6 : w2.cell? ⟨w1.heap.size + 1, 6, none⟩ = some (.string nm2) := by rw [Lib.cell_of_heap hh3]; rfl
  have c3_7 : w2.cell? ⟨w1.heap.size + 1, 7, none⟩ = some (.string tx2) := by rw [Lib.cell_of_heap hh3]; rfl
  have c3_8 : w2.cell? ⟨w1.heap.size + 1, 8, none⟩ = some (.int .i64 n2) := by rw [Lib.cell_of_heap hh3]; rfl
  have c3_9 : w2.cell? ⟨w1.heap.size + 1, 9, none⟩ = some (.int .i64 m2) := by rw [Lib.cell_of_heap hh3]; rfl
  clear hh3
  have sz2 := hbw2.size
  have HW2 := Lib.hid hbw2
  clear hst0 hst1 hst2 hne
  have eg := HE.out
  go_wp2_with fail
  refine (HG.out _ (by first | exact HBQ.out | (go_grown; done))).mono ?_; rintro e w3 ⟨rfl, hb⟩
  have hv0 := HH0_2.out
  have hh0 : w3.heap[w.heap.size]? = some (.cells #[.int .u8 k1, .string nm1, .string tx1, .int .i64 n1, .int .i64 m1] 23 (0, 0)) := (hb.block _ (heap_lt hv0)).trans hv0
  clear hv0
  have hv1 := HH1_2.out
  have hh1 : w3.heap[w.heap.size + 1]? = some (.cells #[.int .u8 k2, .string nm2, .string tx2, .int .i64 n2, .int .i64 m2] 23 (0, 0)) := (hb.block _ (heap_lt hv1)).trans hv1
  clear hv1
  have hv2 := HH2_2.out
  have hh2 : w3.heap[w1.heap.size]? = some (.cells #[.func (.func g) #[] cap, .func (.func gc) #[] #[], a, .bool l] 41 (0, 0)) := (hb.block _ (heap_lt hv2)).trans hv2
  clear hv2
  have hv3 := HH3_2.out
  have hh3 : w3.heap[w1.heap.size + 1]? = some (.cells #[.int .u8 k1, .string nm1, .string tx1, .int .i64 n1, .int .i64 m1, .int .u8 k2, .string nm2, .string tx2, .int .i64 n2, .int .i64 m2] 23 (0, 0)) := (hb.block _ (heap_lt hv3)).trans hv3
  clear hv3
  have hbw3 : Below w.heap.size w w3 := (show Below w.heap.size w _ by first | exact HW2.out.trans ⟨rfl, rfl, rfl, Nat.le_refl _, fun _ _ => rfl⟩ | exact HW2.out | (go_grown; done)).trans (hb.mono (by first | omega | (simp; done) | (simp; omega)))
  clear hb lt0 c0_0 c0_1 c0_2 c0_3 c0_4 lt1 c1_0 c1_1 c1_2 c1_3 c1_4 lt2 c2_0 c2_1 c2_2 c2_3 lt3 c3_0 c3_1 c3_2 c3_3 c3_4 c3_5 c3_6 c3_7 c3_8 c3_9 hbw2
  have HH0_3 := Lib.hid hh0
  have lt0 := heap_lt hh0
  have c0_0 : w3.cell? ⟨w.heap.size, 0, none⟩ = some (.int .u8 k1) := by rw [Lib.cell_of_heap hh0]; rfl
  have c0_1 : w3.cell? ⟨w.heap.size, 1, none⟩ = some (.string nm1) := by rw [Lib.cell_of_heap hh0]; rfl
  have c0_2 : w3.cell? ⟨w.heap.size, 2, none⟩ = some (.string tx1) := by rw [Lib.cell_of_heap hh0]; rfl
  have c0_3 : w3.cell? ⟨w.heap.size, 3, none⟩ = some (.int .i64 n1) := by rw [Lib.cell_of_heap hh0]; rfl
  have c0_4 : w3.cell? ⟨w.heap.size, 4, none⟩ = some (.int .i64 m1) := by rw [Lib.cell_of_heap hh0]; rfl
  clear hh0
  have HH1_3 := Lib.hid hh1
  have lt1 := heap_lt hh1
  have c1_0 : w3.cell? ⟨w.heap.size + 1, 0, none⟩ = some (.int .u8 k2) := by rw [Lib.cell_of_heap hh1]; rfl
  have c1_1 : w3.cell? ⟨w.heap.size + 1, 1, none⟩ = some (.string nm2) := by rw [Lib.cell_of_heap hh1]; rfl
  have c1_2 : w3.cell? ⟨w.heap.size + 1, 2, none⟩ = some (.string tx2) := by rw [Lib.cell_of_heap hh1]; rfl
  have c1_3 : w3.cell? ⟨w.heap.size + 1, 3, none⟩ = some (.int .i64 n2) := by rw [Lib.cell_of_heap hh1]; rfl
  have c1_4 : w3.cell? ⟨w.heap.size + 1, 4, none⟩ = some (.int .i64 m2) := by rw [Lib.cell_of_heap hh1]; rfl
  clear hh1
  have HH2_3 := Lib.hid hh2
  have lt2 := heap_lt hh2
  have c2_0 : w3.cell? ⟨w1.heap.size, 0, none⟩ = some (.func (.func g) #[] cap) := by rw [Lib.cell_of_heap hh2]; rfl
  have c2_1 : w3.cell? ⟨w1.heap.size, 1, none⟩ = some (.func (.func gc) #[] #[]) := by rw [Lib.cell_of_heap hh2]; rfl
  have c2_2 : w3.cell? ⟨w1.heap.size, 2, none⟩ = some (a) := by rw [Lib.cell_of_heap hh2]; rfl
  have c2_3 : w3.cell? ⟨w1.heap.size, 3, none⟩ = some (.bool l) := by rw [Lib.cell_of_heap hh2]; rfl
  clear hh2
  have HH3_3 := Lib.hid hh3
  have lt3 := heap_lt hh3
  have c3_0 : w3.cell? ⟨w1.heap.size + 1, 0, none⟩ = some (.int .u8 k1) := by rw [Lib.cell_of_heap hh3]; rfl
  have c3_1 : w3.cell? ⟨w1.heap.size + 1, 1, none⟩ = some (.string nm1) := by rw [Lib.cell_of_heap hh3]; rfl
  have c3_2 : w3.cell? ⟨w1.heap.size + 1, 2, none⟩ = some (.string tx1) := by rw [Lib.cell_of_heap hh3]; rfl
  have c3_3 : w3.cell? ⟨w1.heap.size + 1, 3, none⟩ = some (.int .i64 n1) := by rw [Lib.cell_of_heap hh3]; rfl
  have c3_4 : w3.cell? ⟨w1.heap.size + 1, 4, none⟩ = some (.int .i64 m1) := by rw [Lib.cell_of_heap hh3]; rfl
  have c3_5 : w3.cell? ⟨w1.heap.size + 1, 5, none⟩ = some (.int .u8 k2) := by rw [Lib.cell_of_heap hh3]; rfl
  have c3_6 : w3.cell? ⟨w1.heap.size + 1, 6, none⟩ = some (.string nm2) := by rw [Lib.cell_of_heap hh3]; rfl
  have c3_7 : w3.cell? ⟨w1.heap.size + 1, 7, none⟩ = some (.string tx2) := by rw [Lib.cell_of_heap hh3]; rfl
  have c3_8 : w3.cell? ⟨w1.heap.size + 1, 8, none⟩ = some (.int .i64 n2) := by rw [Lib.cell_of_heap hh3]; rfl
  have c3_9 : w3.cell? ⟨w1.heap.size + 1, 9, none⟩ = some (.int .i64 m2) := by rw [Lib.cell_of_heap hh3]; rfl
  clear hh3
  have sz3 := hbw3.size
  have HW3 := Lib.hid hbw3
  clear eg
  go_wp2_with fail
  go_ret2
  exact ⟨rfl, by first | exact HW3.out | (go_grown; done)⟩
set_option maxRecDepth 100000 in
set_option maxHeartbeats 4000000 in
theorem sadd_none (k : Int) (k1 : Int) (nm1 tx1 : ByteArray) (n1 m1 : Int) (k2 : Int) (nm2 tx2 : ByteArray) (n2 m2 : Int) (w : World)
    (HO : Hid (∀ W, Below w.heap.size w W → Calls Tryz.prog 15 #[.int .u8 k] W fun e w' => (∃ (g : Nat) (cap : Array Value) (c : Value) (l : Bool), e = .returned (.tuple #[.agg #[.func (.func g) #[] cap, c, .nilFunc, .bool l], .int .i64 0]) ∧ Hid (c.oneCell' = true)) ∧ Below W.heap.size W w')) :
    Calls Tryz.prog 11 #[.int .u8 k, .agg #[.int .u8 k1, .string nm1, .string tx1, .int .i64 n1, .int .i64 m1], .agg #[.int .u8 k2, .string nm2, .string tx2, .int .i64 n2, .int .i64 m2]] w fun e w' => e = .returned (.tuple #[.agg #[.int .u8 0, .string ⟨#[]⟩, .string ⟨#[]⟩, .int .i64 0, .int .i64 0], .int .i64 6]) ∧ Below w.heap.size w w' := by
  go_enter Tryz.func11, Tryz.ntmps11
  go_wp2_with fail
  refine (HO.out _ (by first | exact Below.refl _ _ | (go_grown; done))).mono ?_; rintro e w1 ⟨⟨g, cap, c, l, rfl, HC⟩, hb⟩
  have hh0 : w1.heap[w.heap.size]? = some (.cells #[.int .u8 k1, .string nm1, .string tx1, .int .i64 n1, .int .i64 m1] 23 (0, 0)) := (hb.block _ (by first | omega | (simp; done) | (simp; omega))).trans (heap_old (o' := (.cells #[.int .u8 0, .string ⟨#[]⟩, .string ⟨#[]⟩, .int .i64 0, .int .i64 0] 23 (0, 0))) (heap_old (o' := (.cells #[.int .u8 k2, .string nm2, .string tx2, .int .i64 n2, .int .i64 m2] 23 (0, 0))) (heap_new _ _ _ (by first | rfl | simp))))
  have hh1 : w1.heap[w.heap.size + 1]? = some (.cells #[.int .u8 k2, .string nm2, .string tx2, .int .i64 n2, .int .i64 m2] 23 (0, 0)) := (hb.block _ (by first | omega | (simp; done) | (simp; omega))).trans (heap_old (o' := (.cells #[.int .u8 0, .string ⟨#[]⟩, .string ⟨#[]⟩, .int .i64 0, .int .i64 0] 23 (0, 0))) (heap_new _ _ _ (by first | rfl | simp)))
  have hh2 : w1.heap[w.heap.size + 1 + 1]? = some (.cells #[.int .u8 0, .string ⟨#[]⟩, .string ⟨#[]⟩, .int .i64 0, .int .i64 0] 23 (0, 0)) := (hb.block _ (by first | omega | (simp; done) | (simp; omega))).trans (heap_new _ _ _ (by first | rfl | simp))
  have hbw1 : Below w.heap.size w w1 := (show Below w.heap.size w _ by first | exact Below.refl _ _ | (go_grown; done)).trans (hb.mono (by first | omega | (simp; done) | (simp; omega)))
  clear hb
  have HH0_1 := Lib.hid hh0
  have lt0 := heap_lt hh0
  have c0_0 : w1.cell? ⟨w.heap.size, 0, none⟩ = some (.int .u8 k1) := by rw [Lib.cell_of_heap hh0]; rfl
  have c0_1 : w1.cell? ⟨w.heap.size, 1, none⟩ = some (.string nm1) := by rw [Lib.cell_of_heap hh0]; rfl
  have c0_2 : w1.cell? ⟨w.heap.size, 2, none⟩ = some (.string tx1) := by rw [Lib.cell_of_heap hh0]; rfl
  have c0_3 : w1.cell? ⟨w.heap.size, 3, none⟩ = some (.int .i64 n1) := by rw [Lib.cell_of_heap hh0]; rfl
  have c0_4 : w1.cell? ⟨w.heap.size, 4, none⟩ = some (.int .i64 m1) := by rw [Lib.cell_of_heap hh0]; rfl
  clear hh0
  have HH1_1 := Lib.hid hh1
  have lt1 := heap_lt hh1
  have c1_0 : w1.cell? ⟨w.heap.size + 1, 0, none⟩ = some (.int .u8 k2) := by rw [Lib.cell_of_heap hh1]; rfl
  have c1_1 : w1.cell? ⟨w.heap.size + 1, 1, none⟩ = some (.string nm2) := by rw [Lib.cell_of_heap hh1]; rfl
  have c1_2 : w1.cell? ⟨w.heap.size + 1, 2, none⟩ = some (.string tx2) := by rw [Lib.cell_of_heap hh1]; rfl
  have c1_3 : w1.cell? ⟨w.heap.size + 1, 3, none⟩ = some (.int .i64 n2) := by rw [Lib.cell_of_heap hh1]; rfl
  have c1_4 : w1.cell? ⟨w.heap.size + 1, 4, none⟩ = some (.int .i64 m2) := by rw [Lib.cell_of_heap hh1]; rfl
  clear hh1
  have HH2_1 := Lib.hid hh2
  have lt2 := heap_lt hh2
  have c2_0 : w1.cell? ⟨w.heap.size + 1 + 1, 0, none⟩ = some (.int .u8 0) := by rw [Lib.cell_of_heap hh2]; rfl
  have f2_0 : w1.frozen? ⟨w.heap.size + 1 + 1, 0, none⟩ = false := Lib.frozen_of_heap hh2 0
  have c2_1 : w1.cell? ⟨w.heap.size + 1 + 1, 1, none⟩ = some (.string ⟨#[]⟩) := by rw [Lib.cell_of_heap hh2]; rfl
  have f2_1 : w1.frozen? ⟨w.heap.size + 1 + 1, 1, none⟩ = false := Lib.frozen_of_heap hh2 1
  have c2_2 : w1.cell? ⟨w.heap.size + 1 + 1, 2, none⟩ = some (.string ⟨#[]⟩) := by rw [Lib.cell_of_heap hh2]; rfl
  have f2_2 : w1.frozen? ⟨w.heap.size + 1 + 1, 2, none⟩ = false := Lib.frozen_of_heap hh2 2
  have c2_3 : w1.cell? ⟨w.heap.size + 1 + 1, 3, none⟩ = some (.int .i64 0) := by rw [Lib.cell_of_heap hh2]; rfl
  have f2_3 : w1.frozen? ⟨w.heap.size + 1 + 1, 3, none⟩ = false := Lib.frozen_of_heap hh2 3
  have c2_4 : w1.cell? ⟨w.heap.size + 1 + 1, 4, none⟩ = some (.int .i64 0) := by rw [Lib.cell_of_heap hh2]; rfl
  have f2_4 : w1.frozen? ⟨w.heap.size + 1 + 1, 4, none⟩ = false := Lib.frozen_of_heap hh2 4
  clear hh2
  have sz1 := hbw1.size
  have HW1 := Lib.hid hbw1
  have hne := nil_add
  have hst0 := (fun W b x hc hz => st_one Tryz.prog (.func (.func g) #[] cap) rfl W b x hc hz)
  have hst1 := (fun W b x hc hz => st_one Tryz.prog (c) HC.out W b x hc hz)
  have hst2 := (fun W b x hc hz => st_one Tryz.prog (.nilFunc) rfl W b x hc hz)
  go_wp2_with fail
  refine (asked_no (.func (.func g) #[] cap) (c) (.nilFunc) l _ _ _ _).mono ?_; rintro e w2 ⟨rfl, hb⟩
  have hv0 := heap_old (o' := (.cells #[.int .u8 k1, .string nm1, .string tx1, .int .i64 n1, .int .i64 m1, .int .u8 k2, .string nm2, .string tx2, .int .i64 n2, .int .i64 m2] 23 (0, 0))) (heap_old (o' := (.cells #[.func (.func g) #[] cap, c, .nilFunc, .bool l] 41 (0, 0))) (HH0_1.out))
  have hh0 : w2.heap[w.heap.size]? = some (.cells #[.int .u8 k1, .string nm1, .string tx1, .int .i64 n1, .int .i64 m1] 23 (0, 0)) := (hb.block _ (heap_lt hv0)).trans hv0
  clear hv0
  have hv1 := heap_old (o' := (.cells #[.int .u8 k1, .string nm1, .string tx1, .int .i64 n1, .int .i64 m1, .int .u8 k2, .string nm2, .string tx2, .int .i64 n2, .int .i64 m2] 23 (0, 0))) (heap_old (o' := (.cells #[.func (.func g) #[] cap, c, .nilFunc, .bool l] 41 (0, 0))) (HH1_1.out))
  have hh1 : w2.heap[w.heap.size + 1]? = some (.cells #[.int .u8 k2, .string nm2, .string tx2, .int .i64 n2, .int .i64 m2] 23 (0, 0)) := (hb.block _ (heap_lt hv1)).trans hv1
  clear hv1
  have hv2 := heap_old (o' := (.cells #[.int .u8 k1, .string nm1, .string tx1, .int .i64 n1, .int .i64 m1, .int .u8 k2, .string nm2, .string tx2, .int .i64 n2, .int .i64 m2] 23 (0, 0))) (heap_old (o' := (.cells #[.func (.func g) #[] cap, c, .nilFunc, .bool l] 41 (0, 0))) (HH2_1.out))
  have hh2 : w2.heap[w.heap.size + 1 + 1]? = some (.cells #[.int .u8 0, .string ⟨#[]⟩, .string ⟨#[]⟩, .int .i64 0, .int .i64 0] 23 (0, 0)) := (hb.block _ (heap_lt hv2)).trans hv2
  clear hv2
  have hh3 : w2.heap[w1.heap.size]? = some (.cells #[.func (.func g) #[] cap, c, .nilFunc, .bool l] 41 (0, 0)) := (hb.block _ (by first | omega | (simp; done) | (simp; omega))).trans (heap_old (o' := (.cells #[.int .u8 k1, .string nm1, .string tx1, .int .i64 n1, .int .i64 m1, .int .u8 k2, .string nm2, .string tx2, .int .i64 n2, .int .i64 m2] 23 (0, 0))) (heap_new _ _ _ (by first | rfl | simp)))
  have hh4 : w2.heap[w1.heap.size + 1]? = some (.cells #[.int .u8 k1, .string nm1, .string tx1, .int .i64 n1, .int .i64 m1, .int .u8 k2, .string nm2, .string tx2, .int .i64 n2, .int .i64 m2] 23 (0, 0)) := (hb.block _ (by first | omega | (simp; done) | (simp; omega))).trans (heap_new _ _ _ (by first | rfl | simp))
  have hbw2 : Below w.heap.size w w2 := (show Below w.heap.size w _ by first | exact HW1.out.trans ⟨rfl, rfl, rfl, Nat.le_refl _, fun _ _ => rfl⟩ | exact HW1.out | (go_grown; done)).trans (hb.mono (by first | omega | (simp; done) | (simp; omega)))
  clear hb lt0 c0_0 c0_1 c0_2 c0_3 c0_4 lt1 c1_0 c1_1 c1_2 c1_3 c1_4 lt2 c2_0 f2_0 c2_1 f2_1 c2_2 f2_2 c2_3 f2_3 c2_4 f2_4 hbw1
  have HH0_2 := Lib.hid hh0
  have lt0 := heap_lt hh0
  have c0_0 : w2.cell? ⟨w.heap.size, 0, none⟩ = some (.int .u8 k1) := by rw [Lib.cell_of_heap hh0]; rfl
  have c0_1 : w2.cell? ⟨w.heap.size, 1, none⟩ = some (.string nm1) := by rw [Lib.cell_of_heap hh0]; rfl
  have c0_2 : w2.cell? ⟨w.heap.size, 2, none⟩ = some (.string tx1) := by rw [Lib.cell_of_heap hh0]; rfl
  have c0_3 : w2.cell? ⟨w.heap.size, 3, none⟩ = some (.int .i64 n1) := by rw [Lib.cell_of_heap hh0]; rfl
  have c0_4 : w2.cell? ⟨w.heap.size, 4, none⟩ = some (.int .i64 m1) := by rw [Lib.cell_of_heap hh0]; rfl
  clear hh0
  have HH1_2 := Lib.hid hh1
  have lt1 := heap_lt hh1
  have c1_0 : w2.cell? ⟨w.heap.size + 1, 0, none⟩ = some (.int .u8 k2) := by rw [Lib.cell_of_heap hh1]; rfl
  have c1_1 : w2.cell? ⟨w.heap.size + 1, 1, none⟩ = some (.string nm2) := by rw [Lib.cell_of_heap hh1]; rfl
  have c1_2 : w2.cell? ⟨w.heap.size + 1, 2, none⟩ = some (.string tx2) := by rw [Lib.cell_of_heap hh1]; rfl
  have c1_3 : w2.cell? ⟨w.heap.size + 1, 3, none⟩ = some (.int .i64 n2) := by rw [Lib.cell_of_heap hh1]; rfl
  have c1_4 : w2.cell? ⟨w.heap.size + 1, 4, none⟩ = some (.int .i64 m2) := by rw [Lib.cell_of_heap hh1]; rfl
  clear hh1
  have HH2_2 := Lib.hid hh2
  have lt2 := heap_lt hh2
  have c2_0 : w2.cell? ⟨w.heap.size + 1 + 1, 0, none⟩ = some (.int .u8 0) := by rw [Lib.cell_of_heap hh2]; rfl
  have f2_0 : w2.frozen? ⟨w.heap.size + 1 + 1, 0, none⟩ = false := Lib.frozen_of_heap hh2 0
  have c2_1 : w2.cell? ⟨w.heap.size + 1 + 1, 1, none⟩ = some (.string ⟨#[]⟩) := by rw [Lib.cell_of_heap hh2]; rfl
  have f2_1 : w2.frozen? ⟨w.heap.size + 1 + 1, 1, none⟩ = false := Lib.frozen_of_heap hh2 1
  have c2_2 : w2.cell? ⟨w.heap.size + 1 + 1, 2, none⟩ = some (.string ⟨#[]⟩) := by rw [Lib.cell_of_heap hh2]; rfl
  have f2_2 : w2.frozen? ⟨w.heap.size + 1 + 1, 2, none⟩ = false := Lib.frozen_of_heap hh2 2
  have c2_3 : w2.cell? ⟨w.heap.size + 1 + 1, 3, none⟩ = some (.int .i64 0) := by rw [Lib.cell_of_heap hh2]; rfl
  have f2_3 : w2.frozen? ⟨w.heap.size + 1 + 1, 3, none⟩ = false := Lib.frozen_of_heap hh2 3
  have c2_4 : w2.cell? ⟨w.heap.size + 1 + 1, 4, none⟩ = some (.int .i64 0) := by rw [Lib.cell_of_heap hh2]; rfl
  have f2_4 : w2.frozen? ⟨w.heap.size + 1 + 1, 4, none⟩ = false := Lib.frozen_of_heap hh2 4
  clear hh2
  have HH3_2 := Lib.hid hh3
  have lt3 := heap_lt hh3
  have c3_0 : w2.cell? ⟨w1.heap.size, 0, none⟩ = some (.func (.func g) #[] cap) := by rw [Lib.cell_of_heap hh3]; rfl
  have c3_1 : w2.cell? ⟨w1.heap.size, 1, none⟩ = some (c) := by rw [Lib.cell_of_heap hh3]; rfl
  have c3_2 : w2.cell? ⟨w1.heap.size, 2, none⟩ = some (.nilFunc) := by rw [Lib.cell_of_heap hh3]; rfl
  have c3_3 : w2.cell? ⟨w1.heap.size, 3, none⟩ = some (.bool l) := by rw [Lib.cell_of_heap hh3]; rfl
  clear hh3
  have HH4_2 := Lib.hid hh4
  have lt4 := heap_lt hh4
  have c4_0 : w2.cell? ⟨w1.heap.size + 1, 0, none⟩ = some (.int .u8 k1) := by rw [Lib.cell_of_heap hh4]; rfl
  have c4_1 : w2.cell? ⟨w1.heap.size + 1, 1, none⟩ = some (.string nm1) := by rw [Lib.cell_of_heap hh4]; rfl
  have c4_2 : w2.cell? ⟨w1.heap.size + 1, 2, none⟩ = some (.string tx1) := by rw [Lib.cell_of_heap hh4]; rfl
  have c4_3 : w2.cell? ⟨w1.heap.size + 1, 3, none⟩ = some (.int .i64 n1) := by rw [Lib.cell_of_heap hh4]; rfl
  have c4_4 : w2.cell? ⟨w1.heap.size + 1, 4, none⟩ = some (.int .i64 m1) := by rw [Lib.cell_of_heap hh4]; rfl
  have c4_5 : w2.cell? ⟨w1.heap.size + 1, 5, none⟩ = some (.int .u8 k2) := by rw [Lib.cell_of_heap hh4]; rfl
  have c4_6 : w2.cell? ⟨w1.heap.size + 1, 6, none⟩ = some (.string nm2) := by rw [Lib.cell_of_heap hh4]; rfl
  have c4_7 : w2.cell? ⟨w1.heap.size + 1, 7, none⟩ = some (.string tx2) := by rw [Lib.cell_of_heap hh4]; rfl
  have c4_8 : w2.cell? ⟨w1.heap.size + 1, 8, none⟩ = some (.int .i64 n2) := by rw [Lib.cell_of_heap hh4]; rfl
  have c4_9 : w2.cell? ⟨w1.heap.size + 1, 9, none⟩ = some (.int .i64 m2) := by rw [Lib.cell_of_heap hh4]; rfl
  clear hh4
  have sz2 := hbw2.size
  have HW2 := Lib.hid hbw2
  clear hst0 hst1 hst2 hne
  go_wp2_with fail
  refine bodyPost_ret (v := .tuple #[.agg #[.int .u8 0, .string ⟨#[]⟩, .string ⟨#[]⟩, .int .i64 0, .int .i64 0], .int .i64 6]) (by simp [results, Tryz.results11, go_sem, c2_0, f2_0, c2_1, f2_1, c2_2, f2_2, c2_3, f2_3, c2_4, f2_4]; try rfl) rfl ?_
  refine ⟨rfl, ?_⟩
  repeat' (first | with_reducible exact HW2.out | with_reducible refine Below.setCell ?_ ?_ _ | with_reducible refine Below.alloc ?_ ?_ _)
  all_goals (first | exact Nat.le_refl _ | (dsimp only; omega) | omega | (simp; done) | (simp; omega))
set_option maxRecDepth 100000 in
set_option maxHeartbeats 4000000 in
theorem sadd_go (k : Int) (k1 : Int) (nm1 tx1 : ByteArray) (n1 m1 : Int) (k2 : Int) (nm2 tx2 : ByteArray) (n2 m2 : Int) (rk : Int) (rn rt : ByteArray) (ri rm : Int) (w : World)
    (HO : Hid (∀ W, Below w.heap.size w W → Calls Tryz.prog 15 #[.int .u8 k] W fun e w' => (∃ (g : Nat) (cap : Array Value) (c : Value) (ga : Nat) (l : Bool), e = .returned (.tuple #[.agg #[.func (.func g) #[] cap, c, .func (.func ga) #[] #[], .bool l], .int .i64 0]) ∧ Hid (c.oneCell' = true) ∧ Hid (∀ args w, (callFunc ga args).run Tryz.prog w = .ok (.enter ga args) w) ∧ Hid (DoesU w' 16 #[.agg #[.func (.func g) #[] cap, c, .func (.func ga) #[] #[], .bool l], .agg #[.int .u8 k1, .string nm1, .string tx1, .int .i64 n1, .int .i64 m1]] (.tuple #[.agg #[.int .u8 k1, .string nm1, .string tx1, .int .i64 n1, .int .i64 m1], .bool true])) ∧ Hid (DoesU w' 16 #[.agg #[.func (.func g) #[] cap, c, .func (.func ga) #[] #[], .bool l], .agg #[.int .u8 k2, .string nm2, .string tx2, .int .i64 n2, .int .i64 m2]] (.tuple #[.agg #[.int .u8 k2, .string nm2, .string tx2, .int .i64 n2, .int .i64 m2], .bool true])) ∧ Hid (DoesU w' ga #[.agg #[.int .u8 k1, .string nm1, .string tx1, .int .i64 n1, .int .i64 m1], .agg #[.int .u8 k2, .string nm2, .string tx2, .int .i64 n2, .int .i64 m2]] (.tuple #[.agg #[.int .u8 rk, .string rn, .string rt, .int .i64 ri, .int .i64 rm], .bool true]))) ∧ Below W.heap.size W w')) :
    Calls Tryz.prog 11 #[.int .u8 k, .agg #[.int .u8 k1, .string nm1, .string tx1, .int .i64 n1, .int .i64 m1], .agg #[.int .u8 k2, .string nm2, .string tx2, .int .i64 n2, .int .i64 m2]] w fun e w' => e = .returned (.tuple #[.agg #[.int .u8 rk, .string rn, .string rt, .int .i64 ri, .int .i64 rm], .int .i64 0]) ∧ Below w.heap.size w w' := by
  go_enter Tryz.func11, Tryz.ntmps11
  go_wp2_with fail
  refine (HO.out _ (by first | exact Below.refl _ _ | (go_grown; done))).mono ?_; rintro e w1 ⟨⟨g, cap, c, ga, l, rfl, HC, HE, HQ1, HQ2, HG⟩, hb⟩
  have hh0 : w1.heap[w.heap.size]? = some (.cells #[.int .u8 k1, .string nm1, .string tx1, .int .i64 n1, .int .i64 m1] 23 (0, 0)) := (hb.block _ (by first | omega | (simp; done) | (simp; omega))).trans (heap_old (o' := (.cells #[.int .u8 0, .string ⟨#[]⟩, .string ⟨#[]⟩, .int .i64 0, .int .i64 0] 23 (0, 0))) (heap_old (o' := (.cells #[.int .u8 k2, .string nm2, .string tx2, .int .i64 n2, .int .i64 m2] 23 (0, 0))) (heap_new _ _ _ (by first | rfl | simp))))
  have hh1 : w1.heap[w.heap.size + 1]? = some (.cells #[.int .u8 k2, .string nm2, .string tx2, .int .i64 n2, .int .i64 m2] 23 (0, 0)) := (hb.block _ (by first | omega | (simp; done) | (simp; omega))).trans (heap_old (o' := (.cells #[.int .u8 0, .string ⟨#[]⟩, .string ⟨#[]⟩, .int .i64 0, .int .i64 0] 23 (0, 0))) (heap_new _ _ _ (by first | rfl | simp)))
  have hh2 : w1.heap[w.heap.size + 1 + 1]? = some (.cells #[.int .u8 0, .string ⟨#[]⟩, .string ⟨#[]⟩, .int .i64 0, .int .i64 0] 23 (0, 0)) := (hb.block _ (by first | omega | (simp; done) | (simp; omega))).trans (heap_new _ _ _ (by first | rfl | simp))
  have hbw1 : Below w.heap.size w w1 := (show Below w.heap.size w _ by first | exact Below.refl _ _ | (go_grown; done)).trans (hb.mono (by first | omega | (simp; done) | (simp; omega)))
  clear hb
  have HH0_1 := Lib.hid hh0
  have lt0 := heap_lt hh0
  have c0_0 : w1.cell? ⟨w.heap.size, 0, none⟩ = some (.int .u8 k1) := by rw [Lib.cell_of_heap hh0]; rfl
  have c0_1 : w1.cell? ⟨w.heap.size, 1, none⟩ = some (.string nm1) := by rw [Lib.cell_of_heap hh0]; rfl
  have c0_2 : w1.cell? ⟨w.heap.size, 2, none⟩ = some (.string tx1) := by rw [Lib.cell_of_heap hh0]; rfl
  have c0_3 : w1.cell? ⟨w.heap.size, 3, none⟩ = some (.int .i64 n1) := by rw [Lib.cell_of_heap hh0]; rfl
  have c0_4 : w1.cell? ⟨w.heap.size, 4, none⟩ = some (.int .i64 m1) := by rw [Lib.cell_of_heap hh0]; rfl
  clear hh0
  have HH1_1 := Lib.hid hh1
  have lt1 := heap_lt hh1
  have c1_0 : w1.cell? ⟨w.heap.size + 1, 0, none⟩ = some (.int .u8 k2) := by rw [Lib.cell_of_heap hh1]; rfl
  have c1_1 : w1.cell? ⟨w.heap.size + 1, 1, none⟩ = some (.string nm2) := by rw [Lib.cell_of_heap hh1]; rfl
  have c1_2 : w1.cell? ⟨w.heap.size + 1, 2, none⟩ = some (.string tx2) := by rw [Lib.cell_of_heap hh1]; rfl
  have c1_3 : w1.cell? ⟨w.heap.size + 1, 3, none⟩ = some (.int .i64 n2) := by rw [Lib.cell_of_heap hh1]; rfl
  have c1_4 : w1.cell? ⟨w.heap.size + 1, 4, none⟩ = some (.int .i64 m2) := by rw [Lib.cell_of_heap hh1]; rfl
  clear hh1
  have HH2_1 := Lib.hid hh2
  have lt2 := heap_lt hh2
  have c2_0 : w1.cell? ⟨w.heap.size + 1 + 1, 0, none⟩ = some (.int .u8 0) := by rw [Lib.cell_of_heap hh2]; rfl
  have f2_0 : w1.frozen? ⟨w.heap.size + 1 + 1, 0, none⟩ = false := Lib.frozen_of_heap hh2 0
  have c2_1 : w1.cell? ⟨w.heap.size + 1 + 1, 1, none⟩ = some (.string ⟨#[]⟩) := by rw [Lib.cell_of_heap hh2]; rfl
  have f2_1 : w1.frozen? ⟨w.heap.size + 1 + 1, 1, none⟩ = false := Lib.frozen_of_heap hh2 1
  have c2_2 : w1.cell? ⟨w.heap.size + 1 + 1, 2, none⟩ = some (.string ⟨#[]⟩) := by rw [Lib.cell_of_heap hh2]; rfl
  have f2_2 : w1.frozen? ⟨w.heap.size + 1 + 1, 2, none⟩ = false := Lib.frozen_of_heap hh2 2
  have c2_3 : w1.cell? ⟨w.heap.size + 1 + 1, 3, none⟩ = some (.int .i64 0) := by rw [Lib.cell_of_heap hh2]; rfl
  have f2_3 : w1.frozen? ⟨w.heap.size + 1 + 1, 3, none⟩ = false := Lib.frozen_of_heap hh2 3
  have c2_4 : w1.cell? ⟨w.heap.size + 1 + 1, 4, none⟩ = some (.int .i64 0) := by rw [Lib.cell_of_heap hh2]; rfl
  have f2_4 : w1.frozen? ⟨w.heap.size + 1 + 1, 4, none⟩ = false := Lib.frozen_of_heap hh2 4
  clear hh2
  have sz1 := hbw1.size
  have HW1 := Lib.hid hbw1
  have hne := fun w => fun_add w ga
  have hst0 := (fun W b x hc hz => st_one Tryz.prog (.func (.func g) #[] cap) rfl W b x hc hz)
  have hst1 := (fun W b x hc hz => st_one Tryz.prog (c) HC.out W b x hc hz)
  have hst2 := (fun W b x hc hz => st_one Tryz.prog (.func (.func ga) #[] #[]) rfl W b x hc hz)
  go_wp2_with fail
  refine (asked_2 g cap (c) (.func (.func ga) #[] #[]) l k1 nm1 tx1 n1 m1 k2 nm2 tx2 n2 m2 _ _ (Lib.hid (heap_new _ _ _ (by first | rfl | simp))) (Lib.hid (HQ1.out.below (by first | exact Below.refl _ _ | (go_grown; done)))) (Lib.hid (HQ2.out.below (by first | exact Below.refl _ _ | (go_grown; done))))).mono ?_; rintro e w2 ⟨rfl, hb⟩
  have HBQ := Lib.hid ((show Below w1.heap.size w1 _ by first | exact Below.refl _ _ | (go_grown; done)).trans (hb.mono (by first | omega | (simp; done) | (simp; omega))))
  have hv0 := heap_old (o' := (.cells #[.int .u8 k1, .string nm1, .string tx1, .int .i64 n1, .int .i64 m1, .int .u8 k2, .string nm2, .string tx2, .int .i64 n2, .int .i64 m2] 23 (0, 0))) (heap_old (o' := (.cells #[.func (.func g) #[] cap, c, .func (.func ga) #[] #[], .bool l] 41 (0, 0))) (HH0_1.out))
  have hh0 : w2.heap[w.heap.size]? = some (.cells #[.int .u8 k1, .string nm1, .string tx1, .int .i64 n1, .int .i64 m1] 23 (0, 0)) := (hb.block _ (heap_lt hv0)).trans hv0
  clear hv0
  have hv1 := heap_old (o' := (.cells #[.int .u8 k1, .string nm1, .string tx1, .int .i64 n1, .int .i64 m1, .int .u8 k2, .string nm2, .string tx2, .int .i64 n2, .int .i64 m2] 23 (0, 0))) (heap_old (o' := (.cells #[.func (.func g) #[] cap, c, .func (.func ga) #[] #[], .bool l] 41 (0, 0))) (HH1_1.out))
  have hh1 : w2.heap[w.heap.size + 1]? = some (.cells #[.int .u8 k2, .string nm2, .string tx2, .int .i64 n2, .int .i64 m2] 23 (0, 0)) := (hb.block _ (heap_lt hv1)).trans hv1
  clear hv1
  have hv2 := heap_old (o' := (.cells #[.int .u8 k1, .string nm1, .string tx1, .int .i64 n1, .int .i64 m1, .int .u8 k2, .string nm2, .string tx2, .int .i64 n2, .int .i64 m2] 23 (0, 0))) (heap_old (o' := (.cells #[.func (.func g) #[] cap, c, .func (.func ga) #[] #[], .bool l] 41 (0, 0))) (HH2_1.out))
  have hh2 : w2.heap[w.heap.size + 1 + 1]? = some (.cells #[.int .u8 0, .string ⟨#[]⟩, .string ⟨#[]⟩, .int .i64 0, .int .i64 0] 23 (0, 0)) := (hb.block _ (heap_lt hv2)).trans hv2
  clear hv2
  have hh3 : w2.heap[w1.heap.size]? = some (.cells #[.func (.func g) #[] cap, c, .func (.func ga) #[] #[], .bool l] 41 (0, 0)) := (hb.block _ (by first | omega | (simp; done) | (simp; omega))).trans (heap_old (o' := (.cells #[.int .u8 k1, .string nm1, .string tx1, .int .i64 n1, .int .i64 m1, .int .u8 k2, .string nm2, .string tx2, .int .i64 n2, .int .i64 m2] 23 (0, 0))) (heap_new _ _ _ (by first | rfl | simp)))
  have hh4 : w2.heap[w1.heap.size + 1]? = some (.cells #[.int .u8 k1, .string nm1, .string tx1, .int .i64 n1, .int .i64 m1, .int .u8 k2, .string nm2, .string tx2, .int .i64 n2, .int .i64 m2] 23 (0, 0)) := (hb.block _ (by first | omega | (simp; done) | (simp; omega))).trans (heap_new _ _ _ (by first | rfl | simp))
  have hbw2 : Below w.heap.size w w2 := (show Below w.heap.size w _ by first | exact HW1.out.trans ⟨rfl, rfl, rfl, Nat.le_refl _, fun _ _ => rfl⟩ | exact HW1.out | (go_grown; done)).trans (hb.mono (by first | omega | (simp; done) | (simp; omega)))
  clear hb lt0 c0_0 c0_1 c0_2 c0_3 c0_4 lt1 c1_0 c1_1 c1_2 c1_3 c1_4 lt2 c2_0 f2_0 c2_1 f2_1 c2_2 f2_2 c2_3 f2_3 c2_4 f2_4 hbw1
  have HH0_2 := Lib.hid hh0
  have lt0 := heap_lt hh0
  have c0_0 : w2.cell? ⟨w.heap.size, 0, none⟩ = some (.int .u8 k1) := by rw [Lib.cell_of_heap hh0]; rfl
  have c0_1 : w2.cell? ⟨w.heap.size, 1, none⟩ = some (.string nm1) := by rw [Lib.cell_of_heap hh0]; rfl
  have c0_2 : w2.cell? ⟨w.heap.size, 2, none⟩ = some (.string tx1) := by rw [Lib.cell_of_heap hh0]; rfl
  have c0_3 : w2.cell? ⟨w.heap.size, 3, none⟩ = some (.int .i64 n1) := by rw [Lib.cell_of_heap hh0]; rfl
  have c0_4 : w2.cell? ⟨w.heap.size, 4, none⟩ = some (.int .i64 m1) := by rw [Lib.cell_of_heap hh0]; rfl
  clear hh0
  have HH1_2 := Lib.hid hh1
  have lt1 := heap_lt hh1
  have c1_0 : w2.cell? ⟨w.heap.size + 1, 0, none⟩ = some (.int .u8 k2) := by rw [Lib.cell_of_heap hh1]; rfl
  have c1_1 : w2.cell? ⟨w.heap.size + 1, 1, none⟩ = some (.string nm2) := by rw [Lib.cell_of_heap hh1]; rfl
  have c1_2 : w2.cell? ⟨w.heap.size + 1, 2, none⟩ = some (.string tx2) := by rw [Lib.cell_of_heap hh1]; rfl
  have c1_3 : w2.cell? ⟨w.heap.size + 1, 3, none⟩ = some (.int .i64 n2) := by rw [Lib.cell_of_heap hh1]; rfl
  have c1_4 : w2.cell? ⟨w.heap.size + 1, 4, none⟩ = some (.int .i64 m2) := by rw [Lib.cell_of_heap hh1]; rfl
  clear hh1
  have HH2_2 := Lib.hid hh2
  have lt2 := heap_lt hh2
  have c2_0 : w2.cell? ⟨w.heap.size + 1 + 1, 0, none⟩ = some (.int .u8 0) := by rw [Lib.cell_of_heap hh2]; rfl
  have f2_0 : w2.frozen? ⟨w.heap.size + 1 + 1, 0, none⟩ = false := Lib.frozen_of_heap hh2 0
  have c2_1 : w2.cell? ⟨w.heap.size + 1 + 1, 1, none⟩ = some (.string ⟨#[]⟩) := by rw [Lib.cell_of_heap hh2]; rfl
  have f2_1 : w2.frozen? ⟨w.heap.size + 1 + 1, 1, none⟩ = false := Lib.frozen_of_heap hh2 1
  have c2_2 : w2.cell? ⟨w.heap.size + 1 + 1, 2, none⟩ = some (.string ⟨#[]⟩) := by rw [Lib.cell_of_heap hh2]; rfl
  have f2_2 : w2.frozen? ⟨w.heap.size + 1 + 1, 2, none⟩ = false := Lib.frozen_of_heap hh2 2
  have c2_3 : w2.cell? ⟨w.heap.size + 1 + 1, 3, none⟩ = some (.int .i64 0) := by rw [Lib.cell_of_heap hh2]; rfl
  have f2_3 : w2.frozen? ⟨w.heap.size + 1 + 1, 3, none⟩ = false := Lib.frozen_of_heap hh2 3
  have c2_4 : w2.cell? ⟨w.heap.size + 1 + 1, 4, none⟩ = some (.int .i64 0) := by rw [Lib.cell_of_heap hh2]; rfl
  have f2_4 : w2.frozen? ⟨w.heap.size + 1 + 1, 4, none⟩ = false := Lib.frozen_of_heap hh2 4
  clear hh2
  have HH3_2 := Lib.hid hh3
  have lt3 := heap_lt hh3
  have c3_0 : w2.cell? ⟨w1.heap.size, 0, none⟩ = some (.func (.func g) #[] cap) := by rw [Lib.cell_of_heap hh3]; rfl
  have c3_1 : w2.cell? ⟨w1.heap.size, 1, none⟩ = some (c) := by rw [Lib.cell_of_heap hh3]; rfl
  have c3_2 : w2.cell? ⟨w1.heap.size, 2, none⟩ = some (.func (.func ga) #[] #[]) := by rw [Lib.cell_of_heap hh3]; rfl
  have c3_3 : w2.cell? ⟨w1.heap.size, 3, none⟩ = some (.bool l) := by rw [Lib.cell_of_heap hh3]; rfl
  clear hh3
  have HH4_2 := Lib.hid hh4
  have lt4 := heap_lt hh4
  have c4_0 : w2.cell? ⟨w1.heap.size + 1, 0, none⟩ = some (.int .u8 k1) := by rw [Lib.cell_of_heap hh4]; rfl
  have c4_1 : w2.cell? ⟨w1.heap.size + 1, 1, none⟩ = some (.string nm1) := by rw [Lib.cell_of_heap hh4]; rfl
  have c4_2 : w2.cell? ⟨w1.heap.size + 1, 2, none⟩ = some (.string tx1) := by rw [Lib.cell_of_heap hh4]; rfl
  have c4_3 : w2.cell? ⟨w1.heap.size + 1, 3, none⟩ = some (.int .i64 n1) := by rw [Lib.cell_of_heap hh4]; rfl
  have c4_4 : w2.cell? ⟨w1.heap.size + 1, 4, none⟩ = some (.int .i64 m1) := by rw [Lib.cell_of_heap hh4]; rfl
  have c4_5 : w2.cell? ⟨w1.heap.size + 1, 5, none⟩ = some (.int .u8 k2) := by rw [Lib.cell_of_heap hh4]; rfl
  have c4_6 : w2.cell? ⟨w1.heap.size + 1, 6, none⟩ = some (.string nm2) := by rw [Lib.cell_of_heap hh4]; rfl
  have c4_7 : w2.cell? ⟨w1.heap.size + 1, 7, none⟩ = some (.string tx2) := by rw [Lib.cell_of_heap hh4]; rfl
  have c4_8 : w2.cell? ⟨w1.heap.size + 1, 8, none⟩ = some (.int .i64 n2) := by rw [Lib.cell_of_heap hh4]; rfl
  have c4_9 : w2.cell? ⟨w1.heap.size + 1, 9, none⟩ = some (.int .i64 m2) := by rw [Lib.cell_of_heap hh4]; rfl
  clear hh4
  have sz2 := hbw2.size
  have HW2 := Lib.hid hbw2
  clear hst0 hst1 hst2 hne
  have eg := HE.out
  go_wp2_with fail
  refine (HG.out _ (by first | exact HBQ.out | (go_grown; done))).mono ?_; rintro e w3 ⟨rfl, hb⟩
  have hv0 := HH0_2.out
  have hh0 : w3.heap[w.heap.size]? = some (.cells #[.int .u8 k1, .string nm1, .string tx1, .int .i64 n1, .int .i64 m1] 23 (0, 0)) := (hb.block _ (heap_lt hv0)).trans hv0
  clear hv0
  have hv1 := HH1_2.out
  have hh1 : w3.heap[w.heap.size + 1]? = some (.cells #[.int .u8 k2, .string nm2, .string tx2, .int .i64 n2, .int .i64 m2] 23 (0, 0)) := (hb.block _ (heap_lt hv1)).trans hv1
  clear hv1
  have hv2 := HH2_2.out
  have hh2 : w3.heap[w.heap.size + 1 + 1]? = some (.cells #[.int .u8 0, .string ⟨#[]⟩, .string ⟨#[]⟩, .int .i64 0, .int .i64 0] 23 (0, 0)) := (hb.block _ (heap_lt hv2)).trans hv2
  clear hv2
  have hv3 := HH3_2.out
  have hh3 : w3.heap[w1.heap.size]? = some (.cells #[.func (.func g) #[] cap, c, .func (.func ga) #[] #[], .bool l] 41 (0, 0)) := (hb.block _ (heap_lt hv3)).trans hv3
  clear hv3
  have hv4 := HH4_2.out
  have hh4 : w3.heap[w1.heap.size + 1]? = some (.cells #[.int .u8 k1, .string nm1, .string tx1, .int .i64 n1, .int .i64 m1, .int .u8 k2, .string nm2, .string tx2, .int .i64 n2, .int .i64 m2] 23 (0, 0)) := (hb.block _ (heap_lt hv4)).trans hv4
  clear hv4
  have hbw3 : Below w.heap.size w w3 := (show Below w.heap.size w _ by first | exact HW2.out.trans ⟨rfl, rfl, rfl, Nat.le_refl _, fun _ _ => rfl⟩ | exact HW2.out | (go_grown; done)).trans (hb.mono (by first | omega | (simp; done) | (simp; omega)))
  clear hb lt0 c0_0 c0_1 c0_2 c0_3 c0_4 lt1 c1_0 c1_1 c1_2 c1_3 c1_4 lt2 c2_0 f2_0 c2_1 f2_1 c2_2 f2_2 c2_3 f2_3 c2_4 f2_4 lt3 c3_0 c3_1 c3_2 c3_3 lt4 c4_0 c4_1 c4_2 c4_3 c4_4 c4_5 c4_6 c4_7 c4_8 c4_9 hbw2
  have HH0_3 := Lib.hid hh0
  have lt0 := heap_lt hh0
  have c0_0 : w3.cell? ⟨w.heap.size, 0, none⟩ = some (.int .u8 k1) := by rw [Lib.cell_of_heap hh0]; rfl
  have c0_1 : w3.cell? ⟨w.heap.size, 1, none⟩ = some (.string nm1) := by rw [Lib.cell_of_heap hh0]; rfl
  have c0_2 : w3.cell? ⟨w.heap.size, 2, none⟩ = some (.string tx1) := by rw [Lib.cell_of_heap hh0]; rfl
  have c0_3 : w3.cell? ⟨w.heap.size, 3, none⟩ = some (.int .i64 n1) := by rw [Lib.cell_of_heap hh0]; rfl
  have c0_4 : w3.cell? ⟨w.heap.size, 4, none⟩ = some (.int .i64 m1) := by rw [Lib.cell_of_heap hh0]; rfl
  clear hh0
  have HH1_3 := Lib.hid hh1
  have lt1 := heap_lt hh1
  have c1_0 : w3.cell? ⟨w.heap.size + 1, 0, none⟩ = some (.int .u8 k2) := by rw [Lib.cell_of_heap hh1]; rfl
  have c1_1 : w3.cell? ⟨w.heap.size + 1, 1, none⟩ = some (.string nm2) := by rw [Lib.cell_of_heap hh1]; rfl
  have c1_2 : w3.cell? ⟨w.heap.size + 1, 2, none⟩ = some (.string tx2) := by rw [Lib.cell_of_heap hh1]; rfl
  have c1_3 : w3.cell? ⟨w.heap.size + 1, 3, none⟩ = some (.int .i64 n2) := by rw [Lib.cell_of_heap hh1]; rfl
  have c1_4 : w3.cell? ⟨w.heap.size + 1, 4, none⟩ = some (.int .i64 m2) := by rw [Lib.cell_of_heap hh1]; rfl
  clear hh1
  have HH2_3 := Lib.hid hh2
  have lt2 := heap_lt hh2
  have c2_0 : w3.cell? ⟨w.heap.size + 1 + 1, 0, none⟩ = some (.int .u8 0) := by rw [Lib.cell_of_heap hh2]; rfl
  have f2_0 : w3.frozen? ⟨w.heap.size + 1 + 1, 0, none⟩ = false := Lib.frozen_of_heap hh2 0
  have c2_1 : w3.cell? ⟨w.heap.size + 1 + 1, 1, none⟩ = some (.string ⟨#[]⟩) := by rw [Lib.cell_of_heap hh2]; rfl
  have f2_1 : w3.frozen? ⟨w.heap.size + 1 + 1, 1, none⟩ = false := Lib.frozen_of_heap hh2 1
  have c2_2 : w3.cell? ⟨w.heap.size + 1 + 1, 2, none⟩ = some (.string ⟨#[]⟩) := by rw [Lib.cell_of_heap hh2]; rfl
  have f2_2 : w3.frozen? ⟨w.heap.size + 1 + 1, 2, none⟩ = false := Lib.frozen_of_heap hh2 2
  have c2_3 : w3.cell? ⟨w.heap.size + 1 + 1, 3, none⟩ = some (.int .i64 0) := by rw [Lib.cell_of_heap hh2]; rfl
  have f2_3 : w3.frozen? ⟨w.heap.size + 1 + 1, 3, none⟩ = false := Lib.frozen_of_heap hh2 3
  have c2_4 : w3.cell? ⟨w.heap.size + 1 + 1, 4, none⟩ = some (.int .i64 0) := by rw [Lib.cell_of_heap hh2]; rfl
  have f2_4 : w3.frozen? ⟨w.heap.size + 1 + 1, 4, none⟩ = false := Lib.frozen_of_heap hh2 4
  clear hh2
  have HH3_3 := Lib.hid hh3
  have lt3 := heap_lt hh3
  have c3_0 : w3.cell? ⟨w1.heap.size, 0, none⟩ = some (.func (.func g) #[] cap) := by rw [Lib.cell_of_heap hh3]; rfl
  have c3_1 : w3.cell? ⟨w1.heap.size, 1, none⟩ = some (c) := by rw [Lib.cell_of_heap hh3]; rfl
  have c3_2 : w3.cell? ⟨w1.heap.size, 2, none⟩ = some (.func (.func ga) #[] #[]) := by rw [Lib.cell_of_heap hh3]; rfl
  have c3_3 : w3.cell? ⟨w1.heap.size, 3, none⟩ = some (.bool l) := by rw [Lib.cell_of_heap hh3]; rfl
  clear hh3
  have HH4_3 := Lib.hid hh4
  have lt4 := heap_lt hh4
  have c4_0 : w3.cell? ⟨w1.heap.size + 1, 0, none⟩ = some (.int .u8 k1) := by rw [Lib.cell_of_heap hh4]; rfl
  have c4_1 : w3.cell? ⟨w1.heap.size + 1, 1, none⟩ = some (.string nm1) := by rw [Lib.cell_of_heap hh4]; rfl
  have c4_2 : w3.cell? ⟨w1.heap.size + 1, 2, none⟩ = some (.string tx1) := by rw [Lib.cell_of_heap hh4]; rfl
  have c4_3 : w3.cell? ⟨w1.heap.size + 1, 3, none⟩ = some (.int .i64 n1) := by rw [Lib.cell_of_heap hh4]; rfl
  have c4_4 : w3.cell? ⟨w1.heap.size + 1, 4, none⟩ = some (.int .i64 m1) := by rw [Lib.cell_of_heap hh4]; rfl
  have c4_5 : w3.cell? ⟨w1.heap.size + 1, 5, none⟩ = some (.int .u8 k2) := by rw [Lib.cell_of_heap hh4]; rfl
  have c4_6 : w3.cell? ⟨w1.heap.size + 1, 6, none⟩ = some (.string nm2) := by rw [Lib.cell_of_heap hh4]; rfl
  have c4_7 : w3.cell? ⟨w1.heap.size + 1, 7, none⟩ = some (.string tx2) := by rw [Lib.cell_of_heap hh4]; rfl
  have c4_8 : w3.cell? ⟨w1.heap.size + 1, 8, none⟩ = some (.int .i64 n2) := by rw [Lib.cell_of_heap hh4]; rfl
  have c4_9 : w3.cell? ⟨w1.heap.size + 1, 9, none⟩ = some (.int .i64 m2) := by rw [Lib.cell_of_heap hh4]; rfl
  clear hh4
  have sz3 := hbw3.size
  have HW3 := Lib.hid hbw3
  clear eg
  go_wp2_with fail
  refine bodyPost_ret (v := .tuple #[.agg #[.int .u8 rk, .string rn, .string rt, .int .i64 ri, .int .i64 rm], .int .i64 0]) (by simp [results, Tryz.results11, go_sem, lt2, c2_0, f2_0, c2_1, f2_1, c2_2, f2_2, c2_3, f2_3, c2_4, f2_4]; try rfl) rfl ?_
  refine ⟨rfl, ?_⟩
  repeat' (first | with_reducible exact HW3.out | with_reducible refine Below.setCell ?_ ?_ _ | with_reducible refine Below.alloc ?_ ?_ _)
  all_goals (first | exact Nat.le_refl _ | (dsimp only; omega) | omega | (simp; done) | (simp; omega))
set_option maxRecDepth 100000 in
set_option maxHeartbeats 4000000 in
theorem sadd_over (k : Int) (k1 : Int) (nm1 tx1 : ByteArray) (n1 m1 : Int) (k2 : Int) (nm2 tx2 : ByteArray) (n2 m2 : Int) (rk : Int) (rn rt : ByteArray) (ri rm : Int) (w : World)
    (HO : Hid (∀ W, Below w.heap.size w W → Calls Tryz.prog 15 #[.int .u8 k] W fun e w' => (∃ (g : Nat) (cap : Array Value) (c : Value) (ga : Nat) (l : Bool), e = .returned (.tuple #[.agg #[.func (.func g) #[] cap, c, .func (.func ga) #[] #[], .bool l], .int .i64 0]) ∧ Hid (c.oneCell' = true) ∧ Hid (∀ args w, (callFunc ga args).run Tryz.prog w = .ok (.enter ga args) w) ∧ Hid (DoesU w' 16 #[.agg #[.func (.func g) #[] cap, c, .func (.func ga) #[] #[], .bool l], .agg #[.int .u8 k1, .string nm1, .string tx1, .int .i64 n1, .int .i64 m1]] (.tuple #[.agg #[.int .u8 k1, .string nm1, .string tx1, .int .i64 n1, .int .i64 m1], .bool true])) ∧ Hid (DoesU w' 16 #[.agg #[.func (.func g) #[] cap, c, .func (.func ga) #[] #[], .bool l], .agg #[.int .u8 k2, .string nm2, .string tx2, .int .i64 n2, .int .i64 m2]] (.tuple #[.agg #[.int .u8 k2, .string nm2, .string tx2, .int .i64 n2, .int .i64 m2], .bool true])) ∧ Hid (DoesU w' ga #[.agg #[.int .u8 k1, .string nm1, .string tx1, .int .i64 n1, .int .i64 m1], .agg #[.int .u8 k2, .string nm2, .string tx2, .int .i64 n2, .int .i64 m2]] (.tuple #[.agg #[.int .u8 rk, .string rn, .string rt, .int .i64 ri, .int .i64 rm], .bool false]))) ∧ Below W.heap.size W w')) :
    Calls Tryz.prog 11 #[.int .u8 k, .agg #[.int .u8 k1, .string nm1, .string tx1, .int .i64 n1, .int .i64 m1], .agg #[.int .u8 k2, .string nm2, .string tx2, .int .i64 n2, .int .i64 m2]] w fun e w' => e = .returned (.tuple #[.agg #[.int .u8 0, .string ⟨#[]⟩, .string ⟨#[]⟩, .int .i64 0, .int .i64 0], .int .i64 20]) ∧ Below w.heap.size w w' := by
  go_enter Tryz.func11, Tryz.ntmps11
  go_wp2_with fail
  refine (HO.out _ (by first | exact Below.refl _ _ | (go_grown; done))).mono ?_; rintro e w1 ⟨⟨g, cap, c, ga, l, rfl, HC, HE, HQ1, HQ2, HG⟩, hb⟩
  have hh0 : w1.heap[w.heap.size]? = some (.cells #[.int .u8 k1, .string nm1, .string tx1, .int .i64 n1, .int .i64 m1] 23 (0, 0)) := (hb.block _ (by first | omega | (simp; done) | (simp; omega))).trans (heap_old (o' := (.cells #[.int .u8 0, .string ⟨#[]⟩, .string ⟨#[]⟩, .int .i64 0, .int .i64 0] 23 (0, 0))) (heap_old (o' := (.cells #[.int .u8 k2, .string nm2, .string tx2, .int .i64 n2, .int .i64 m2] 23 (0, 0))) (heap_new _ _ _ (by first | rfl | simp))))
  have hh1 : w1.heap[w.heap.size + 1]? = some (.cells #[.int .u8 k2, .string nm2, .string tx2, .int .i64 n2, .int .i64 m2] 23 (0, 0)) := (hb.block _ (by first | omega | (simp; done) | (simp; omega))).trans (heap_old (o' := (.cells #[.int .u8 0, .string ⟨#[]⟩, .string ⟨#[]⟩, .int .i64 0, .int .i64 0] 23 (0, 0))) (heap_new _ _ _ (by first | rfl | simp)))
  have hh2 : w1.heap[w.heap.size + 1 + 1]? = some (.cells #[.int .u8 0, .string ⟨#[]⟩, .string ⟨#[]⟩, .int .i64 0, .int .i64 0] 23 (0, 0)) := (hb.block _ (by first | omega | (simp; done) | (simp; omega))).trans (heap_new _ _ _ (by first | rfl | simp))
  have hbw1 : Below w.heap.size w w1 := (show Below w.heap.size w _ by first | exact Below.refl _ _ | (go_grown; done)).trans (hb.mono (by first | omega | (simp; done) | (simp; omega)))
  clear hb
  have HH0_1 := Lib.hid hh0
  have lt0 := heap_lt hh0
  have c0_0 : w1.cell? ⟨w.heap.size, 0, none⟩ = some (.int .u8 k1) := by rw [Lib.cell_of_heap hh0]; rfl
  have c0_1 : w1.cell? ⟨w.heap.size, 1, none⟩ = some (.string nm1) := by rw [Lib.cell_of_heap hh0]; rfl
  have c0_2 : w1.cell? ⟨w.heap.size, 2, none⟩ = some (.string tx1) := by rw [Lib.cell_of_heap hh0]; rfl
  have c0_3 : w1.cell? ⟨w.heap.size, 3, none⟩ = some (.int .i64 n1) := by rw [Lib.cell_of_heap hh0]; rfl
  have c0_4 : w1.cell? ⟨w.heap.size, 4, none⟩ = some (.int .i64 m1) := by rw [Lib.cell_of_heap hh0]; rfl
  clear hh0
  have HH1_1 := Lib.hid hh1
  have lt1 := heap_lt hh1
  have c1_0 : w1.cell? ⟨w.heap.size + 1, 0, none⟩ = some (.int .u8 k2) := by rw [Lib.cell_of_heap hh1]; rfl
  have c1_1 : w1.cell? ⟨w.heap.size + 1, 1, none⟩ = some (.string nm2) := by rw [Lib.cell_of_heap hh1]; rfl
  have c1_2 : w1.cell? ⟨w.heap.size + 1, 2, none⟩ = some (.string tx2) := by rw [Lib.cell_of_heap hh1]; rfl
  have c1_3 : w1.cell? ⟨w.heap.size + 1, 3, none⟩ = some (.int .i64 n2) := by rw [Lib.cell_of_heap hh1]; rfl
  have c1_4 : w1.cell? ⟨w.heap.size + 1, 4, none⟩ = some (.int .i64 m2) := by rw [Lib.cell_of_heap hh1]; rfl
  clear hh1
  have HH2_1 := Lib.hid hh2
  have lt2 := heap_lt hh2
  have c2_0 : w1.cell? ⟨w.heap.size + 1 + 1, 0, none⟩ = some (.int .u8 0) := by rw [Lib.cell_of_heap hh2]; rfl
  have f2_0 : w1.frozen? ⟨w.heap.size + 1 + 1, 0, none⟩ = false := Lib.frozen_of_heap hh2 0
  have c2_1 : w1.cell? ⟨w.heap.size + 1 + 1, 1, none⟩ = some (.string ⟨#[]⟩) := by rw [Lib.cell_of_heap hh2]; rfl
  have f2_1 : w1.frozen? ⟨w.heap.size + 1 + 1, 1, none⟩ = false := Lib.frozen_of_heap hh2 1
  have c2_2 : w1.cell? ⟨w.heap.size + 1 + 1, 2, none⟩ = some (.string ⟨#[]⟩) := by rw [Lib.cell_of_heap hh2]; rfl
  have f2_2 : w1.frozen? ⟨w.heap.size + 1 + 1, 2, none⟩ = false := Lib.frozen_of_heap hh2 2
  have c2_3 : w1.cell? ⟨w.heap.size + 1 + 1, 3, none⟩ = some (.int .i64 0) := by rw [Lib.cell_of_heap hh2]; rfl
  have f2_3 : w1.frozen? ⟨w.heap.size + 1 + 1, 3, none⟩ = false := Lib.frozen_of_heap hh2 3
  have c2_4 : w1.cell? ⟨w.heap.size + 1 + 1, 4, none⟩ = some (.int .i64 0) := by rw [Lib.cell_of_heap hh2]; rfl
  have f2_4 : w1.frozen? ⟨w.heap.size + 1 + 1, 4, none⟩ = false := Lib.frozen_of_heap hh2 4
  clear hh2
  have sz1 := hbw1.size
  have HW1 := Lib.hid hbw1
  have hne := fun w => fun_add w ga
  have hst0 := (fun W b x hc hz => st_one Tryz.prog (.func (.func g) #[] cap) rfl W b x hc hz)
  have hst1 := (fun W b x hc hz => st_one Tryz.prog (c) HC.out W b x hc hz)
  have hst2 := (fun W b x hc hz => st_one Tryz.prog (.func (.func ga) #[] #[]) rfl W b x hc hz)
  go_wp2_with fail
  refine (asked_2 g cap (c) (.func (.func ga) #[] #[]) l k1 nm1 tx1 n1 m1 k2 nm2 tx2 n2 m2 _ _ (Lib.hid (heap_new _ _ _ (by first | rfl | simp))) (Lib.hid (HQ1.out.below (by first | exact Below.refl _ _ | (go_grown; done)))) (Lib.hid (HQ2.out.below (by first | exact Below.refl _ _ | (go_grown; done))))).mono ?_; rintro e w2 ⟨rfl, hb⟩
  have HBQ := Lib.hid ((show Below w1.heap.size w1 _ by first | exact Below.refl _ _ | (go_grown; done)).trans (hb.mono (by first | omega | (simp; done) | (simp; omega))))
  have hv0 := heap_old (o' := (.cells #[.int .u8 k1, .string nm1, .string tx1, .int .i64 n1, .int .i64 m1, .int .u8 k2, .string nm2, .string tx2, .int .i64 n2, .int .i64 m2] 23 (0, 0))) (heap_old (o' := (.cells #[.func (.func g) #[] cap, c, .func (.func ga) #[] #[], .bool l] 41 (0, 0))) (HH0_1.out))
  have hh0 : w2.heap[w.heap.size]? = some (.cells #[.int .u8 k1, .string nm1, .string tx1, .int .i64 n1, .int .i64 m1] 23 (0, 0)) := (hb.block _ (heap_lt hv0)).trans hv0
  clear hv0
  have hv1 := heap_old (o' := (.cells #[.int .u8 k1, .string nm1, .string tx1, .int .i64 n1, .int .i64 m1, .int .u8 k2, .string nm2, .string tx2, .int .i64 n2, .int .i64 m2] 23 (0, 0))) (heap_old (o' := (.cells #[.func (.func g) #[] cap, c, .func (.func ga) #[] #[], .bool l] 41 (0, 0))) (HH1_1.out))
  have hh1 : w2.heap[w.heap.size + 1]? = some (.cells #[.int .u8 k2, .string nm2, .string tx2, .int .i64 n2, .int .i64 m2] 23 (0, 0)) := (hb.block _ (heap_lt hv1)).trans hv1
  clear hv1
  have hv2 := heap_old (o' := (.cells #[.int .u8 k1, .string nm1, .string tx1, .int .i64 n1, .int .i64 m1, .int .u8 k2, .string nm2, .string tx2, .int .i64 n2, .int .i64 m2] 23 (0, 0))) (heap_old (o' := (.cells #[.func (.func g) #[] cap, c, .func (.func ga) #[] #[], .bool l] 41 (0, 0))) (HH2_1.out))
  have hh2 : w2.heap[w.heap.size + 1 + 1]? = some (.cells #[.int .u8 0, .string ⟨#[]⟩, .string ⟨#[]⟩, .int .i64 0, .int .i64 0] 23 (0, 0)) := (hb.block _ (heap_lt hv2)).trans hv2
  clear hv2
  have hh3 : w2.heap[w1.heap.size]? = some (.cells #[.func (.func g) #[] cap, c, .func (.func ga) #[] #[], .bool l] 41 (0, 0)) := (hb.block _ (by first | omega | (simp; done) | (simp; omega))).trans (heap_old (o' := (.cells #[.int .u8 k1, .string nm1, .string tx1, .int .i64 n1, .int .i64 m1, .int .u8 k2, .string nm2, .string tx2, .int .i64 n2, .int .i64 m2] 23 (0, 0))) (heap_new _ _ _ (by first | rfl | simp)))
  have hh4 : w2.heap[w1.heap.size + 1]? = some (.cells #[.int .u8 k1, .string nm1, .string tx1, .int .i64 n1, .int .i64 m1, .int .u8 k2, .string nm2, .string tx2, .int .i64 n2, .int .i64 m2] 23 (0, 0)) := (hb.block _ (by first | omega | (simp; done) | (simp; omega))).trans (heap_new _ _ _ (by first | rfl | simp))
  have hbw2 : Below w.heap.size w w2 := (show Below w.heap.size w _ by first | exact HW1.out.trans ⟨rfl, rfl, rfl, Nat.le_refl _, fun _ _ => rfl⟩ | exact HW1.out | (go_grown; done)).trans (hb.mono (by first | omega | (simp; done) | (simp; omega)))
  clear hb lt0 c0_0 c0_1 c0_2 c0_3 c0_4 lt1 c1_0 c1_1 c1_2 c1_3 c1_4 lt2 c2_0 f2_0 c2_1 f2_1 c2_2 f2_2 c2_3 f2_3 c2_4 f2_4 hbw1
  have HH0_2 := Lib.hid hh0
  have lt0 := heap_lt hh0
  have c0_0 : w2.cell? ⟨w.heap.size, 0, none⟩ = some (.int .u8 k1) := by rw [Lib.cell_of_heap hh0]; rfl
  have c0_1 : w2.cell? ⟨w.heap.size, 1, none⟩ = some (.string nm1) := by rw [Lib.cell_of_heap hh0]; rfl
  have c0_2 : w2.cell? ⟨w.heap.size, 2, none⟩ = some (.string tx1) := by rw [Lib.cell_of_heap hh0]; rfl
  have c0_3 : w2.cell? ⟨w.heap.size, 3, none⟩ = some (.int .i64 n1) := by rw [Lib.cell_of_heap hh0]; rfl
  have c0_4 : w2.cell? ⟨w.heap.size, 4, none⟩ = some (.int .i64 m1) := by rw [Lib.cell_of_heap hh0]; rfl
  clear hh0
  have HH1_2 := Lib.hid hh1
  have lt1 := heap_lt hh1
  have c1_0 : w2.cell? ⟨w.heap.size + 1, 0, none⟩ = some (.int .u8 k2) := by rw [Lib.cell_of_heap hh1]; rfl
  have c1_1 : w2.cell? ⟨w.heap.size + 1, 1, none⟩ = some (.string nm2) := by rw [Lib.cell_of_heap hh1]; rfl
  have c1_2 : w2.cell? ⟨w.heap.size + 1, 2, none⟩ = some (.string tx2) := by rw [Lib.cell_of_heap hh1]; rfl
  have c1_3 : w2.cell? ⟨w.heap.size + 1, 3, none⟩ = some (.int .i64 n2) := by rw [Lib.cell_of_heap hh1]; rfl
  have c1_4 : w2.cell? ⟨w.heap.size + 1, 4, none⟩ = some (.int .i64 m2) := by rw [Lib.cell_of_heap hh1]; rfl
  clear hh1
  have HH2_2 := Lib.hid hh2
  have lt2 := heap_lt hh2
  have c2_0 : w2.cell? ⟨w.heap.size + 1 + 1, 0, none⟩ = some (.int .u8 0) := by rw [Lib.cell_of_heap hh2]; rfl
  have f2_0 : w2.frozen? ⟨w.heap.size + 1 + 1, 0, none⟩ = false := Lib.frozen_of_heap hh2 0
  have c2_1 : w2.cell? ⟨w.heap.size + 1 + 1, 1, none⟩ = some (.string ⟨#[]⟩) := by rw [Lib.cell_of_heap hh2]; rfl
  have f2_1 : w2.frozen? ⟨w.heap.size + 1 + 1, 1, none⟩ = false := Lib.frozen_of_heap hh2 1
  have c2_2 : w2.cell? ⟨w.heap.size + 1 + 1, 2, none⟩ = some (.string ⟨#[]⟩) := by rw [Lib.cell_of_heap hh2]; rfl
  have f2_2 : w2.frozen? ⟨w.heap.size + 1 + 1, 2, none⟩ = false := Lib.frozen_of_heap hh2 2
  have c2_3 : w2.cell? ⟨w.heap.size + 1 + 1, 3, none⟩ = some (.int .i64 0) := by rw [Lib.cell_of_heap hh2]; rfl
  have f2_3 : w2.frozen? ⟨w.heap.size + 1 + 1, 3, none⟩ = false := Lib.frozen_of_heap hh2 3
  have c2_4 : w2.cell? ⟨w.heap.size + 1 + 1, 4, none⟩ = some (.int .i64 0) := by rw [Lib.cell_of_heap hh2]; rfl
  have f2_4 : w2.frozen? ⟨w.heap.size + 1 + 1, 4, none⟩ = false := Lib.frozen_of_heap hh2 4
  clear hh2
  have HH3_2 := Lib.hid hh3
  have lt3 := heap_lt hh3
  have c3_0 : w2.cell? ⟨w1.heap.size, 0, none⟩ = some (.func (.func g) #[] cap) := by rw [Lib.cell_of_heap hh3]; rfl
  have c3_1 : w2.cell? ⟨w1.heap.size, 1, none⟩ = some (c) := by rw [Lib.cell_of_heap hh3]; rfl
  have c3_2 : w2.cell? ⟨w1.heap.size, 2, none⟩ = some (.func (.func ga) #[] #[]) := by rw [Lib.cell_of_heap hh3]; rfl
  have c3_3 : w2.cell? ⟨w1.heap.size, 3, none⟩ = some (.bool l) := by rw [Lib.cell_of_heap hh3]; rfl
  clear hh3
  have HH4_2 := Lib.hid hh4
  have lt4 := heap_lt hh4
  have c4_0 : w2.cell? ⟨w1.heap.size + 1, 0, none⟩ = some (.int .u8 k1) := by rw [Lib.cell_of_heap hh4]; rfl
  have c4_1 : w2.cell? ⟨w1.heap.size + 1, 1, none⟩ = some (.string nm1) := by rw [Lib.cell_of_heap hh4]; rfl
  have c4_2 : w2.cell? ⟨w1.heap.size + 1, 2, none⟩ = some (.string tx1) := by rw [Lib.cell_of_heap hh4]; rfl
  have c4_3 : w2.cell? ⟨w1.heap.size + 1, 3, none⟩ = some (.int .i64 n1) := by rw [Lib.cell_of_heap hh4]; rfl
  have c4_4 : w2.cell? ⟨w1.heap.size + 1, 4, none⟩ = some (.int .i64 m1) := by rw [Lib.cell_of_heap hh4]; rfl
  have c4_5 : w2.cell? ⟨w1.heap.size + 1, 5, none⟩ = some (.int .u8 k2) := by rw [Lib.cell_of_heap hh4]; rfl
  have c4_6 : w2.cell? ⟨w1.heap.size + 1, 6, none⟩ = some (.string nm2) := by rw [Lib.cell_of_heap hh4]; rfl
  have c4_7 : w2.cell? ⟨w1.heap.size + 1, 7, none⟩ = some (.string tx2) := by rw [Lib.cell_of_heap hh4]; rfl
  have c4_8 : w2.cell? ⟨w1.heap.size + 1, 8, none⟩ = some (.int .i64 n2) := by rw [Lib.cell_of_heap hh4]; rfl
  have c4_9 : w2.cell? ⟨w1.heap.size + 1, 9, none⟩ = some (.int .i64 m2) := by rw [Lib.cell_of_heap hh4]; rfl
  clear hh4
  have sz2 := hbw2.size
  have HW2 := Lib.hid hbw2
  clear hst0 hst1 hst2 hne
  have eg := HE.out
  go_wp2_with fail
  refine (HG.out _ (by first | exact HBQ.out | (go_grown; done))).mono ?_; rintro e w3 ⟨rfl, hb⟩
  have hv0 := HH0_2.out
  have hh0 : w3.heap[w.heap.size]? = some (.cells #[.int .u8 k1, .string nm1, .string tx1, .int .i64 n1, .int .i64 m1] 23 (0, 0)) := (hb.block _ (heap_lt hv0)).trans hv0
  clear hv0
  have hv1 := HH1_2.out
  have hh1 : w3.heap[w.heap.size + 1]? = some (.cells #[.int .u8 k2, .string nm2, .string tx2, .int .i64 n2, .int .i64 m2] 23 (0, 0)) := (hb.block _ (heap_lt hv1)).trans hv1
  clear hv1
  have hv2 := HH2_2.out
  have hh2 : w3.heap[w.heap.size + 1 + 1]? = some (.cells #[.int .u8 0, .string ⟨#[]⟩, .string ⟨#[]⟩, .int .i64 0, .int .i64 0] 23 (0, 0)) := (hb.block _ (heap_lt hv2)).trans hv2
  clear hv2
  have hv3 := HH3_2.out
  have hh3 : w3.heap[w1.heap.size]? = some (.cells #[.func (.func g) #[] cap, c, .func (.func ga) #[] #[], .bool l] 41 (0, 0)) := (hb.block _ (heap_lt hv3)).trans hv3
  clear hv3
  have hv4 := HH4_2.out
  have hh4 : w3.heap[w1.heap.size + 1]? = some (.cells #[.int .u8 k1, .string nm1, .string tx1, .int .i64 n1, .int .i64 m1, .int .u8 k2, .string nm2, .string tx2, .int .i64 n2, .int .i64 m2] 23 (0, 0)) := (hb.block _ (heap_lt hv4)).trans hv4
  clear hv4
  have hbw3 : Below w.heap.size w w3 := (show Below w.heap.size w _ by first | exact HW2.out.trans ⟨rfl, rfl, rfl, Nat.le_refl _, fun _ _ => rfl⟩ | exact HW2.out | (go_grown; done)).trans (hb.mono (by first | omega | (simp; done) | (simp; omega)))
  clear hb lt0 c0_0 c0_1 c0_2 c0_3 c0_4 lt1 c1_0 c1_1 c1_2 c1_3 c1_4 lt2 c2_0 f2_0 c2_1 f2_1 c2_2 f2_2 c2_3 f2_3 c2_4 f2_4 lt3 c3_0 c3_1 c3_2 c3_3 lt4 c4_0 c4_1 c4_2 c4_3 c4_4 c4_5 c4_6 c4_7 c4_8 c4_9 hbw2
  have HH0_3 := Lib.hid hh0
  have lt0 := heap_lt hh0
  have c0_0 : w3.cell? ⟨w.heap.size, 0, none⟩ = some (.int .u8 k1) := by rw [Lib.cell_of_heap hh0]; rfl
  have c0_1 : w3.cell? ⟨w.heap.size, 1, none⟩ = some (.string nm1) := by rw [Lib.cell_of_heap hh0]; rfl
  have c0_2 : w3.cell? ⟨w.heap.size, 2, none⟩ = some (.string tx1) := by rw [Lib.cell_of_heap hh0]; rfl
  have c0_3 : w3.cell? ⟨w.heap.size, 3, none⟩ = some (.int .i64 n1) := by rw [Lib.cell_of_heap hh0]; rfl
  have c0_4 : w3.cell? ⟨w.heap.size, 4, none⟩ = some (.int .i64 m1) := by rw [Lib.cell_of_heap hh0]; rfl
  clear hh0
  have HH1_3 := Lib.hid hh1
  have lt1 := heap_lt hh1
  have c1_0 : w3.cell? ⟨w.heap.size + 1, 0, none⟩ = some (.int .u8 k2) := by rw [Lib.cell_of_heap hh1]; rfl
  have c1_1 : w3.cell? ⟨w.heap.size + 1, 1, none⟩ = some (.string nm2) := by rw [Lib.cell_of_heap hh1]; rfl
  have c1_2 : w3.cell? ⟨w.heap.size + 1, 2, none⟩ = some (.string tx2) := by rw [Lib.cell_of_heap hh1]; rfl
  have c1_3 : w3.cell? ⟨w.heap.size + 1, 3, none⟩ = some (.int .i64 n2) := by rw [Lib.cell_of_heap hh1]; rfl
  have c1_4 : w3.cell? ⟨w.heap.size + 1, 4, none⟩ = some (.int .i64 m2) := by rw [Lib.cell_of_heap hh1]; rfl
  clear hh1
  have HH2_3 := Lib.hid hh2
  have lt2 := heap_lt hh2
  have c2_0 : w3.cell? ⟨w.heap.size + 1 + 1, 0, none⟩ = some (.int .u8 0) := by rw [Lib.cell_of_heap hh2]; rfl
  have f2_0 : w3.frozen? ⟨w.heap.size + 1 + 1, 0, none⟩ = false := Lib.frozen_of_heap hh2 0
  have c2_1 : w3.cell? ⟨w.heap.size + 1 + 1, 1, none⟩ = some (.string ⟨#[]⟩) := by rw [Lib.cell_of_heap hh2]; rfl
  have f2_1 : w3.frozen? ⟨w.heap.size + 1 + 1, 1, none⟩ = false := Lib.frozen_of_heap hh2 1
  have c2_2 : w3.cell? ⟨w.heap.size + 1 + 1, 2, none⟩ = some (.string ⟨#[]⟩) := by rw [Lib.cell_of_heap hh2]; rfl
  have f2_2 : w3.frozen? ⟨w.heap.size + 1 + 1, 2, none⟩ = false := Lib.frozen_of_heap hh2 2
  have c2_3 : w3.cell? ⟨w.heap.size + 1 + 1, 3, none⟩ = some (.int .i64 0) := by rw [Lib.cell_of_heap hh2]; rfl
  have f2_3 : w3.frozen? ⟨w.heap.size + 1 + 1, 3, none⟩ = false := Lib.frozen_of_heap hh2 3
  have c2_4 : w3.cell? ⟨w.heap.size + 1 + 1, 4, none⟩ = some (.int .i64 0) := by rw [Lib.cell_of_heap hh2]; rfl
  have f2_4 : w3.frozen? ⟨w.heap.size + 1 + 1, 4, none⟩ = false := Lib.frozen_of_heap hh2 4
  clear hh2
  have HH3_3 := Lib.hid hh3
  have lt3 := heap_lt hh3
  have c3_0 : w3.cell? ⟨w1.heap.size, 0, none⟩ = some (.func (.func g) #[] cap) := by rw [Lib.cell_of_heap hh3]; rfl
  have c3_1 : w3.cell? ⟨w1.heap.size, 1, none⟩ = some (c) := by rw [Lib.cell_of_heap hh3]; rfl
  have c3_2 : w3.cell? ⟨w1.heap.size, 2, none⟩ = some (.func (.func ga) #[] #[]) := by rw [Lib.cell_of_heap hh3]; rfl
  have c3_3 : w3.cell? ⟨w1.heap.size, 3, none⟩ = some (.bool l) := by rw [Lib.cell_of_heap hh3]; rfl
  clear hh3
  have HH4_3 := Lib.hid hh4
  have lt4 := heap_lt hh4
  have c4_0 : w3.cell? ⟨w1.heap.size + 1, 0, none⟩ = some (.int .u8 k1) := by rw [Lib.cell_of_heap hh4]; rfl
  have c4_1 : w3.cell? ⟨w1.heap.size + 1, 1, none⟩ = some (.string nm1) := by rw [Lib.cell_of_heap hh4]; rfl
  have c4_2 : w3.cell? ⟨w1.heap.size + 1, 2, none⟩ = some (.string tx1) := by rw [Lib.cell_of_heap hh4]; rfl
  have c4_3 : w3.cell? ⟨w1.heap.size + 1, 3, none⟩ = some (.int .i64 n1) := by rw [Lib.cell_of_heap hh4]; rfl
  have c4_4 : w3.cell? ⟨w1.heap.size + 1, 4, none⟩ = some (.int .i64 m1) := by rw [Lib.cell_of_heap hh4]; rfl
  have c4_5 : w3.cell? ⟨w1.heap.size + 1, 5, none⟩ = some (.int .u8 k2) := by rw [Lib.cell_of_heap hh4]; rfl
  have c4_6 : w3.cell? ⟨w1.heap.size + 1, 6, none⟩ = some (.string nm2) := by rw [Lib.cell_of_heap hh4]; rfl
  have c4_7 : w3.cell? ⟨w1.heap.size + 1, 7, none⟩ = some (.string tx2) := by rw [Lib.cell_of_heap hh4]; rfl
  have c4_8 : w3.cell? ⟨w1.heap.size + 1, 8, none⟩ = some (.int .i64 n2) := by rw [Lib.cell_of_heap hh4]; rfl
  have c4_9 : w3.cell? ⟨w1.heap.size + 1, 9, none⟩ = some (.int .i64 m2) := by rw [Lib.cell_of_heap hh4]; rfl
  clear hh4
  have sz3 := hbw3.size
  have HW3 := Lib.hid hbw3
  clear eg
  go_wp2_with fail
  refine bodyPost_ret (v := .tuple #[.agg #[.int .u8 0, .string ⟨#[]⟩, .string ⟨#[]⟩, .int .i64 0, .int .i64 0], .int .i64 20]) (by simp [results, Tryz.results11, go_sem, lt2, c2_0, f2_0, c2_1, f2_1, c2_2, f2_2, c2_3, f2_3, c2_4, f2_4]; try rfl) rfl ?_
  refine ⟨rfl, ?_⟩
  repeat' (first | with_reducible exact HW3.out | with_reducible refine Below.setCell ?_ ?_ _ | with_reducible refine Below.alloc ?_ ?_ _)
  all_goals (first | exact Nat.le_refl _ | (dsimp only; omega) | omega | (simp; done) | (simp; omega))
end Go.Proofs.YtjhgiojmlkeccaaGreatDoor
namespace Go.Proofs.YtjhgiojmlkeccaaGreatDoor
open Go.RowKit
set_option maxHeartbeats 400000 in
theorem limit_any (s n : Int) (h : s = 0 ∨ s = 1) (w : World) :
    Calls Tryz.prog 174 #[.agg #[.int .i64 s, .int .u64 n]] w fun e w' => e = .returned (.int .u64 (9223372036854775807 + s)) ∧ Below w.heap.size w w' := by
  have hi0 : ∀ w, (Instr.index 252 (Value.agg #[Value.int IntKind.u64 9223372036854775807, Value.int IntKind.u64 9223372036854775808]) (Value.int IntKind.i64 0)).run Tryz.prog w = .ok (.int .u64 9223372036854775807) w := fun _ => by kernel_rfl
  have hi1 : ∀ w, (Instr.index 252 (Value.agg #[Value.int IntKind.u64 9223372036854775807, Value.int IntKind.u64 9223372036854775808]) (Value.int IntKind.i64 1)).run Tryz.prog w = .ok (.int .u64 9223372036854775808) w := fun _ => by kernel_rfl
  rcases h with rfl | rfl
  all_goals
    go_enter Tryz.func174, Tryz.ntmps174
    go_wp2
    go_ret
    exact ⟨rfl, (Below.refl _ _).alloc (Nat.le_refl _) _⟩
/-- The cells of a block just made, behind a call that only makes blocks. -/
theorem keep2 {w W w1 : World} {b : Nat} {x y : Value} (h : W.cell? ⟨b, 0, none⟩ = some x ∧ W.cell? ⟨b, 1, none⟩ = some y ∧ b < W.heap.size ∧ Below w.heap.size w W) (hb : Below W.heap.size W w1) (hw : w.heap.size ≤ W.heap.size) :
    w1.cell? ⟨b, 0, none⟩ = some x ∧ w1.cell? ⟨b, 1, none⟩ = some y ∧ b < w1.heap.size ∧ Below w.heap.size w w1 := by
  obtain ⟨h0, h1, h2, h3⟩ := h
  exact ⟨(hb.cell (p := ⟨b, 0, none⟩) h2).trans h0, (hb.cell (p := ⟨b, 1, none⟩) h2).trans h1, Nat.lt_of_lt_of_le h2 hb.size, h3.trans (hb.mono hw)⟩
set_option maxRecDepth 100000 in
set_option maxHeartbeats 1000000 in
theorem number_0 (n : Int) (h0 : 0 ≤ n) (h1 : n ≤ 18446744073709551615) (w : World) :
    Calls Tryz.prog 132 #[.agg #[.int .i64 0, .int .u64 n]] w fun e w' => e = .returned (.tuple #[.int .i64 (val n), .int .i64 (err n)]) ∧ Below w.heap.size w w' := by
  have L := Lib.hid (fun w => limit_any 0 n (by simp) w)
  go_enter Tryz.func132, Tryz.ntmps132
  go_wp2_with fail
  go_region_held3 (fun W => W.cell? ⟨w.heap.size, 0, none⟩ = some (.int .i64 0) ∧ W.cell? ⟨w.heap.size, 1, none⟩ = some (.int .u64 n) ∧ w.heap.size < W.heap.size ∧ Below w.heap.size w W) 
     (first | exact keep2 (by assumption) (by assumption) (by omega) | (refine ⟨by simp [go_sem], by simp [go_sem], by simp, ?_⟩; go_grown; done))
     (first | (refine (L.out _).mono ?_; rintro e w1 ⟨rfl, hb⟩))
  rename_i hS
  obtain ⟨hS0, hS1, hS2, hS3⟩ := hS
  go_wp2
  all_goals
    go_ret2
    refine ⟨ret2 ?_ ?_, hS3⟩
    all_goals
      go_light
      simp only [val, err, wrap64, IntKind.wrap_i64, IntKind.wrap_u64] at *
      (try simp at *) <;> (try split) <;> omega
set_option maxRecDepth 100000 in
set_option maxHeartbeats 1000000 in
theorem number_1 (n : Int) (h0 : 0 ≤ n) (h1 : n ≤ 18446744073709551615) (w : World) :
    Calls Tryz.prog 132 #[.agg #[.int .i64 1, .int .u64 n]] w fun e w' => e = .returned (.tuple #[.int .i64 (val (-n)), .int .i64 (err (-n))]) ∧ Below w.heap.size w w' := by
  have L := Lib.hid (fun w => limit_any 1 n (by simp) w)
  go_enter Tryz.func132, Tryz.ntmps132
  go_wp2_with fail
  go_region_held3 (fun W => W.cell? ⟨w.heap.size, 0, none⟩ = some (.int .i64 1) ∧ W.cell? ⟨w.heap.size, 1, none⟩ = some (.int .u64 n) ∧ w.heap.size < W.heap.size ∧ Below w.heap.size w W) 
     (first | exact keep2 (by assumption) (by assumption) (by omega) | (refine ⟨by simp [go_sem], by simp [go_sem], by simp, ?_⟩; go_grown; done))
     (first | (refine (L.out _).mono ?_; rintro e w1 ⟨rfl, hb⟩))
  rename_i hS
  obtain ⟨hS0, hS1, hS2, hS3⟩ := hS
  go_wp2
  all_goals
    go_ret2
    refine ⟨ret2 ?_ ?_, hS3⟩
    all_goals
      go_light
      simp only [val, err, wrap64, IntKind.wrap_i64, IntKind.wrap_u64] at *
      (try simp at *) <;> (try split) <;> omega
end Go.Proofs.YtjhgiojmlkeccaaGreatDoor
namespace Go.Proofs.YtjhgiojmlkeccaaGreatDoor
open Go.RowKit

/-- What the library's variables hold. -/
structure Env (w : World) : Prop where
  tab : Lib.TabIs Tryz.prog w "internal/strconv.uint64pow10" .u64 Lib.pow10Tab
  rng : ∃ tp p, w.var? Tryz.prog "strconv.ErrRange" = some #[.iface tp p]
theorem Env.stays {w w' : World} (h : Env w) (hb : Below w.heap.size w w') : Env w' :=
  ⟨var_stays_w h.tab hb, let ⟨tp, p, hv⟩ := h.rng; ⟨tp, p, var_stays_w hv hb⟩⟩
theorem Env.below {B : Nat} {w w' : World} (h : Env w) (hb : Below B w w') (hB : w.heap.size ≤ B) : Env w' := h.stays (hb.mono hB)
theorem cut_dash (s b : ByteArray) (bl : Bool) (hb : b.data.toList = body s.data.toList) (hbl : below s.data.toList = bl) (w : World) :
    Calls Tryz.prog 84 #[.string s, .string ⟨#[45]⟩] w fun e w' => e = .returned (.tuple #[.string b, .bool bl]) ∧ w = w' :=
  (Tryz.strings_CutPrefix s ⟨#[45]⟩ w).mono fun e w' ⟨he, hw⟩ => ⟨by
    rw [he, show (⟨#[45]⟩ : ByteArray).data.toList = [45] from rfl, trimPrefix_dash, hasPrefix_dash, hbl, ← hb], hw.symm⟩
theorem trim_any (b : ByteArray) (hs : b.size ≤ 9223372036854775807) (w : World) :
    Calls Tryz.prog 88 #[.string b, .string ⟨#[48, 49, 50, 51, 52, 53, 54, 55, 56, 57]⟩] w fun e w' => e = .returned (.string ⟨(Lib.trimS b.data.toList [48, 49, 50, 51, 52, 53, 54, 55, 56, 57]).toArray⟩) ∧ Below w.heap.size w w' :=
  Any.strings_Trim_laid Tryz.lays160 (by kernel_rfl) b ⟨#[48, 49, 50, 51, 52, 53, 54, 55, 56, 57]⟩ w hs (by decide) (ascii_of_all (by decide))
theorem ne_nil (b : ByteArray) (h : 0 < b.size) : ¬ b.toList = [] := by
  rw [ByteArray.toList_eq]
  intro e
  have : b.data.toList.length = 0 := by rw [e]; rfl
  rw [Array.length_toList] at this
  change 0 < b.data.size at h; omega
theorem trim_to (b t : ByteArray) (hs : b.size ≤ 9223372036854775807) (ht : (Lib.trimS b.data.toList [48, 49, 50, 51, 52, 53, 54, 55, 56, 57]).toArray = t.data) (w : World) :
    Calls Tryz.prog 88 #[.string b, .string ⟨#[48, 49, 50, 51, 52, 53, 54, 55, 56, 57]⟩] w fun e w' => e = .returned (.string t) ∧ Below w.heap.size w w' :=
  (trim_any b hs w).mono fun e w' ⟨he, hw⟩ => ⟨by rw [he, ht], hw⟩
theorem below_freeze {B : Nat} {w w' : World} (h : Below B w w') {a : Addr} (ha : B ≤ a.block) (n : Nat) : Below B w (w'.freeze a n) := by
  unfold World.freeze
  split
  · exact h
  · exact ⟨h.os, h.tape, h.output, by show _ ≤ (Array.modify _ _ _).size; rw [Array.size_modify]; exact h.size, fun i hi => by
      show (Array.modify _ _ _)[i]? = _
      rw [Array.getElem?_modify, if_neg (by omega)]; exact h.block i hi⟩
theorem below_bytes (w : World) (t : TypeId) (s : ByteArray) : Below w.heap.size w (Lib.bytesWorld w t s) :=
  below_freeze (((Below.refl _ _).drew).alloc (Nat.le_refl _) _) (Nat.le_refl _) 1
theorem parse_in (b : ByteArray) (hs : b.size ≤ 281474976710656) (hd : digitsB b.data.toList = true) (hn : num b.data.toList ≤ 18446744073709551615) (w : World) :
    Calls Tryz.prog 131 #[.string b, .int .i64 10, .int .i64 64] w fun e w' => e = .returned (.tuple #[.int .u64 (num b.data.toList : Int), .nilIface]) ∧ Below w.heap.size w w' :=
  (Tryz.strconv_ParseUint_10_at64_ok b (by omega) _ (parse_ok _ hd hn) w).mono fun e w' ⟨he, hw⟩ => ⟨he, by rcases hw with rfl | rfl; exact Below.refl _ _; exact below_bytes _ _ _⟩
/-- An error came. -/
def Over (w : World) (e : Ending) (w' : World) : Prop := ∃ a : Addr, e = .returned (.tuple #[.int .u64 18446744073709551615, .iface 249 (.pointer (some a))]) ∧ Below w.heap.size w w'
theorem parse_out (b : ByteArray) (hs : b.size ≤ 281474976710656) (hd : digitsB b.data.toList = true) (hn : ¬ num b.data.toList ≤ 18446744073709551615) (w : World) (he : Env w) :
    Calls Tryz.prog 131 #[.string b, .int .i64 10, .int .i64 64] w (Over w) := by
  obtain ⟨tp, p, hv⟩ := he.rng
  exact (Tryz.strconv_ParseUint_10_at64_range_var b hs (parse_range _ hd hn) tp p w hv).mono fun e w' ⟨N, he, _, _, hb⟩ => ⟨_, he, hb⟩
/-- A block just made, behind calls that only make blocks. -/
theorem own2 {w w1 : World} {x y : Value} {t : TypeId} (hb : Below (w.alloc (.cells #[x, y] t)).heap.size (w.alloc (.cells #[x, y] t)) w1) :
    w1.cell? ⟨w.heap.size, 0, none⟩ = some x ∧ w1.cell? ⟨w.heap.size, 1, none⟩ = some y ∧ w1.frozen? ⟨w.heap.size, 0, none⟩ = false ∧ w1.frozen? ⟨w.heap.size, 1, none⟩ = false ∧ w.heap.size < w1.heap.size ∧ Below w.heap.size w w1 := by
  have hsz : (w.alloc (.cells #[x, y] t)).heap.size = w.heap.size + 1 := World.size_alloc _ _
  rw [hsz] at hb
  have hz := hb.size
  refine ⟨?_, ?_, ?_, ?_, by omega, ((Below.refl _ _).alloc (Nat.le_refl _) _).trans (hb.mono (Nat.le_succ _))⟩
  · rw [hb.cell (p := ⟨w.heap.size, 0, none⟩) (by simp)]; simp [go_sem]
  · rw [hb.cell (p := ⟨w.heap.size, 1, none⟩) (by simp)]; simp [go_sem]
  · rw [hb.frozen (p := ⟨w.heap.size, 0, none⟩) (by simp)]; simp [go_sem]
  · rw [hb.frozen (p := ⟨w.heap.size, 1, none⟩) (by simp)]; simp [go_sem]
theorem rdV_of {l b : List UInt8} {bl : Bool} (hb : b = body l) (hbl : below l = bl) : rdV l = if okDigits b then val (if bl then -(num b : Int) else num b) else 0 := by unfold rdV signed; rw [hbl, ← hb]
theorem rdE_of {l b : List UInt8} {bl : Bool} (hb : b = body l) (hbl : below l = bl) : rdE l = if okDigits b then err (if bl then -(num b : Int) else num b) else 21 := by unfold rdE signed; rw [hbl, ← hb]
set_option maxRecDepth 100000 in
set_option maxHeartbeats 1000000 in
theorem read_ok (s b : ByteArray) (bl : Bool) (hb : b.data.toList = body s.data.toList) (hbl : below s.data.toList = bl) (hs : s.size ≤ 281474976710656) (hbs : b.size ≤ s.size) (hd : digitsB b.data.toList = true)
    (z z1 : Bool) (hp : 0 < b.size) (hz : ((b[0].toNat : Int) == 48) = z) (hz1 : (b.toList == [48]) = z1) (hzz : z = true → z1 = true) (hok : okDigits b.data.toList = true) (hin : num b.data.toList ≤ 18446744073709551615) (w : World) (he : Env w) :
    Calls Tryz.prog 86 #[.string s] w fun e w' => e = .returned (.tuple #[.int .i64 (rdV s.data.toList), .int .i64 (rdE s.data.toList)]) ∧ Below w.heap.size w w' := by
  have HC := Lib.hid (fun w => cut_dash s b bl hb hbl w)
  have HV := Lib.hid (rdV_of hb hbl)
  have HE := Lib.hid (rdE_of hb hbl)
  have hne := ne_nil b hp
  have hne2 : b.toList.isEmpty = false := by simpa using hne
  have ht : Lib.trimS b.data.toList [48, 49, 50, 51, 52, 53, 54, 55, 56, 57] = [] := (trim_digits _).2 (by simp only [digitsB, Bool.and_eq_true] at hd; exact hd.1)
  have HT := Lib.hid (fun w => trim_to b ⟨#[]⟩ (by omega) (by rw [ht]) w)
  have HP := Lib.hid (fun w => parse_in b (by omega) hd hin w)
  have HK := Lib.hid hok
  clear hb hbl ht hd hok
  have hcase : z = false ∨ (z = true ∧ z1 = true) := by cases z <;> simp_all
  clear hzz
  cases bl
  all_goals
    rcases hcase with rfl | ⟨rfl, rfl⟩
  all_goals
    go_enter Tryz.func86, Tryz.ntmps86
    go_wp2_with fail
    refine (HC.out _).mono ?_; rintro e w1 ⟨rfl, rfl⟩
    go_wp2_with fail
    refine (HT.out _).mono ?_; rintro e w1 ⟨rfl, hb1⟩
    go_wp2_with fail
    refine (HP.out _).mono ?_; rintro e w2 ⟨rfl, hb2⟩
    obtain ⟨c0, c1, f0, f1, hlt, hbw⟩ := own2 (hb1.trans (hb2.mono hb1.size))
    go_wp2_with fail
    first
      | ((with_reducible refine (number_0 _ (Int.natCast_nonneg _) (by omega) _).mono ?_); rintro e w3 ⟨rfl, hb3⟩)
      | ((with_reducible refine (number_1 _ (Int.natCast_nonneg _) (by omega) _).mono ?_); rintro e w3 ⟨rfl, hb3⟩)
    have hz3 : (w2.setCell { block := w.heap.size, off := 1 } (Value.int IntKind.u64 (num b.data.toList : Int))).heap.size = w2.heap.size := World.size_setCell _ _ _
    rw [hz3] at hb3
    clear hz3
    go_wp2_with fail
    go_ret2
    exact ⟨ret2 (by rw [HV.out, HK.out]; rfl) (by rw [HE.out, HK.out]; rfl), (hbw.setCell (Nat.le_refl _) _).trans (hb3.mono (Nat.le_of_lt hlt))⟩
set_option maxRecDepth 100000 in
set_option maxHeartbeats 1000000 in
theorem read_over (s b : ByteArray) (bl : Bool) (hb : b.data.toList = body s.data.toList) (hbl : below s.data.toList = bl) (hs : s.size ≤ 281474976710656) (hbs : b.size ≤ s.size) (hd : digitsB b.data.toList = true)
    (z z1 : Bool) (hp : 0 < b.size) (hz : ((b[0].toNat : Int) == 48) = z) (hz1 : (b.toList == [48]) = z1) (hzz : z = true → z1 = true) (hok : okDigits b.data.toList = true) (hin : ¬ num b.data.toList ≤ 18446744073709551615) (w : World) (he : Env w) :
    Calls Tryz.prog 86 #[.string s] w fun e w' => e = .returned (.tuple #[.int .i64 (rdV s.data.toList), .int .i64 (rdE s.data.toList)]) ∧ Below w.heap.size w w' := by
  have HC := Lib.hid (fun w => cut_dash s b bl hb hbl w)
  have HV := Lib.hid (rdV_of hb hbl)
  have HE := Lib.hid (rdE_of hb hbl)
  have hne := ne_nil b hp
  have hne2 : b.toList.isEmpty = false := by simpa using hne
  have ht : Lib.trimS b.data.toList [48, 49, 50, 51, 52, 53, 54, 55, 56, 57] = [] := (trim_digits _).2 (by simp only [digitsB, Bool.and_eq_true] at hd; exact hd.1)
  have HT := Lib.hid (fun w => trim_to b ⟨#[]⟩ (by omega) (by rw [ht]) w)
  have HP := Lib.hid (fun w (he : Env w) => parse_out b (by omega) hd hin w he)
  have HK := Lib.hid hok
  have hov : ¬ R (if bl then -(num b.data.toList : Int) else num b.data.toList) := by unfold R; cases bl <;> simp <;> omega
  have HO := Lib.hid hov
  have HEnv := Lib.hid he
  clear hb hbl ht hd hok hov he hin
  have hcase : z = false ∨ (z = true ∧ z1 = true) := by cases z <;> simp_all
  clear hzz
  cases bl
  all_goals
    rcases hcase with rfl | ⟨rfl, rfl⟩
  all_goals
    go_enter Tryz.func86, Tryz.ntmps86
    go_wp2_with fail
    refine (HC.out _).mono ?_; rintro e w1 ⟨rfl, rfl⟩
    go_wp2_with fail
    refine (HT.out _).mono ?_; rintro e w1 ⟨rfl, hb1⟩
    go_wp2_with fail
    refine (HP.out _ (HEnv.out.below (((Below.refl _ _).alloc (Nat.le_refl _) _).trans (hb1.mono (by simp))) (Nat.le_refl _))).mono ?_; rintro e w2 ⟨a, rfl, hb2⟩
    have hbw := (own2 (hb1.trans (hb2.mono hb1.size))).2.2.2.2.2
    go_wp2_with fail
    go_ret2
    exact ⟨ret2 (by rw [HV.out, HK.out]; exact (val_out HO.out).symm) (by rw [HE.out, HK.out]; exact (err_out HO.out).symm), hbw⟩
set_option maxRecDepth 100000 in
set_option maxHeartbeats 1000000 in
theorem read_zero (s b : ByteArray) (bl : Bool) (hb : b.data.toList = body s.data.toList) (hbl : below s.data.toList = bl) (hs : s.size ≤ 281474976710656) (hbs : b.size ≤ s.size) (hd : digitsB b.data.toList = true)
    (hp : 0 < b.size) (hz : ((b[0].toNat : Int) == 48) = true) (hz1 : (b.toList == [48]) = false) (hok : okDigits b.data.toList = false) (w : World) (he : Env w) :
    Calls Tryz.prog 86 #[.string s] w fun e w' => e = .returned (.tuple #[.int .i64 (rdV s.data.toList), .int .i64 (rdE s.data.toList)]) ∧ Below w.heap.size w w' := by
  have HC := Lib.hid (fun w => cut_dash s b bl hb hbl w)
  have HV := Lib.hid (rdV_of hb hbl)
  have HE := Lib.hid (rdE_of hb hbl)
  have hne := ne_nil b hp
  have hne2 : b.toList.isEmpty = false := by simpa using hne
  have ht : Lib.trimS b.data.toList [48, 49, 50, 51, 52, 53, 54, 55, 56, 57] = [] := (trim_digits _).2 (by simp only [digitsB, Bool.and_eq_true] at hd; exact hd.1)
  have HT := Lib.hid (fun w => trim_to b ⟨#[]⟩ (by omega) (by rw [ht]) w)
  have HK := Lib.hid hok
  clear hb hbl ht hd hok he
  cases bl
  all_goals
    go_enter Tryz.func86, Tryz.ntmps86
    go_wp2_with fail
    refine (HC.out _).mono ?_; rintro e w1 ⟨rfl, rfl⟩
    go_wp2_with fail
    refine (HT.out _).mono ?_; rintro e w1 ⟨rfl, hb1⟩
    go_wp2_with fail
    have hbw := (own2 hb1).2.2.2.2.2
    go_ret2
    exact ⟨ret2 (by rw [HV.out, HK.out]; rfl) (by rw [HE.out, HK.out]; rfl), hbw⟩
set_option maxRecDepth 100000 in
set_option maxHeartbeats 1000000 in
theorem read_odd (s b : ByteArray) (bl : Bool) (hb : b.data.toList = body s.data.toList) (hbl : below s.data.toList = bl) (hs : s.size ≤ 281474976710656) (hbs : b.size ≤ s.size) (hd : b.data.toList.all isDig = false)
    (hp : 0 < b.size) (w : World) (he : Env w) :
    Calls Tryz.prog 86 #[.string s] w fun e w' => e = .returned (.tuple #[.int .i64 (rdV s.data.toList), .int .i64 (rdE s.data.toList)]) ∧ Below w.heap.size w w' := by
  have HC := Lib.hid (fun w => cut_dash s b bl hb hbl w)
  have HV := Lib.hid (rdV_of hb hbl)
  have HE := Lib.hid (rdE_of hb hbl)
  have hne := ne_nil b hp
  have hne2 : b.toList.isEmpty = false := by simpa using hne
  have HK := Lib.hid (not_ok_dig b.data.toList (by unfold digitsB; rw [hd]; rfl))
  have ht : ¬ Lib.trimS b.data.toList [48, 49, 50, 51, 52, 53, 54, 55, 56, 57] = [] := fun h => by rw [(trim_digits _).1 h] at hd; cases hd
  obtain ⟨t, htt⟩ : ∃ t : ByteArray, (Lib.trimS b.data.toList [48, 49, 50, 51, 52, 53, 54, 55, 56, 57]).toArray = t.data := ⟨⟨_⟩, rfl⟩
  have hnt : ¬ t.toList = [] := by
    rw [ByteArray.toList_eq, ← htt]; exact ht
  have hnt2 : t.toList.isEmpty = false := by simpa using hnt
  have HT := Lib.hid (fun w => trim_to b t (by omega) htt w)
  clear hb hbl ht hd he htt
  cases bl
  all_goals
    go_enter Tryz.func86, Tryz.ntmps86
    go_wp2_with fail
    refine (HC.out _).mono ?_; rintro e w1 ⟨rfl, rfl⟩
    go_wp2_with fail
    refine (HT.out _).mono ?_; rintro e w1 ⟨rfl, hb1⟩
    go_wp2_with fail
    have hbw := (own2 hb1).2.2.2.2.2
    go_ret2
    exact ⟨ret2 (by rw [HV.out, HK.out]; rfl) (by rw [HE.out, HK.out]; rfl), hbw⟩
set_option maxRecDepth 100000 in
set_option maxHeartbeats 1000000 in
theorem read_empty (s b : ByteArray) (bl : Bool) (hb : b.data.toList = body s.data.toList) (hbl : below s.data.toList = bl) (hs : s.size ≤ 281474976710656) (hbs : b.size ≤ s.size) (hp : b.size = 0) (w : World) (he : Env w) :
    Calls Tryz.prog 86 #[.string s] w fun e w' => e = .returned (.tuple #[.int .i64 (rdV s.data.toList), .int .i64 (rdE s.data.toList)]) ∧ Below w.heap.size w w' := by
  have HC := Lib.hid (fun w => cut_dash s b bl hb hbl w)
  have HV := Lib.hid (rdV_of hb hbl)
  have HE := Lib.hid (rdE_of hb hbl)
  have hbe : b = ⟨#[]⟩ := ByteArray.ext (Array.eq_empty_of_size_eq_zero hp)
  have HK := Lib.hid (not_ok_dig b.data.toList (by rw [hbe]; rfl))
  clear hb hbl he hp
  subst hbe
  cases bl
  all_goals
    go_enter Tryz.func86, Tryz.ntmps86
    go_wp2_with fail
    refine (HC.out _).mono ?_; rintro e w1 ⟨rfl, rfl⟩
    go_wp2_with fail
    go_ret2
    exact ⟨ret2 (by rw [HV.out, HK.out]; rfl) (by rw [HE.out, HK.out]; rfl), (Below.refl _ _).alloc (Nat.le_refl _) _⟩
theorem zero_only (b : ByteArray) (hp : 0 < b.size) (hz : (b[0].toNat : Int) = 48) : (b.toList == [48]) = decide (b.size ≤ 1) := by
  rw [ByteArray.toList_eq]
  obtain ⟨c, r, hl⟩ : ∃ c r, b.data.toList = c :: r := by
    cases hl : b.data.toList with
    | nil => have h2 : b.data.toList.length = 0 := by rw [hl]; rfl
             rw [Array.length_toList] at h2; change 0 < b.data.size at hp; omega
    | cons c r => exact ⟨c, r, rfl⟩
  have e : b[0] = c := by
    have : b.data.toList[0]? = some b[0] := by rw [List.getElem?_eq_getElem (by simpa using hp)]; rfl
    rw [hl] at this; simpa using this.symm
  have hc : c = 48 := UInt8.toNat_inj.1 (by rw [e] at hz; have : (48 : UInt8).toNat = 48 := rfl; omega)
  have hsz : b.size = r.length + 1 := by
    have : b.data.toList.length = r.length + 1 := by rw [hl]; rfl
    rw [Array.length_toList] at this; exact this
  rw [hl, hc, hsz]
  cases r with
  | nil => rfl
  | cons d q => simp
theorem read_any (s : ByteArray) (hs : s.size ≤ 281474976710656) (w : World) (he : Env w) :
    Calls Tryz.prog 86 #[.string s] w fun e w' => e = .returned (.tuple #[.int .i64 (rdV s.data.toList), .int .i64 (rdE s.data.toList)]) ∧ Below w.heap.size w w' := by
  obtain ⟨b, hb⟩ : ∃ b : ByteArray, b.data.toList = body s.data.toList := ⟨⟨(body s.data.toList).toArray⟩, rfl⟩
  have hbs : b.size ≤ s.size := by
    have h : b.data.toList.length ≤ s.data.toList.length := by rw [hb]; unfold body; split <;> simp
    simp only [Array.length_toList] at h; exact h
  rcases Nat.eq_zero_or_pos b.size with h0 | hp
  · exact read_empty s b _ hb rfl hs hbs h0 w he
  cases hd : b.data.toList.all isDig with
  | false => exact read_odd s b _ hb rfl hs hbs hd hp w he
  | true =>
    have hne : b.data.toList.isEmpty = false := by
      have := ne_nil b hp
      rw [ByteArray.toList_eq] at this; simpa using this
    have hdig : digitsB b.data.toList = true := by unfold digitsB; rw [hd, hne]; rfl
    by_cases hz : (b[0].toNat : Int) = 48
    · have h1 := zero_only b hp hz
      by_cases hs1 : b.size ≤ 1
      · have hok := ok_size b hdig hp (fun _ => hs1)
        by_cases hin : num b.data.toList ≤ 18446744073709551615
        · exact read_ok s b _ hb rfl hs hbs hdig true true hp (by simpa using hz) (by rw [h1]; simpa using hs1) (fun _ => rfl) hok hin w he
        · exact read_over s b _ hb rfl hs hbs hdig true true hp (by simpa using hz) (by rw [h1]; simpa using hs1) (fun _ => rfl) hok hin w he
      · exact read_zero s b _ hb rfl hs hbs hdig hp (by simpa using hz) (by rw [h1]; simpa using hs1) (not_ok_zero b hp hz (by omega)) w he
    · have hok := ok_size b hdig hp (fun h => absurd h hz)
      by_cases hin : num b.data.toList ≤ 18446744073709551615
      · exact read_ok s b _ hb rfl hs hbs hdig false _ hp (by simpa using hz) rfl (fun h => by cases h) hok hin w he
      · exact read_over s b _ hb rfl hs hbs hdig false _ hp (by simpa using hz) rfl (fun h => by cases h) hok hin w he
end Go.Proofs.YtjhgiojmlkeccaaGreatDoor
namespace Go.Proofs.YtjhgiojmlkeccaaGreatDoor
open Go.RowKit Go.Lib

def front (l : List UInt8) : List UInt8 := l.takeWhile (· != 46)
def back (l : List UInt8) : List UInt8 := (l.dropWhile (· != 46)).tail
def point (l : List UInt8) : Bool := l.contains 46
theorem front_back (l : List UInt8) (h : point l = true) : l = front l ++ 46 :: back l := by
  have hl := List.takeWhile_append_dropWhile (p := (· != 46)) (l := l)
  cases hd : l.dropWhile (· != 46) with
  | nil =>
    exfalso
    rw [hd, List.append_nil] at hl
    have hm : (46 : UInt8) ∈ l := by simpa [point] using h
    rw [← hl] at hm
    have := List.all_eq_true.1 (List.all_takeWhile (p := (· != 46)) (l := l)) 46 hm
    simp at this
  | cons c r =>
    have hc : c = 46 := by
      have := List.head_dropWhile_not (p := (· != 46)) (l := l) (by rw [hd]; simp)
      simp only [hd, List.head_cons] at this
      simpa using this
    rw [hd, hc] at hl
    unfold front back
    rw [hd]
    exact hl.symm
theorem front_none (l : List UInt8) (h : point l = false) : front l = l ∧ back l = [] := by
  have hm : ∀ x ∈ l, (x != 46) = true := fun x hx => by
    simp only [bne_iff_ne, ne_eq]; rintro rfl
    simp [point] at h; exact h hx
  have hd : l.dropWhile (· != 46) = [] := dropWhile_all (List.all_eq_true.2 hm)
  have hl := List.takeWhile_append_dropWhile (p := (· != 46)) (l := l)
  rw [hd, List.append_nil] at hl
  refine ⟨hl, ?_⟩
  unfold back
  rw [hd]; rfl
/-- A mantissa and a scale, in one way: no nought at the end behind the point. -/
def norm : Nat → Int → Int × Nat
  | 0, n => (n, 0)
  | s + 1, n => if n % 10 = 0 then norm s (n / 10) else (n, s + 1)
def may (m : Int) (s : Int) : Bool := decide (0 ≤ s ∧ s ≤ 18 ∧ (s = 0 ∨ ¬ m % 10 = 0))
def chk (m : Int) (s : Int) : Int := if may m s then 0 else 140
theorem norm_le : ∀ (s : Nat) (n : Int), (norm s n).2 ≤ s
  | 0, n => Nat.le_refl 0
  | s + 1, n => by
    rw [norm]; split
    · exact Nat.le_succ_of_le (norm_le s _)
    · exact Nat.le_refl _
theorem norm_zero : ∀ (s : Nat), norm s 0 = (0, 0)
  | 0 => rfl
  | s + 1 => by rw [norm, if_pos (by decide)]; exact norm_zero s
theorem norm_last : ∀ (s : Nat) (n : Int), (norm s n).2 = 0 ∨ ¬ (norm s n).1 % 10 = 0
  | 0, n => .inl rfl
  | s + 1, n => by
    rw [norm]; split
    · exact norm_last s _
    · rename_i h; exact .inr h
theorem norm_may (s : Nat) (n : Int) (h : s ≤ 18) : may (norm s n).1 (norm s n).2 = true := by
  have h1 := norm_le s n
  have h2 := norm_last s n
  unfold may; rw [decide_eq_true_eq]
  refine ⟨by omega, by omega, ?_⟩
  rcases h2 with h2 | h2
  · left; omega
  · exact .inr h2
theorem norm_val : ∀ (s : Nat) (n : Int), n = (norm s n).1 * 10 ^ (s - (norm s n).2)
  | 0, n => by simp [norm]
  | s + 1, n => by
    have hle := norm_le s (n / 10)
    rw [norm]; split
    · rename_i h
      have ih := norm_val s (n / 10)
      rw [show s + 1 - (norm s (n / 10)).2 = (s - (norm s (n / 10)).2) + 1 by omega, Int.pow_succ, ← Int.mul_assoc, ← ih]
      omega
    · simp
theorem norm_id (m : Int) (s : Nat) (h : may m s = true) : norm s m = (m, s) := by
  unfold may at h; rw [decide_eq_true_eq] at h
  cases s with
  | zero => rfl
  | succ s =>
    rw [norm, if_neg]
    rcases h.2.2 with h1 | h1
    · omega
    · exact h1
theorem norm_scale (s : Nat) (n : Int) : ∀ k : Nat, norm (s + k) (n * 10 ^ k) = norm s n
  | 0 => by simp
  | k + 1 => by
    rw [show s + (k + 1) = (s + k) + 1 from rfl, norm, if_pos (by rw [Int.pow_succ, ← Int.mul_assoc]; exact Int.mul_emod_left _ _), Int.pow_succ, ← Int.mul_assoc, Int.mul_ediv_cancel _ (by decide)]
    exact norm_scale s n k
theorem norm_neg : ∀ (s : Nat) (n : Int), norm s (-n) = (-(norm s n).1, (norm s n).2)
  | 0, n => rfl
  | s + 1, n => by
    rw [norm, norm]
    by_cases h : n % 10 = 0
    · rw [if_pos h, if_pos (by omega), show -n / 10 = -(n / 10) by omega]
      exact norm_neg s _
    · rw [if_neg h, if_neg (by omega)]
theorem norm_abs : ∀ (s : Nat) (n : Int), (norm s n).1.natAbs ≤ n.natAbs
  | 0, n => Nat.le_refl _
  | s + 1, n => by
    rw [norm]; split
    · exact Nat.le_trans (norm_abs s _) (by omega)
    · exact Nat.le_refl _
theorem norm_sign : ∀ (s : Nat) (n : Int), (n < 0 → (norm s n).1 < 0) ∧ (0 ≤ n → 0 ≤ (norm s n).1)
  | 0, n => ⟨fun h => h, fun h => h⟩
  | s + 1, n => by
    rw [norm]; split
    · have ih := norm_sign s (n / 10)
      exact ⟨fun h => ih.1 (by omega), fun h => ih.2 (by omega)⟩
    · exact ⟨fun h => h, fun h => h⟩
theorem norm_R (s : Nat) (n : Int) (h : R n) : R (norm s n).1 := by
  have h1 := norm_abs s n
  have h2 := norm_sign s n
  unfold R at *
  by_cases hn : n < 0
  · have := h2.1 hn; omega
  · have := h2.2 (by omega); omega
/-- A Decimal at the greatest scale. -/
def scl (m : Int) (s : Int) : Int := m * 10 ^ (18 - s.toNat)
def cmpI (a b : Int) : Int := if a < b then -1 else if a = b then 0 else 1
theorem may_bd {m s : Int} (h : may m s = true) : 0 ≤ s ∧ s ≤ 18 := by unfold may at h; rw [decide_eq_true_eq] at h; omega
theorem norm_scl {m s : Int} (h : may m s = true) : norm 18 (scl m s) = (m, s.toNat) := by
  obtain ⟨h0, h1⟩ := may_bd h
  obtain ⟨k, rfl⟩ := Int.eq_ofNat_of_zero_le h0
  have e := norm_scale k m (18 - k)
  rw [show k + (18 - k) = 18 by omega] at e
  unfold scl
  rw [Int.toNat_natCast, e]
  exact norm_id m k h
theorem scl_inj {m s n t : Int} (h : may m s = true) (k : may n t = true) (e : scl m s = scl n t) : m = n ∧ s = t := by
  have h1 := norm_scl h
  have h2 := norm_scl k
  rw [e, h2] at h1
  simp only [Prod.mk.injEq] at h1
  have := may_bd h; have := may_bd k
  exact ⟨h1.1.symm, by omega⟩
theorem cmpI_neg (a b : Int) : cmpI b a = -cmpI a b := by
  unfold cmpI
  rcases Int.lt_trichotomy a b with h | h | h
  · rw [if_neg (by omega), if_neg (by omega), if_pos h]; rfl
  · subst h; simp
  · rw [if_pos h, if_neg (by omega), if_neg (by omega)]
theorem cmpI_zero (a b : Int) : cmpI a b = 0 ↔ a = b := by
  unfold cmpI
  rcases Int.lt_trichotomy a b with h | h | h
  · rw [if_pos h]; constructor <;> intro q <;> omega
  · subst h; simp
  · rw [if_neg (by omega), if_neg (by omega)]; constructor <;> intro q <;> omega
theorem cmpI_val (a b : Int) : (cmpI a b = -1 ∧ a < b) ∨ (cmpI a b = 0 ∧ a = b) ∨ (cmpI a b = 1 ∧ b < a) := by
  unfold cmpI
  rcases Int.lt_trichotomy a b with h | h | h
  · left; rw [if_pos h]; exact ⟨rfl, h⟩
  · right; left; subst h; simp
  · right; right; rw [if_neg (by omega), if_neg (by omega)]; exact ⟨rfl, h⟩
theorem cmpI_trans (a b c : Int) (h1 : cmpI a b ≤ 0) (h2 : cmpI b c ≤ 0) : cmpI a c = min (cmpI a b) (cmpI b c) := by
  rcases cmpI_val a b with ⟨e1, l1⟩ | ⟨e1, l1⟩ | ⟨e1, l1⟩ <;> rcases cmpI_val b c with ⟨e2, l2⟩ | ⟨e2, l2⟩ | ⟨e2, l2⟩ <;> rcases cmpI_val a c with ⟨e3, l3⟩ | ⟨e3, l3⟩ | ⟨e3, l3⟩ <;> rw [e1, e2, e3] <;> first | rfl | omega
theorem cmpI_add (a b c : Int) : cmpI (a + c) (b + c) = cmpI a b := by
  rcases cmpI_val a b with ⟨e1, l1⟩ | ⟨e1, l1⟩ | ⟨e1, l1⟩ <;> rcases cmpI_val (a + c) (b + c) with ⟨e2, l2⟩ | ⟨e2, l2⟩ | ⟨e2, l2⟩ <;> rw [e1, e2] <;> omega
/-- A sum: mantissa, scale and error. -/
def sumN (a s b t : Int) : Int × Nat := norm 18 (scl a s + scl b t)
def addOk (a s b t : Int) : Bool := may a s && may b t && inR (sumN a s b t).1
def addM (a s b t : Int) : Int := if addOk a s b t then (sumN a s b t).1 else 0
def addS (a s b t : Int) : Int := if addOk a s b t then (sumN a s b t).2 else 0
def addE (a s b t : Int) : Int := if may a s && may b t then (if inR (sumN a s b t).1 then 0 else 20) else 140
def cmpV (a s b t : Int) : Int := if may a s && may b t then cmpI (scl a s) (scl b t) else 0
def cmpE (a s b t : Int) : Int := if may a s && may b t then 0 else 140
theorem add_comm' (a s b t : Int) : addM a s b t = addM b t a s ∧ addS a s b t = addS b t a s ∧ addE a s b t = addE b t a s := by
  have h : sumN a s b t = sumN b t a s := by unfold sumN; rw [Int.add_comm]
  have h2 : addOk a s b t = addOk b t a s := by unfold addOk; rw [h, Bool.and_comm (may a s)]
  unfold addM addS addE
  rw [h2, h, Bool.and_comm (may a s)]
  exact ⟨rfl, rfl, rfl⟩
theorem add_ok_iff (a s b t : Int) : addE a s b t = 0 ↔ addOk a s b t = true := by
  unfold addE addOk
  cases may a s <;> cases may b t <;> cases inR (sumN a s b t).1 <;> simp
theorem add_may {a s b t : Int} (h : addOk a s b t = true) : may (addM a s b t) (addS a s b t) = true := by
  unfold addM addS; rw [h]; exact norm_may _ _ (by decide)
theorem add_scl {a s b t : Int} (h : addOk a s b t = true) : scl (addM a s b t) (addS a s b t) = scl a s + scl b t := by
  unfold addM addS; rw [h]
  simp only [if_true]
  have := norm_val 18 (scl a s + scl b t)
  unfold scl at this ⊢
  rw [Int.toNat_natCast]
  exact this.symm
def pad (m : Int) (s : Nat) : List UInt8 := List.replicate (s + 1 - (Lib.decDigits m.natAbs).length) 48 ++ Lib.decDigits m.natAbs
def txt (m : Int) (s : Nat) : List UInt8 :=
  (if m < 0 then [45] else []) ++ (if s = 0 then pad m s else (pad m s).take ((pad m s).length - s) ++ 46 :: (pad m s).drop ((pad m s).length - s))
def okBack (l : List UInt8) : Bool := digitsB l && decide (l.length ≤ 18)
def pOk (d : List UInt8) : Bool := okDigits (front d) && (!point d || okBack (back d))
def pN (l : List UInt8) : Int := if below l then -(num (front (body l) ++ back (body l)) : Int) else num (front (body l) ++ back (body l))
def parseOk (l : List UInt8) : Bool := pOk (body l) && inR (pN l)
def pM (l : List UInt8) : Int := if parseOk l then (norm (back (body l)).length (pN l)).1 else 0
def pS (l : List UInt8) : Int := if parseOk l then (norm (back (body l)).length (pN l)).2 else 0
def pE (l : List UInt8) : Int := if parseOk l then 0 else 140
theorem dig_point {c : UInt8} (h : isDig c = true) : (c != 46) = true := by
  simp only [isDig, decide_eq_true_eq] at h
  simp only [bne_iff_ne, ne_eq]; rintro rfl
  exact absurd h.1 (by decide)
theorem dig_dash {c : UInt8} (h : isDig c = true) : (c == 45) = false := by
  simp only [isDig, decide_eq_true_eq] at h
  rw [beq_eq_false_iff_ne]; rintro rfl
  exact absurd h.1 (by decide)
theorem front_dig (f : List UInt8) (h : f.all isDig = true) : front f = f ∧ back f = [] ∧ point f = false := by
  have hp : point f = false := by
    unfold point
    rw [Bool.eq_false_iff]
    intro hc
    have := dig_point (List.all_eq_true.1 h 46 (by simpa using hc))
    simp at this
  exact ⟨(front_none f hp).1, (front_none f hp).2, hp⟩
theorem front_app (f b : List UInt8) (h : f.all isDig = true) : front (f ++ 46 :: b) = f ∧ back (f ++ 46 :: b) = b ∧ point (f ++ 46 :: b) = true := by
  have hm : ∀ x ∈ f, (x != 46) = true := fun x hx => dig_point (List.all_eq_true.1 h x hx)
  refine ⟨?_, ?_, ?_⟩
  · unfold front
    rw [List.takeWhile_append_of_pos hm]
    simp
  · unfold back
    rw [List.dropWhile_append_of_pos hm]
    simp
  · unfold point; simp
theorem num_zeros (k : Nat) (l : List UInt8) : num (List.replicate k 48 ++ l) = num l := by
  induction k with
  | zero => rfl
  | succ k ih => rw [List.replicate_succ, List.cons_append, num, numFrom_cons]; exact ih
theorem num_lt (l : List UInt8) (h : l.all isDig = true) : num l < 10 ^ l.length := by
  suffices H : ∀ n : Nat, ∀ l : List UInt8, l.length = n → l.all isDig = true → num l < 10 ^ n from H _ l rfl h
  intro n
  induction n with
  | zero => intro l hl _; rw [List.length_eq_zero_iff.1 hl]; decide
  | succ n ih =>
    intro l hl h
    have hne : l ≠ [] := by intro e; rw [e] at hl; simp at hl
    obtain ⟨m, c, rfl⟩ : ∃ m c, l = m ++ [c] := ⟨l.dropLast, l.getLast hne, (List.dropLast_concat_getLast hne).symm⟩
    simp only [List.all_append, List.all_cons, List.all_nil, Bool.and_true, Bool.and_eq_true] at h
    have h1 := ih m (by simpa using hl) h.1
    have h2 := h.2
    simp only [isDig, decide_eq_true_eq] at h2
    rw [num_snoc, dv, Nat.pow_succ]
    omega
theorem dec_len (u : Nat) : ∀ j : Nat, 1 ≤ j → u < 10 ^ j → (Lib.decDigits u).length ≤ j := by
  induction u using Nat.strongRecOn with
  | _ u ih =>
    intro j hj hu
    rw [Lib.decDigits]
    by_cases h : u < 10
    · rw [dif_pos h]; simpa using hj
    · rw [dif_neg h]
      obtain ⟨i, rfl⟩ : ∃ i, j = i + 1 := ⟨j - 1, by omega⟩
      rw [Nat.pow_succ] at hu
      have hi : 1 ≤ i := by
        rcases Nat.eq_zero_or_pos i with h0 | h0
        · subst h0; simp at hu; omega
        · exact h0
      have := ih (u / 10) (by omega) i hi (by omega)
      simp; omega
theorem all_zeros (k : Nat) : (List.replicate k (48 : UInt8)).all isDig = true := by
  rw [List.all_eq_true]; intro x hx; rw [(List.mem_replicate.1 hx).2]; decide
theorem pad_all (m : Int) (s : Nat) : (pad m s).all isDig = true := by
  unfold pad; rw [List.all_append, all_zeros, (dec_all _).1]; rfl
theorem pad_num (m : Int) (s : Nat) : num (pad m s) = m.natAbs := by
  unfold pad; rw [num_zeros, (dec_all _).2.2]
theorem pad_len (m : Int) (s : Nat) : (pad m s).length = (if (Lib.decDigits m.natAbs).length ≤ s then s + 1 else (Lib.decDigits m.natAbs).length) := by
  unfold pad; rw [List.length_append, List.length_replicate]; split <;> omega
theorem dec_pos (u : Nat) : 1 ≤ (Lib.decDigits u).length := List.length_pos_iff.2 (dec_all u).2.1
theorem okDigits_take (l : List UInt8) (h : okDigits l = true) (k : Nat) (hk : 1 ≤ k) : okDigits (l.take k) = true := by
  obtain ⟨c, r, rfl⟩ : ∃ c r, l = c :: r := by
    cases l with
    | nil => exact absurd h (by decide)
    | cons c r => exact ⟨c, r, rfl⟩
  obtain ⟨k, rfl⟩ : ∃ i, k = i + 1 := ⟨k - 1, by omega⟩
  simp only [okDigits, digitsB, Bool.and_eq_true, List.all_cons, List.take_succ_cons, List.isEmpty_cons, Bool.not_false, and_true, List.head?_cons, List.length_cons, Bool.not_eq_true', Bool.and_eq_false_iff] at h ⊢
  obtain ⟨⟨h1, h2⟩, h3⟩ := h
  refine ⟨⟨h1, ?_⟩, ?_⟩
  · exact List.all_eq_true.2 fun x hx => List.all_eq_true.1 h2 x (List.mem_of_mem_take hx)
  · rcases h3 with h3 | h3
    · exact .inl h3
    · right
      have h3' := of_decide_eq_false h3
      have h4 : (List.take k r).length ≤ r.length := List.length_take_le' k r
      exact decide_eq_false (show ¬ 1 < (List.take k r).length + 1 by change ¬ 1 < r.length + 1 at h3'; omega)
/-- What stands behind the sign. -/
def core (m : Int) (s : Nat) : List UInt8 := if s = 0 then pad m s else (pad m s).take ((pad m s).length - s) ++ 46 :: (pad m s).drop ((pad m s).length - s)
theorem core_head (m : Int) (s : Nat) : below (core m s) = false := by
  have h := pad_all m s
  have hne : pad m s ≠ [] := by
    have := pad_len m s
    intro e; rw [e] at this
    have := dec_pos m.natAbs
    split at * <;> simp at * <;> omega
  have hl := pad_len m s
  have hd := dec_pos m.natAbs
  obtain ⟨c, r, hp⟩ : ∃ c r, pad m s = c :: r := by
    cases hp : pad m s with
    | nil => exact absurd hp hne
    | cons c r => exact ⟨c, r, rfl⟩
  rw [hp] at h
  simp only [List.all_cons, Bool.and_eq_true] at h
  unfold core
  split
  · rw [hp]; exact dig_dash h.1
  · have : 1 ≤ (pad m s).length - s := by split at hl <;> omega
    obtain ⟨j, hj⟩ : ∃ j, (pad m s).length - s = j + 1 := ⟨(pad m s).length - s - 1, by omega⟩
    rw [hj, hp]; exact dig_dash h.1
theorem txt_body (m : Int) (s : Nat) : below (txt m s) = decide (m < 0) ∧ body (txt m s) = core m s := by
  have hc := core_head m s
  have e : txt m s = (if m < 0 then [45] else []) ++ core m s := rfl
  by_cases h : m < 0
  · rw [e, if_pos h, decide_eq_true h]
    exact ⟨rfl, rfl⟩
  · rw [e, if_neg h, decide_eq_false h, List.nil_append]
    refine ⟨hc, ?_⟩
    unfold body; rw [hc]; rfl
/-- The text's parts. -/
theorem core_parts (m : Int) (s : Nat) : okDigits (front (core m s)) = true ∧ (back (core m s)).all isDig = true ∧ (back (core m s)).length = s ∧ point (core m s) = decide (0 < s) ∧ num (front (core m s) ++ back (core m s)) = m.natAbs := by
  have ha := pad_all m s
  have hl := pad_len m s
  have hd := dec_pos m.natAbs
  unfold core
  by_cases h : s = 0
  · subst h
    rw [if_pos rfl]
    obtain ⟨h1, h2, h3⟩ := front_dig _ ha
    rw [h1, h2, h3, List.append_nil, pad_num]
    refine ⟨?_, rfl, rfl, rfl, rfl⟩
    have : pad m 0 = Lib.decDigits m.natAbs := by unfold pad; rw [show 0 + 1 - (Lib.decDigits m.natAbs).length = 0 by omega]; rfl
    rw [this]; exact dec_ok _
  · rw [if_neg h]
    have hf : ((pad m s).take ((pad m s).length - s)).all isDig = true := List.all_eq_true.2 fun x hx => List.all_eq_true.1 ha x (List.mem_of_mem_take hx)
    obtain ⟨h1, h2, h3⟩ := front_app _ ((pad m s).drop ((pad m s).length - s)) hf
    rw [h1, h2, h3, List.take_append_drop, pad_num]
    refine ⟨?_, List.all_eq_true.2 fun x hx => List.all_eq_true.1 ha x (List.mem_of_mem_drop hx), ?_, (decide_eq_true (by omega)).symm, rfl⟩
    · by_cases hs : (Lib.decDigits m.natAbs).length ≤ s
      · rw [if_pos hs] at hl
        rw [hl, show s + 1 - s = 1 by omega]
        obtain ⟨j, hj⟩ : ∃ j, s + 1 - (Lib.decDigits m.natAbs).length = j + 1 := ⟨s - (Lib.decDigits m.natAbs).length, by omega⟩
        unfold pad
        rw [hj, List.replicate_succ, List.cons_append, List.take_succ_cons, List.take_zero]
        decide
      · have e : pad m s = Lib.decDigits m.natAbs := by unfold pad; rw [show s + 1 - (Lib.decDigits m.natAbs).length = 0 by omega]; rfl
        rw [e]
        exact okDigits_take _ (dec_ok _) _ (by omega)
    · rw [List.length_drop]
      split at hl <;> omega
theorem abs_sign (m : Int) : (if decide (m < 0) = true then -(m.natAbs : Int) else (m.natAbs : Int)) = m := by
  by_cases h : m < 0
  · rw [decide_eq_true h]; simp only [if_true]; omega
  · rw [decide_eq_false h]; simp only [Bool.false_eq_true, if_false]; omega
theorem txt_parse (m : Int) (s : Nat) (hr : R m) (h : may m s = true) : parseOk (txt m s) = true ∧ pN (txt m s) = m ∧ (back (body (txt m s))).length = s := by
  obtain ⟨h1, h2⟩ := txt_body m s
  obtain ⟨p1, p2, p3, p4, p5⟩ := core_parts m s
  have hb := may_bd h
  have hN : pN (txt m s) = m := by unfold pN; rw [h1, h2, p5]; exact abs_sign m
  refine ⟨?_, hN, by rw [h2, p3]⟩
  unfold parseOk pOk
  rw [hN, (inR_iff m).2 hr, h2, p1, p4]
  simp only [Bool.true_and, Bool.and_true, Bool.or_eq_true, Bool.not_eq_true']
  by_cases hs : 0 < s
  · right
    unfold okBack digitsB
    rw [p2, p3]
    have : (back (core m s)).isEmpty = false := by
      rw [List.isEmpty_eq_false_iff]; intro e; rw [e] at p3; simp at p3; omega
    rw [this]; simp; omega
  · left; simpa using hs
/-- THE STAGE'S THEOREM: a Decimal's text tells it. -/
theorem parse_txt (m : Int) (s : Nat) (hr : R m) (h : may m s = true) : pM (txt m s) = m ∧ pS (txt m s) = s ∧ pE (txt m s) = 0 := by
  obtain ⟨h1, h2, h3⟩ := txt_parse m s hr h
  unfold pM pS pE
  rw [h1, h2, h3, norm_id m s h]
  exact ⟨rfl, rfl, rfl⟩
theorem txt_len (m : Int) (s : Nat) : (txt m s).length = (if m < 0 then 1 else 0) + (if (Lib.decDigits m.natAbs).length ≤ s then s + 1 else (Lib.decDigits m.natAbs).length) + (if s = 0 then 0 else 1) := by
  have hl := pad_len m s
  have e : txt m s = (if m < 0 then [45] else []) ++ core m s := rfl
  rw [e, List.length_append]
  have h1 : (if m < 0 then [45] else ([] : List UInt8)).length = (if m < 0 then 1 else 0) := by split <;> rfl
  have h2 : (core m s).length = (pad m s).length + (if s = 0 then 0 else 1) := by
    unfold core; split
    · rfl
    · rw [List.length_append, List.length_cons, List.length_take, List.length_drop]; omega
  rw [h1, h2, hl]; omega
theorem body_len (l : List UInt8) : l.length = (if below l then 1 else 0) + (body l).length := by
  unfold body
  cases l with
  | nil => rfl
  | cons c r => cases h : below (c :: r) <;> simp; omega
/-- What is read may be, and its text is no longer. -/
theorem parse_may (l : List UInt8) (h : parseOk l = true) : may (pM l) (pS l) = true ∧ R (pM l) ∧ (txt (pM l) (pS l).toNat).length ≤ l.length := by
  have hok := h
  unfold parseOk pOk at h
  simp only [Bool.and_eq_true, Bool.or_eq_true, Bool.not_eq_true'] at h
  obtain ⟨⟨hf, hb⟩, hr⟩ := h
  have hf' := hf
  simp only [okDigits, digitsB, Bool.and_eq_true, Bool.not_eq_true', List.isEmpty_eq_false_iff] at hf'
  have hfl : 1 ≤ (front (body l)).length := List.length_pos_iff.2 hf'.1.2
  have hball : (back (body l)).all isDig = true ∧ (back (body l)).length ≤ 18 ∧ (body l).length = (front (body l)).length + (back (body l)).length + (if (back (body l)).length = 0 then 0 else 1) := by
    rcases hb with hb | hb
    · obtain ⟨e1, e2⟩ := front_none _ hb
      rw [e2, e1]; exact ⟨rfl, by decide, by simp⟩
    · simp only [okBack, digitsB, Bool.and_eq_true, decide_eq_true_eq, Bool.not_eq_true', List.isEmpty_eq_false_iff] at hb
      have hpt : point (body l) = true := by
        cases hp : point (body l) with
        | true => rfl
        | false => exact absurd (front_none _ hp).2 hb.1.2
      have e := congrArg List.length (front_back _ hpt)
      rw [List.length_append, List.length_cons] at e
      have h1 : (back (body l)).length ≠ 0 := fun e => hb.1.2 (List.length_eq_zero_iff.1 e)
      refine ⟨hb.1.1, hb.2, ?_⟩
      rw [if_neg h1]; omega
  obtain ⟨hb1, hb2, hb3⟩ := hball
  have hM : pM l = (norm (back (body l)).length (pN l)).1 := by unfold pM; rw [hok]; rfl
  have hS : pS l = (norm (back (body l)).length (pN l)).2 := by unfold pS; rw [hok]; rfl
  have hle := norm_le (back (body l)).length (pN l)
  have hval := norm_val (back (body l)).length (pN l)
  have hsg := norm_sign (back (body l)).length (pN l)
  have hlt := num_lt (front (body l) ++ back (body l)) (by rw [List.all_append, hf'.1.1, hb1]; rfl)
  have habs : (pN l).natAbs = num (front (body l) ++ back (body l)) := by unfold pN; split <;> omega
  have hneg : pN l < 0 → below l = true := by
    intro hn
    cases hbl : below l with
    | true => rfl
    | false => unfold pN at hn; rw [hbl] at hn; simp at hn; omega
  rw [hM, hS]
  refine ⟨norm_may _ _ hb2, norm_R _ _ ((inR_iff _).1 hr), ?_⟩
  rw [Int.toNat_natCast, txt_len, body_len l, hb3]
  generalize hk : (back (body l)).length = k at *
  generalize hn : pN l = n at *
  generalize hmm : norm k n = y at *
  obtain ⟨m, t⟩ := y
  simp only at *
  have hdec : (Lib.decDigits m.natAbs).length ≤ (front (body l)).length + t := by
    apply dec_len _ _ (by omega)
    rw [← habs, hval, Int.natAbs_mul, Int.natAbs_pow, List.length_append, hk] at hlt
    rw [show (front (body l)).length + k = ((front (body l)).length + t) + (k - t) by omega, Nat.pow_add] at hlt
    exact Nat.lt_of_mul_lt_mul_right hlt
  have hs1 : (if m < 0 then 1 else 0) ≤ (if below l = true then 1 else 0 : Nat) := by
    by_cases hm : m < 0
    · have hn0 : n < 0 := by
        by_cases q : n < 0
        · exact q
        · exact absurd (hsg.2 (by omega)) (by omega)
      rw [if_pos hm, if_pos (hneg hn0)]; exact Nat.le_refl _
    · rw [if_neg hm]; exact Nat.zero_le _
  have hs2 : (if t = 0 then 0 else 1) ≤ (if k = 0 then 0 else 1 : Nat) := by
    by_cases ht : t = 0
    · rw [if_pos ht]; exact Nat.zero_le _
    · rw [if_neg ht, if_neg (by omega)]; exact Nat.le_refl _
  have hp : (if (Lib.decDigits m.natAbs).length ≤ t then t + 1 else (Lib.decDigits m.natAbs).length) ≤ (front (body l)).length + t := by
    split <;> omega
  omega
end Go.Proofs.YtjhgiojmlkeccaaGreatDoor
namespace Go.Proofs.YtjhgiojmlkeccaaGreatDoor
open Go.RowKit
theorem ret_im {k : IntKind} {a c : Int} (h : a = c) : Ending.returned (.int k a) = .returned (.int k c) := by rw [h]
theorem tmod_zero (m : Int) : m.tmod 10 = 0 ↔ m % 10 = 0 := by
  rcases Int.le_total 0 m with h | h
  · rw [Int.tmod_eq_emod_of_nonneg h]
  · have e : m.tmod 10 = -((-m).tmod 10) := by rw [Int.neg_tmod, Int.neg_neg]
    rw [e, Int.tmod_eq_emod_of_nonneg (by omega)]; omega
set_option maxRecDepth 100000 in
set_option maxHeartbeats 1000000 in
theorem mcheck_any (m s : Int) (hm : R m) (hs : R s) (w : World) :
    Calls Tryz.prog 90 #[.agg #[.int .i64 m, .int .i64 s]] w fun e w' => e = .returned (.int .i64 (chk m s)) ∧ Below w.heap.size w w' := by
  obtain ⟨m1, m2⟩ := hm
  obtain ⟨s1, s2⟩ := hs
  go_enter Tryz.func90, Tryz.ntmps90
  go_wp2_with fail
  all_goals
    go_ret
    refine ⟨ret_im ?_, (Below.refl _ _).alloc (Nat.le_refl _) _⟩
    go_light
    have ht := tmod_zero m
    have hc : chk m s = if 0 ≤ s ∧ s ≤ 18 ∧ (s = 0 ∨ ¬ m % 10 = 0) then 0 else 140 := by unfold chk may; simp
    rw [hc]
    clear hc
    (try simp only [beq_iff_eq, beq_eq_false_iff_ne] at *)
    split <;> omega
/-- Two blocks of the call's own, behind a call that only makes blocks. -/
theorem keep4 {w W w1 : World} {b c : Nat} {x y x' y' : Value} (hb : Below W.heap.size W w1) (h : W.cell? ⟨b, 0, none⟩ = some x ∧ W.cell? ⟨b, 1, none⟩ = some y ∧ W.cell? ⟨c, 0, none⟩ = some x' ∧ W.cell? ⟨c, 1, none⟩ = some y' ∧ c < W.heap.size ∧ Below w.heap.size w W) (hw : b < c ∧ w.heap.size ≤ b) :
    w1.cell? ⟨b, 0, none⟩ = some x ∧ w1.cell? ⟨b, 1, none⟩ = some y ∧ w1.cell? ⟨c, 0, none⟩ = some x' ∧ w1.cell? ⟨c, 1, none⟩ = some y' ∧ c < w1.heap.size ∧ Below w.heap.size w w1 := by
  obtain ⟨h0, h1, h2, h3, h4, h5⟩ := h
  have hbW : b < W.heap.size := by omega
  exact ⟨(hb.cell (p := ⟨b, 0, none⟩) hbW).trans h0, (hb.cell (p := ⟨b, 1, none⟩) hbW).trans h1, (hb.cell (p := ⟨c, 0, none⟩) h4).trans h2, (hb.cell (p := ⟨c, 1, none⟩) h4).trans h3, Nat.lt_of_lt_of_le h4 hb.size, h5.trans (hb.mono h5.size)⟩
set_option maxRecDepth 100000 in
set_option maxHeartbeats 1000000 in
theorem mboth_any (m s n t : Int) (hm : R m) (hs : R s) (hn : R n) (ht : R t) (w : World) :
    Calls Tryz.prog 92 #[.agg #[.int .i64 m, .int .i64 s], .agg #[.int .i64 n, .int .i64 t]] w fun e w' => e = .returned (.int .i64 (cmpE m s n t)) ∧ Below w.heap.size w w' := by
  have H1 := Lib.hid (fun w => mcheck_any m s hm hs w)
  have H2 := Lib.hid (fun w => mcheck_any n t hn ht w)
  clear hm hs hn ht
  go_enter Tryz.func92, Tryz.ntmps92
  go_wp2_with fail
  go_region_held3 (fun W => W.cell? ⟨w.heap.size, 0, none⟩ = some (.int .i64 m) ∧ W.cell? ⟨w.heap.size, 1, none⟩ = some (.int .i64 s) ∧ W.cell? ⟨w.heap.size + 1, 0, none⟩ = some (.int .i64 n) ∧ W.cell? ⟨w.heap.size + 1, 1, none⟩ = some (.int .i64 t) ∧ w.heap.size + 1 < W.heap.size ∧ Below w.heap.size w W)
     (first | assumption | exact keep4 (by assumption) (by assumption) (by omega) | (refine ⟨by simp [go_sem], by simp [go_sem], by simp [go_sem], by simp [go_sem], by simp, ?_⟩; go_grown; done))
     (first | ((with_reducible refine (H1.out _).mono ?_); rintro e w1 ⟨rfl, hb⟩) | ((with_reducible refine (H2.out _).mono ?_); rintro e w1 ⟨rfl, hb⟩))
  all_goals
    rename_i hS
    obtain ⟨_, _, _, _, hS5, hS6⟩ := hS
    go_wp2
    all_goals
      go_ret
      refine ⟨ret_im ?_, hS6⟩
      go_light
      unfold cmpE chk at *
      cases may m s <;> cases may n t <;> first | rfl | (exfalso; simp_all; done) | (simp at *; omega)
theorem pow_bd (k : Nat) (h : k ≤ 18) : 10 ^ k ≤ 1000000000000000000 := Nat.pow_le_pow_right (by decide) h
/-- A mantissa's distance from 0, by 10 as often as its scale lacks of 18. -/
def mag (m s : Int) : Nat := m.natAbs * 10 ^ (18 - s.toNat)
/-- A number of two words, as one above 0 or below it. -/
def wideV (t : TypeId) (u : Nat) : Value := .iface t (.agg #[.int .u64 ((u / 18446744073709551616 : Nat) : Int), .int .u64 ((u % 18446744073709551616 : Nat) : Int)])
theorem wideV_of (t : TypeId) (f q u : Nat) (h : u = f * q) : Ending.returned (.iface t (.agg #[.int .u64 ((f : Int) * q / 18446744073709551616), .int .u64 ((f : Int) * q % 18446744073709551616)])) = .returned (wideV t u) := by
  subst h; unfold wideV
  rw [Int.natCast_ediv, Int.natCast_emod, Int.natCast_mul]; rfl
theorem below_drewN' (B : Nat) (w : World) (n : Nat) : Below B w (w.drewN n) := ⟨rfl, rfl, rfl, Nat.le_refl _, fun _ _ => rfl⟩
set_option maxRecDepth 100000 in
set_option maxHeartbeats 1000000 in
theorem wof_neg (m s : Int) (hm : R m) (hs : 0 ≤ s) (hs2 : s ≤ 18) (hneg : m < 0) (w : World) :
    Calls Tryz.prog 93 #[.agg #[.int .i64 m, .int .i64 s]] w fun e w' => e = .returned (wideV 150 (mag m s)) ∧ Below w.heap.size w w' := by
  obtain ⟨m1, m2⟩ := hm
  obtain ⟨j, hj⟩ : ∃ j : Nat, 18 - s = j := Int.eq_ofNat_of_zero_le (by omega)
  have hj18 : j ≤ 18 := by omega
  have HJ := Lib.hid hj
  clear hj
  obtain ⟨f, hf⟩ : ∃ f : Nat, IntKind.u64.wrap (-IntKind.u64.wrap m) = f := Int.eq_ofNat_of_zero_le (by simp only [IntKind.wrap_u64]; omega)
  have hf2 : f = m.natAbs := by simp only [IntKind.wrap_u64] at hf; omega
  have HF := Lib.hid hf
  have hfb : f ≤ 9223372036854775808 := by omega
  have HF2 := Lib.hid hf2
  clear hf hf2
  go_enter Tryz.func93, Tryz.ntmps93
  go_wp2_with fail
  go_quiet (fail)
  go_wp2_with fail
  rw [HJ.out, HF.out]
  go_loop [5, 20] (fun t i => ∃ k : Nat, k ≤ j ∧ i = .int .i64 k ∧ t = .int .u64 ((10 ^ k : Nat) : Int)) (fun _ i => j - (intOf i).toNat)
  case atStart => exact ⟨0, Nat.zero_le _, rfl, rfl⟩
  case round =>
    obtain ⟨k, hk, rfl, rfl⟩ := hrel
    have hp := pow_bd k (by omega)
    generalize hq : 10 ^ k = q at *
    have HQ := Lib.hid hq
    clear hq
    by_cases hlt : k < j
    · have hp1 := pow_bd (k + 1) (by omega)
      rw [Nat.pow_succ, HQ.out] at hp1
      go_wp2_with fail
      go_round
      case rel => exact ⟨k + 1, by omega, by go_num, by rw [Nat.pow_succ, HQ.out]; simp⟩
      case measure => simp [intOf]; omega
    · have hkj : k = j := by omega
      have HK := Lib.hid hkj
      clear hkj
      go_wp2_with fail
      refine (Tryz.bits_Mul64 f q (by omega) (by omega) _).mono ?_; rintro e w1 ⟨rfl, rfl⟩
      go_wp2
      go_ret
      refine ⟨wideV_of _ f q _ ?_, ((Below.refl _ _).alloc (Nat.le_refl _) _).trans (by exact below_drewN' _ _ _)⟩
      have h1 := HJ.out
      have h2 := HQ.out
      have h3 := HK.out
      have h4 := HF2.out
      unfold mag
      rw [show 18 - s.toNat = k by omega, h2, ← h4]
set_option maxRecDepth 100000 in
set_option maxHeartbeats 1000000 in
theorem wof_pos (m s : Int) (hm : R m) (hs : 0 ≤ s) (hs2 : s ≤ 18) (hneg : 0 ≤ m) (w : World) :
    Calls Tryz.prog 93 #[.agg #[.int .i64 m, .int .i64 s]] w fun e w' => e = .returned (wideV 146 (mag m s)) ∧ Below w.heap.size w w' := by
  obtain ⟨m1, m2⟩ := hm
  obtain ⟨j, hj⟩ : ∃ j : Nat, 18 - s = j := Int.eq_ofNat_of_zero_le (by omega)
  have hj18 : j ≤ 18 := by omega
  have HJ := Lib.hid hj
  clear hj
  obtain ⟨f, rfl⟩ := Int.eq_ofNat_of_zero_le hneg
  have hfb : f ≤ 9223372036854775807 := by omega
  go_enter Tryz.func93, Tryz.ntmps93
  go_wp2_with fail
  go_quiet (fail)
  go_wp2_with fail
  rw [HJ.out]
  go_loop [5, 20] (fun t i => ∃ k : Nat, k ≤ j ∧ i = .int .i64 k ∧ t = .int .u64 ((10 ^ k : Nat) : Int)) (fun _ i => j - (intOf i).toNat)
  case atStart => exact ⟨0, Nat.zero_le _, rfl, rfl⟩
  case round =>
    obtain ⟨k, hk, rfl, rfl⟩ := hrel
    have hp := pow_bd k (by omega)
    generalize hq : 10 ^ k = q at *
    have HQ := Lib.hid hq
    clear hq
    by_cases hlt : k < j
    · have hp1 := pow_bd (k + 1) (by omega)
      rw [Nat.pow_succ, HQ.out] at hp1
      go_wp2_with fail
      go_round
      case rel => exact ⟨k + 1, by omega, by go_num, by rw [Nat.pow_succ, HQ.out]; simp⟩
      case measure => simp [intOf]; omega
    · have hkj : k = j := by omega
      have HK := Lib.hid hkj
      clear hkj
      go_wp2_with fail
      refine (Tryz.bits_Mul64 f q (by omega) (by omega) _).mono ?_; rintro e w1 ⟨rfl, rfl⟩
      go_wp2
      go_ret
      refine ⟨wideV_of _ f q _ ?_, ((Below.refl _ _).alloc (Nat.le_refl _) _).trans (by exact below_drewN' _ _ _)⟩
      have h1 := HJ.out
      have h2 := HQ.out
      have h3 := HK.out
      unfold mag
      rw [show 18 - s.toNat = k by omega, h2]; rfl
end Go.Proofs.YtjhgiojmlkeccaaGreatDoor
namespace Go.Proofs.YtjhgiojmlkeccaaGreatDoor
open Go.RowKit
set_option maxRecDepth 100000 in
set_option maxHeartbeats 1000000 in
theorem ccmp_any (x y : Int) (w : World) :
    Calls Tryz.prog 140 #[.int .u64 x, .int .u64 y] w fun e w' => e = .returned (.int .i64 (cmpI x y)) ∧ w = w' := by
  go_enter Tryz.func140, Tryz.ntmps140
  go_wp2
  all_goals
    go_ret
    refine ⟨ret_im ?_, rfl⟩
    go_light
    unfold cmpI
    repeat' split
    all_goals omega
def orI (x y : Int) : Int := if x = 0 then y else x
set_option maxRecDepth 100000 in
set_option maxHeartbeats 1000000 in
theorem cor_any (g : Nat) (x y : Int) (w : World) (h0 : w.cell? ⟨g, 0, none⟩ = some (.int .i64 x)) (h1 : w.cell? ⟨g, 1, none⟩ = some (.int .i64 y)) :
    Calls Tryz.prog 80 #[.slice (some ⟨g, 0, none⟩) 2 2] w fun e w' => e = .returned (.int .i64 (orI x y)) ∧ w = w' := by
  by_cases hx : x = 0
  · subst hx
    by_cases hy : y = 0
    · subst hy
      go_enter Tryz.func80, Tryz.ntmps80
      go_wp2_with fail
      refine wp_loop_rounds 3 ?_
      repeat any_goals (rw [rounds_succ]; go_wp2)
      all_goals (go_ret; exact ⟨rfl, rfl⟩)
    · have hy1 : (y != 0) = true := by simpa using hy
      have HY := Lib.hid hy
      clear hy
      go_enter Tryz.func80, Tryz.ntmps80
      go_wp2_with fail
      refine wp_loop_rounds 3 ?_
      repeat any_goals (rw [rounds_succ]; go_wp2)
      all_goals (go_ret; exact ⟨rfl, rfl⟩)
  · have hx1 : (x != 0) = true := by simpa using hx
    have HX : Hid (orI x y = x) := if_neg hx
    clear hx
    go_enter Tryz.func80, Tryz.ntmps80
    go_wp2_with fail
    refine wp_loop_rounds 3 ?_
    repeat any_goals (rw [rounds_succ]; go_wp2)
    all_goals (go_ret; exact ⟨ret_im HX.out.symm, rfl⟩)
theorem add64_run (x y c : Nat) (hx : x < 18446744073709551616) (hy : y < 18446744073709551616) (hc : c ≤ 1) (w : World) :
    (callFunc 178 #[.int .u64 x, .int .u64 y, .int .u64 c]).run Tryz.prog w =
      .ok (.value (.tuple #[.int .u64 (((x + y + c) % 18446744073709551616 : Nat) : Int), .int .u64 (((x + y + c) / 18446744073709551616 : Nat) : Int)])) w := by
  rw [run_callFunc_extern Tryz.func178 (by kernel_rfl) (by kernel_rfl) (by kernel_rfl) (e := add64Entry) (by kernel_rfl), run_add64 x y c (by omega) (by omega) (by omega) (by omega)]
  simp only [Result.andThen]
  congr 5 <;> omega
theorem sub64_run (x y b : Nat) (hb : b ≤ 1) (w : World) :
    (callFunc 179 #[.int .u64 x, .int .u64 y, .int .u64 b]).run Tryz.prog w =
      .ok (.value (.tuple #[.int .u64 (((x + 18446744073709551616 - y - b) % 18446744073709551616 : Nat) : Int), .int .u64 ((if x < y + b then 1 else 0 : Nat) : Int)])) w := by
  rw [run_callFunc_extern Tryz.func179 (by kernel_rfl) (by kernel_rfl) (by kernel_rfl) (e := sub64Entry) (by kernel_rfl), run_sub64 x y b hb]
  rfl
theorem add64_int (x y c : Int) (hx : 0 ≤ x ∧ x < 18446744073709551616) (hy : 0 ≤ y ∧ y < 18446744073709551616) (hc : 0 ≤ c ∧ c ≤ 1) (w : World) :
    (callFunc 178 #[.int .u64 x, .int .u64 y, .int .u64 c]).run Tryz.prog w = .ok (.value (.tuple #[.int .u64 ((x + y + c) % 18446744073709551616), .int .u64 ((x + y + c) / 18446744073709551616)])) w := by
  obtain ⟨a, rfl⟩ := Int.eq_ofNat_of_zero_le hx.1
  obtain ⟨b, rfl⟩ := Int.eq_ofNat_of_zero_le hy.1
  obtain ⟨d, rfl⟩ := Int.eq_ofNat_of_zero_le hc.1
  rw [add64_run a b d (by omega) (by omega) (by omega) w, Int.natCast_emod, Int.natCast_ediv, Int.natCast_add, Int.natCast_add]; rfl
theorem sub64_int (x y b : Int) (hx : 0 ≤ x ∧ x < 18446744073709551616) (hy : 0 ≤ y ∧ y < 18446744073709551616) (hb : 0 ≤ b ∧ b ≤ 1) (w : World) :
    (callFunc 179 #[.int .u64 x, .int .u64 y, .int .u64 b]).run Tryz.prog w = .ok (.value (.tuple #[.int .u64 ((x - y - b) % 18446744073709551616), .int .u64 (if x < y + b then 1 else 0)])) w := by
  obtain ⟨a, rfl⟩ := Int.eq_ofNat_of_zero_le hx.1
  obtain ⟨c, rfl⟩ := Int.eq_ofNat_of_zero_le hy.1
  obtain ⟨d, rfl⟩ := Int.eq_ofNat_of_zero_le hb.1
  rw [sub64_run a c d (by omega) w]
  have e1 : (((a + 18446744073709551616 - c - d) % 18446744073709551616 : Nat) : Int) = ((a : Int) - c - d) % 18446744073709551616 := by omega
  have e2 : ((if a < c + d then 1 else 0 : Nat) : Int) = if (a : Int) < c + d then 1 else 0 := by split <;> split <;> omega
  rw [e1, e2]
/-- A number of two words. -/
def two (u : Nat) : Value := .agg #[.int .u64 ((u / 18446744073709551616 : Nat) : Int), .int .u64 ((u % 18446744073709551616 : Nat) : Int)]
theorem two_eq (u : Nat) (h l : Int) (e1 : h = ((u / 18446744073709551616 : Nat) : Int)) (e2 : l = ((u % 18446744073709551616 : Nat) : Int)) : Ending.returned (.agg #[.int .u64 h, .int .u64 l]) = .returned (two u) := by
  subst e1; subst e2; rfl
theorem two_add (a b c d : Nat) (ha : a < 9223372036854775808) (hc : c < 9223372036854775808) (hb : b < 18446744073709551616) (hd : d < 18446744073709551616) :
    Ending.returned (.agg #[.int .u64 (((a : Int) + c + ((b : Int) + d) / 18446744073709551616) % 18446744073709551616), .int .u64 (((b : Int) + d) % 18446744073709551616)]) = .returned (two (a * 18446744073709551616 + b + (c * 18446744073709551616 + d))) :=
  two_eq _ _ _ (by omega) (by omega)
theorem two_sub1 (a b c d : Nat) (ha : a < 9223372036854775808) (hc : c < 9223372036854775808) (hb : b < 18446744073709551616) (hd : d < 18446744073709551616) (hle : c * 18446744073709551616 + d ≤ a * 18446744073709551616 + b) (h : (b : Int) < d) :
    Ending.returned (.agg #[.int .u64 (((a : Int) - c - 1) % 18446744073709551616), .int .u64 (((b : Int) - d) % 18446744073709551616)]) = .returned (two (a * 18446744073709551616 + b - (c * 18446744073709551616 + d))) :=
  two_eq _ _ _ (by omega) (by omega)
theorem two_sub0 (a b c d : Nat) (ha : a < 9223372036854775808) (hc : c < 9223372036854775808) (hb : b < 18446744073709551616) (hd : d < 18446744073709551616) (hle : c * 18446744073709551616 + d ≤ a * 18446744073709551616 + b) (h : (d : Int) ≤ b) :
    Ending.returned (.agg #[.int .u64 (((a : Int) - c) % 18446744073709551616), .int .u64 (((b : Int) - d) % 18446744073709551616)]) = .returned (two (a * 18446744073709551616 + b - (c * 18446744073709551616 + d))) :=
  two_eq _ _ _ (by omega) (by omega)
set_option maxRecDepth 100000 in
set_option maxHeartbeats 1000000 in
theorem and_any (a b c d : Nat) (ha : a < 9223372036854775808) (hc : c < 9223372036854775808) (hb : b < 18446744073709551616) (hd : d < 18446744073709551616) (w : World) :
    Calls Tryz.prog 142 #[.agg #[.int .u64 a, .int .u64 b], .agg #[.int .u64 c, .int .u64 d]] w fun e w' => e = .returned (two (a * 18446744073709551616 + b + (c * 18446744073709551616 + d))) ∧ Below w.heap.size w w' := by
  have h1 := fun w => add64_int b d 0 (by omega) (by omega) (by omega) w
  have h2 := fun w => add64_int a c (((b : Int) + d) / 18446744073709551616) (by omega) (by omega) (by omega) w
  rw [Int.add_zero] at h1
  go_enter Tryz.func142, Tryz.ntmps142
  go_wp2_with fail
  refine bodyPost_ret (v := .agg #[.int .u64 (((a : Int) + c + ((b : Int) + d) / 18446744073709551616) % 18446744073709551616), .int .u64 (((b : Int) + d) % 18446744073709551616)]) (by simp [results, Tryz.results142, go_sem]) rfl ⟨two_add a b c d ha hc hb hd, ?_⟩
  exact (((Below.refl _ _).alloc (Nat.le_refl _) _).alloc (by simp) _).alloc (by simp; omega) _
set_option maxRecDepth 100000 in
set_option maxHeartbeats 1000000 in
theorem less_any (a b c d : Nat) (ha : a < 9223372036854775808) (hc : c < 9223372036854775808) (hb : b < 18446744073709551616) (hd : d < 18446744073709551616) (hle : c * 18446744073709551616 + d ≤ a * 18446744073709551616 + b) (w : World) :
    Calls Tryz.prog 143 #[.agg #[.int .u64 a, .int .u64 b], .agg #[.int .u64 c, .int .u64 d]] w fun e w' => e = .returned (two (a * 18446744073709551616 + b - (c * 18446744073709551616 + d))) ∧ Below w.heap.size w w' := by
  have h1 := fun w => sub64_int b d 0 (by omega) (by omega) (by omega) w
  rw [Int.sub_zero, Int.add_zero] at h1
  by_cases hlt : (b : Int) < d
  · have h2 := fun w => sub64_int a c 1 (by omega) (by omega) (by omega) w
    have HF := Lib.hid (two_sub1 a b c d ha hc hb hd hle hlt)
    rw [if_pos hlt] at h1
    go_enter Tryz.func143, Tryz.ntmps143
    go_wp2_with fail
    refine bodyPost_ret (v := .agg #[.int .u64 (((a : Int) - c - 1) % 18446744073709551616), .int .u64 (((b : Int) - d) % 18446744073709551616)]) (by simp [results, Tryz.results143, go_sem]) rfl ⟨HF.out, ?_⟩
    exact (((Below.refl _ _).alloc (Nat.le_refl _) _).alloc (by simp) _).alloc (by simp; omega) _
  · have h2 := fun w => sub64_int a c 0 (by omega) (by omega) (by omega) w
    rw [Int.sub_zero] at h2
    have HF := Lib.hid (two_sub0 a b c d ha hc hb hd hle (by omega))
    rw [if_neg hlt] at h1
    go_enter Tryz.func143, Tryz.ntmps143
    go_wp2_with fail
    refine bodyPost_ret (v := .agg #[.int .u64 (((a : Int) - c) % 18446744073709551616), .int .u64 (((b : Int) - d) % 18446744073709551616)]) (by simp [results, Tryz.results143, go_sem]) rfl ⟨HF.out, ?_⟩
    exact (((Below.refl _ _).alloc (Nat.le_refl _) _).alloc (by simp) _).alloc (by simp; omega) _
end Go.Proofs.YtjhgiojmlkeccaaGreatDoor
namespace Go.Proofs.YtjhgiojmlkeccaaGreatDoor
open Go.RowKit
set_option maxRecDepth 100000 in
set_option maxHeartbeats 1000000 in
theorem than_any (a b c d : Int) (w : World) :
    Calls Tryz.prog 94 #[.agg #[.int .u64 a, .int .u64 b], .agg #[.int .u64 c, .int .u64 d]] w fun e w' => e = .returned (.int .i64 (orI (cmpI a c) (cmpI b d))) ∧ Below w.heap.size w w' := by
  go_enter Tryz.func94, Tryz.ntmps94
  go_wp2_with fail
  go_region_held3 (fun W => W.cell? ⟨w.heap.size, 0, none⟩ = some (.int .u64 a) ∧ W.cell? ⟨w.heap.size, 1, none⟩ = some (.int .u64 b) ∧ W.cell? ⟨w.heap.size + 1, 0, none⟩ = some (.int .u64 c) ∧ W.cell? ⟨w.heap.size + 1, 1, none⟩ = some (.int .u64 d) ∧ w.heap.size + 1 < W.heap.size ∧ Below w.heap.size w W)
     (first | assumption | (refine ⟨by simp [go_sem], by simp [go_sem], by simp [go_sem], by simp [go_sem], by simp, ?_⟩; go_grown; done))
     (first | ((with_reducible refine (ccmp_any _ _ _).mono ?_); rintro e w1 ⟨rfl, rfl⟩) | (go_at_call 80; refine (cor_any (w.heap.size + 1 + 1) (cmpI a c) (cmpI b d) _ (by simp [go_sem]) (by simp [go_sem])).mono ?_; rintro e w1 ⟨rfl, rfl⟩))
  all_goals
    go_wp2
    go_ret
    refine ⟨rfl, ?_⟩
    go_grown
end Go.Proofs.YtjhgiojmlkeccaaGreatDoor
namespace Go.Proofs.YtjhgiojmlkeccaaGreatDoor
open Go.RowKit
theorem wraps_u64 (n : Int) (h₀ : 0 ≤ n) (h₁ : n < 2 ^ 64) : IntKind.u64.wrap n = n := by rw [IntKind.wrap_u64]; omega
theorem ret_i2 {a b c d : Int} (h : a = c) (h' : b = d) : Ending.returned (.tuple #[.int .u64 a, .int .u64 b]) = .returned (.tuple #[.int .u64 c, .int .u64 d]) := by rw [h, h']
theorem below_drawN {B : Nat} {w w1 : World} (n : Nat) (h : Below B w w1) : Below B w (w1.drewN n) := h.trans (below_drewN' _ _ _)
/-- The world but for draws. -/
def Drawn (w w' : World) : Prop := ∃ n, w' = w.drewN n
theorem Drawn.below {B : Nat} {w w' : World} (h : Drawn w w') : Below B w w' := by obtain ⟨n, rfl⟩ := h; exact below_drewN' _ _ _
theorem div10_z (l : Int) (hl : 0 ≤ l) (hl2 : l ≤ 18446744073709551615) (w : World) :
    Calls Tryz.prog 177 #[.int .u64 0, .int .u64 l, .int .u64 10] w fun e w' => e = .returned (.tuple #[.int .u64 (l / 10), .int .u64 (l % 10)]) ∧ Drawn w w' := by
  go_enter Tryz.func177, Tryz.ntmps177
  go_wp2_with fail
  go_quiet (fail)
  go_wp2_with fail
  go_ret2
  exact ⟨rfl, _, rfl⟩
set_option maxRecDepth 100000 in
set_option maxHeartbeats 1000000 in
theorem div10_p (r l : Int) (hr : 1 ≤ r) (hr9 : r ≤ 9) (hl : 0 ≤ l) (hl2 : l ≤ 18446744073709551615) (w : World)
   (h : ∀ w, Calls Tryz.prog 207 #[.int .u64 10] w fun e w' => e = .returned (.int .i64 60) ∧ w = w') :
    Calls Tryz.prog 177 #[.int .u64 r, .int .u64 l, .int .u64 10] w fun e w' => e = .returned (.tuple #[.int .u64 ((r * 18446744073709551616 + l) / 10), .int .u64 ((r * 18446744073709551616 + l) % 10)]) ∧ w = w' := by
  have H := Lib.hid h
  clear h
  have hor : bits BinOp.or IntKind.u64 (r * 1152921504606846976) (l / 16) = r * 1152921504606846976 + l / 16 :=
    bits_join .u64 64 (by decide) wraps_u64 60 _ _ (by omega) (by omega) (by omega) (by omega) (by omega) (by omega)
  obtain ⟨n, hn⟩ : ∃ n : Int, r * 1152921504606846976 + l / 16 = n := ⟨_, rfl⟩
  have n0 : 0 ≤ n := by omega
  have n1 : n ≤ 11529215046068469759 := by omega
  have hsh : IntKind.u64.wrap (l * 1152921504606846976) = (l % 16) * 1152921504606846976 := by rw [IntKind.wrap_u64]; omega
  obtain ⟨k, hk⟩ : ∃ k : Int, (l % 16) * 1152921504606846976 = k := ⟨_, rfl⟩
  have hz : bits BinOp.and IntKind.u64 11529215046068469760 4294967295 = 0 := by decide +kernel
  have k0 : 0 ≤ k := by omega
  have k1 : k ≤ 17293822569102704640 := by omega
  have hm : bits BinOp.and IntKind.u64 k 4294967295 = 0 := by
    have := bits_mask .u64 64 (by decide) wraps_u64 32 (by decide) k k0 (by omega)
    rw [show ((2 : Int) ^ 32 - 1) = 4294967295 by decide] at this
    rw [this]; omega
  have HN := Lib.hid hn.symm
  have HK := Lib.hid hk.symm
  rw [hn] at hor
  rw [hk] at hsh
  have hq : n / 2684354560 ≤ 4294967295 := by omega
  clear hn hk
  have hU : IntKind.u64.wrap (IntKind.u64.wrap (IntKind.u64.wrap (n * 4294967296) + k / 4294967296) - IntKind.u64.wrap (n / 2684354560 * 11529215046068469760)) = (n - n / 2684354560 * 2684354560) * 4294967296 + k / 4294967296 := by
    simp only [IntKind.wrap_u64]; omega
  obtain ⟨u, hu⟩ : ∃ u : Int, (n - n / 2684354560 * 2684354560) * 4294967296 + k / 4294967296 = u := ⟨_, rfl⟩
  have u0 : 0 ≤ u := by omega
  have u1 : u ≤ 11529215046068469759 := by omega
  have HU := Lib.hid hu.symm
  rw [hu] at hU
  have hq0 : u / 2684354560 ≤ 4294967295 := by omega
  clear hu
  go_enter Tryz.func177, Tryz.ntmps177
  go_wp2_with fail
  refine (H.out _).mono ?_; rintro e w1 ⟨rfl, rfl⟩
  go_wp2_with fail
  refine wp_loop_rounds 1 ?_
  rw [rounds_succ]
  go_wp2_with fail
  refine wp_loop_rounds 1 ?_
  rw [rounds_succ]
  go_wp2_with fail
  go_ret2
  refine ⟨ret_i2 ?_ ?_, rfl⟩
  · have h1 := HN.out
    have h2 := HK.out
    have h3 := HU.out
    go_light
    (try simp only [IntKind.wrap_u64])
    subst h3; subst h1; subst h2
    omega
  · have h1 := HN.out
    have h2 := HK.out
    have h3 := HU.out
    go_light
    (try simp only [IntKind.wrap_u64])
    subst h3; subst h1; subst h2
    omega
theorem lz_10 (w : World) : Calls Tryz.prog 207 #[.int .u64 10] w fun e w' => e = .returned (.int .i64 60) ∧ w = w' := by
  have e : ((Lib.bitLen (Int.toNat 10) : Nat) : Int) = 4 := by decide +kernel
  have H := Lib.hid (fun (w : World) => Tryz.bits_Len64 10 w (by omega) (by omega))
  rw [e] at H
  clear e
  go_enter Tryz.func207, Tryz.ntmps207
  go_wp2_with fail
  refine (H.out _).mono ?_; rintro e w1 ⟨rfl, rfl⟩
  go_wp2_with fail
  go_ret
  exact ⟨rfl, rfl⟩
theorem div10_any (r l : Int) (hr : 0 ≤ r) (hr9 : r ≤ 9) (hl : 0 ≤ l) (hl2 : l ≤ 18446744073709551615) (w : World) :
    Calls Tryz.prog 177 #[.int .u64 r, .int .u64 l, .int .u64 10] w fun e w' => e = .returned (.tuple #[.int .u64 ((r * 18446744073709551616 + l) / 10), .int .u64 ((r * 18446744073709551616 + l) % 10)]) ∧ Drawn w w' := by
  by_cases h : r = 0
  · subst h
    refine (div10_z l hl hl2 w).mono ?_
    rintro e w1 ⟨rfl, hb⟩
    exact ⟨ret_i2 (by omega) (by omega), hb⟩
  · refine (div10_p r l (by omega) hr9 hl hl2 w lz_10).mono ?_
    rintro e w1 ⟨rfl, rfl⟩
    exact ⟨rfl, 0, rfl⟩
theorem tenth_eq (h l : Nat) (hh : h < 18446744073709551616) (hl : l < 18446744073709551616) :
    Ending.returned (.tuple #[.agg #[.int .u64 ((h : Int) / 10), .int .u64 (((h : Int) % 10 * 18446744073709551616 + l) / 10)], .int .u64 (((h : Int) % 10 * 18446744073709551616 + l) % 10)]) =
      .returned (.tuple #[two ((h * 18446744073709551616 + l) / 10), .int .u64 (((h * 18446744073709551616 + l) % 10 : Nat) : Int)]) := by
  unfold two
  rw [show ((h : Int) / 10) = (((h * 18446744073709551616 + l) / 10 / 18446744073709551616 : Nat) : Int) by omega,
    show (((h : Int) % 10 * 18446744073709551616 + l) / 10) = (((h * 18446744073709551616 + l) / 10 % 18446744073709551616 : Nat) : Int) by omega,
    show (((h : Int) % 10 * 18446744073709551616 + l) % 10) = (((h * 18446744073709551616 + l) % 10 : Nat) : Int) by omega]
set_option maxRecDepth 100000 in
set_option maxHeartbeats 1000000 in
theorem tenth_any (h l : Nat) (hh : h < 18446744073709551616) (hl : l < 18446744073709551616) (w : World) :
    Calls Tryz.prog 141 #[.agg #[.int .u64 h, .int .u64 l]] w fun e w' => e = .returned (.tuple #[two ((h * 18446744073709551616 + l) / 10), .int .u64 (((h * 18446744073709551616 + l) % 10 : Nat) : Int)]) ∧ Below w.heap.size w w' := by
  have H := Lib.hid (fun w => div10_any ((h : Int) % 10) l (by omega) (by omega) (by omega) (by omega) w)
  go_enter Tryz.func141, Tryz.ntmps141
  go_wp2_with fail
  go_quiet (fail)
  go_wp2_with fail
  refine (H.out _).mono ?_; rintro e w1 ⟨rfl, nr, rfl⟩
  go_wp2_with fail
  refine bodyPost_ret (v := .tuple #[.agg #[.int .u64 ((h : Int) / 10), .int .u64 (((h : Int) % 10 * 18446744073709551616 + l) / 10)], .int .u64 (((h : Int) % 10 * 18446744073709551616 + l) % 10)]) (by simp [results, Tryz.results141, go_sem]) rfl ⟨tenth_eq h l hh hl, ?_⟩
  go_grown
  refine below_drawN _ ?_
  go_grown
end Go.Proofs.YtjhgiojmlkeccaaGreatDoor
namespace Go.Proofs.YtjhgiojmlkeccaaGreatDoor
open Go.RowKit
theorem wideV_mk (t : TypeId) (a b : Nat) (hb : b < 18446744073709551616) : wideV t (a * 18446744073709551616 + b) = .iface t (.agg #[.int .u64 a, .int .u64 b]) := by
  unfold wideV
  rw [show (a * 18446744073709551616 + b) / 18446744073709551616 = a by omega, show (a * 18446744073709551616 + b) % 18446744073709551616 = b by omega]
theorem split2 (u : Nat) (h : u < 170141183460469231731687303715884105728) : ∃ a b : Nat, u = a * 18446744073709551616 + b ∧ a < 9223372036854775808 ∧ b < 18446744073709551616 :=
  ⟨u / 18446744073709551616, u % 18446744073709551616, by omega, by omega, by omega⟩
theorem iface_two (t : TypeId) (u : Nat) : Value.iface t (two u) = wideV t u := rfl
theorem or_cmp (a b c d : Nat) (hb : b < 18446744073709551616) (hd : d < 18446744073709551616) : orI (cmpI a c) (cmpI b d) = cmpI ((a * 18446744073709551616 + b : Nat) : Int) ((c * 18446744073709551616 + d : Nat) : Int) := by
  unfold orI cmpI
  repeat' split
  all_goals first | rfl | omega
theorem than_two (a b c d : Nat) (hb : b < 18446744073709551616) (hd : d < 18446744073709551616) (w : World) :
    Calls Tryz.prog 94 #[.agg #[.int .u64 a, .int .u64 b], .agg #[.int .u64 c, .int .u64 d]] w fun e w' => e = .returned (.int .i64 (cmpI ((a * 18446744073709551616 + b : Nat) : Int) ((c * 18446744073709551616 + d : Nat) : Int))) ∧ Below w.heap.size w w' := by
  rw [← or_cmp a b c d hb hd]
  exact than_any a b c d w
theorem retV {x y : Value} (h : x = y) : Ending.returned x = .returned y := by rw [h]
/-- A number of two words, its words named. -/
theorem two_words (u : Nat) : ∃ p q : Nat, two u = .agg #[.int .u64 p, .int .u64 q] := ⟨_, _, rfl⟩
theorem iface_words {t : TypeId} {u p q : Nat} (h : two u = .agg #[.int .u64 p, .int .u64 q]) : Hid (wideV t u = .iface t (.agg #[.int .u64 p, .int .u64 q])) := Lib.hid (by rw [← iface_two, h])
theorem plus_plus (v : Value) (w : World) : (Instr.typeAssert (.iface 146 v) 20 146 true).run Tryz.prog w = .ok (.tuple #[v, .bool true]) w := by kernel_rfl
theorem minus_plus (v : Value) (w : World) : (Instr.typeAssert (.iface 150 v) 20 146 true).run Tryz.prog w = .ok (.tuple #[.agg #[.int .u64 0, .int .u64 0], .bool false]) w := by kernel_rfl
theorem minus_minus (v : Value) (w : World) : (Instr.typeAssert (.iface 150 v) 20 150 true).run Tryz.prog w = .ok (.tuple #[v, .bool true]) w := by kernel_rfl
theorem plus_minus (v : Value) (w : World) : (Instr.typeAssert (.iface 146 v) 20 150 true).run Tryz.prog w = .ok (.tuple #[.agg #[.int .u64 0, .int .u64 0], .bool false]) w := by kernel_rfl
theorem is_minus (v : Value) (w : World) : (Instr.typeAssert (.iface 150 v) 20 150 false).run Tryz.prog w = .ok v w := by kernel_rfl
/-- What a call that only makes blocks leaves. -/
theorem bcell {W w1 : World} (hb : Below W.heap.size W w1) : (∀ b o, b < W.heap.size → w1.cell? ⟨b, o, none⟩ = W.cell? ⟨b, o, none⟩) ∧ (∀ b o, b < W.heap.size → w1.frozen? ⟨b, o, none⟩ = W.frozen? ⟨b, o, none⟩) :=
  ⟨fun b o h => hb.cell (p := ⟨b, o, none⟩) h, fun b o h => hb.frozen (p := ⟨b, o, none⟩) h⟩
set_option maxRecDepth 100000 in
set_option maxHeartbeats 1000000 in
theorem sum_pp (u v : Nat) (hu : u < 170141183460469231731687303715884105728) (hv : v < 170141183460469231731687303715884105728) (w : World) :
    Calls Tryz.prog 96 #[wideV 146 u, wideV 146 v] w fun e w' => e = .returned (wideV 146 (u + v)) ∧ Below w.heap.size w w' := by
  obtain ⟨a, b, rfl, ha, hb⟩ := split2 u hu
  obtain ⟨c, d, rfl, hc, hd⟩ := split2 v hv
  rw [wideV_mk _ a b hb, wideV_mk _ c d hd]
  have H := Lib.hid (fun w => and_any a b c d ha hc hb hd w)
  obtain ⟨p, q, h2⟩ := two_words (a * 18446744073709551616 + b + (c * 18446744073709551616 + d))
  rw [h2] at H
  have HF := iface_words (t := 146) h2
  clear h2 hu hv
  have t1 := plus_plus
  go_enter Tryz.func96, Tryz.ntmps96
  go_wp2_with fail
  refine (H.out _).mono ?_; rintro e w1 ⟨rfl, hb1⟩
  go_wp2_with fail
  go_ret
  refine ⟨retV HF.out.symm, ?_⟩
  refine Below.trans ?_ (hb1.mono (by simp; omega))
  go_grown
set_option maxRecDepth 100000 in
set_option maxHeartbeats 1000000 in
theorem sum_mm (u v : Nat) (hu : u < 170141183460469231731687303715884105728) (hv : v < 170141183460469231731687303715884105728) (w : World) :
    Calls Tryz.prog 96 #[wideV 150 u, wideV 150 v] w fun e w' => e = .returned (wideV 150 (u + v)) ∧ Below w.heap.size w w' := by
  obtain ⟨a, b, rfl, ha, hb⟩ := split2 u hu
  obtain ⟨c, d, rfl, hc, hd⟩ := split2 v hv
  rw [wideV_mk _ a b hb, wideV_mk _ c d hd]
  have H := Lib.hid (fun w => and_any a b c d ha hc hb hd w)
  obtain ⟨p, q, h2⟩ := two_words (a * 18446744073709551616 + b + (c * 18446744073709551616 + d))
  rw [h2] at H
  have HF := iface_words (t := 150) h2
  clear h2 hu hv
  have t1 := minus_plus
  have t2 := minus_minus
  go_enter Tryz.func96, Tryz.ntmps96
  go_wp2_with fail
  refine (H.out _).mono ?_; rintro e w1 ⟨rfl, hb1⟩
  go_wp2_with fail
  go_ret
  refine ⟨retV HF.out.symm, ?_⟩
  refine Below.trans ?_ (hb1.mono (by simp; omega))
  go_grown
set_option maxRecDepth 100000 in
set_option maxHeartbeats 1000000 in
theorem sum_pm_lt (u v : Nat) (hu : u < 170141183460469231731687303715884105728) (hv : v < 170141183460469231731687303715884105728) (h : u < v) (w : World) :
    Calls Tryz.prog 96 #[wideV 146 u, wideV 150 v] w fun e w' => e = .returned (wideV 150 (v - u)) ∧ Below w.heap.size w w' := by
  obtain ⟨a, b, rfl, ha, hb⟩ := split2 u hu
  obtain ⟨c, d, rfl, hc, hd⟩ := split2 v hv
  rw [wideV_mk _ a b hb, wideV_mk _ c d hd]
  have H := Lib.hid (fun w => less_any c d a b hc ha hd hb (Nat.le_of_lt h) w)
  have HT := Lib.hid (fun w => than_two a b c d hb hd w)
  obtain ⟨p, q, h2⟩ := two_words ((c * 18446744073709551616 + d) - (a * 18446744073709551616 + b))
  rw [h2] at H
  have HF := iface_words (t := 150) h2
  obtain ⟨k, hk⟩ : ∃ k, cmpI (((a * 18446744073709551616 + b) : Nat) : Int) (((c * 18446744073709551616 + d) : Nat) : Int) = k := ⟨_, rfl⟩
  rw [hk] at HT
  have hlt : k < 0 := by rw [← hk]; rcases cmpI_val (((a * 18446744073709551616 + b) : Nat) : Int) (((c * 18446744073709551616 + d) : Nat) : Int) with q | q | q <;> omega
  clear h2 hu hv hk h
  have t1 := plus_plus
  have t2 := minus_plus
  have t3 := is_minus
  go_enter Tryz.func96, Tryz.ntmps96
  go_wp2_with fail
  refine (HT.out _).mono ?_; rintro e w1 ⟨rfl, hb1⟩
  obtain ⟨c1, f1⟩ := bcell hb1
  have z1 : w.heap.size + 1 + 1 + 1 ≤ w1.heap.size := by have := hb1.size; simp at this; omega
  go_wp2_with fail
  refine (H.out _).mono ?_; rintro e w2 ⟨rfl, hb2⟩
  go_wp2_with fail
  go_ret
  refine ⟨retV HF.out.symm, ?_⟩
  refine Below.trans ?_ (hb2.mono (by omega))
  refine Below.trans ?_ (hb1.mono (by simp; omega))
  go_grown
set_option maxRecDepth 100000 in
set_option maxHeartbeats 1000000 in
theorem sum_pm_ge (u v : Nat) (hu : u < 170141183460469231731687303715884105728) (hv : v < 170141183460469231731687303715884105728) (h : v ≤ u) (w : World) :
    Calls Tryz.prog 96 #[wideV 146 u, wideV 150 v] w fun e w' => e = .returned (wideV 146 (u - v)) ∧ Below w.heap.size w w' := by
  obtain ⟨a, b, rfl, ha, hb⟩ := split2 u hu
  obtain ⟨c, d, rfl, hc, hd⟩ := split2 v hv
  rw [wideV_mk _ a b hb, wideV_mk _ c d hd]
  have H := Lib.hid (fun w => less_any a b c d ha hc hb hd h w)
  have HT := Lib.hid (fun w => than_two a b c d hb hd w)
  obtain ⟨p, q, h2⟩ := two_words ((a * 18446744073709551616 + b) - (c * 18446744073709551616 + d))
  rw [h2] at H
  have HF := iface_words (t := 146) h2
  obtain ⟨k, hk⟩ : ∃ k, cmpI (((a * 18446744073709551616 + b) : Nat) : Int) (((c * 18446744073709551616 + d) : Nat) : Int) = k := ⟨_, rfl⟩
  rw [hk] at HT
  have hlt : 0 ≤ k := by rw [← hk]; rcases cmpI_val (((a * 18446744073709551616 + b) : Nat) : Int) (((c * 18446744073709551616 + d) : Nat) : Int) with q | q | q <;> omega
  clear h2 hu hv hk h
  have t1 := plus_plus
  have t2 := minus_plus
  have t3 := is_minus
  go_enter Tryz.func96, Tryz.ntmps96
  go_wp2_with fail
  refine (HT.out _).mono ?_; rintro e w1 ⟨rfl, hb1⟩
  obtain ⟨c1, f1⟩ := bcell hb1
  have z1 : w.heap.size + 1 + 1 + 1 ≤ w1.heap.size := by have := hb1.size; simp at this; omega
  go_wp2_with fail
  refine (H.out _).mono ?_; rintro e w2 ⟨rfl, hb2⟩
  go_wp2_with fail
  go_ret
  refine ⟨retV HF.out.symm, ?_⟩
  refine Below.trans ?_ (hb2.mono (by omega))
  refine Below.trans ?_ (hb1.mono (by simp; omega))
  go_grown
set_option maxRecDepth 100000 in
set_option maxHeartbeats 1000000 in
theorem sum_mp (u v : Nat) (w : World) (r : Value) (H : Hid (∀ w, Calls Tryz.prog 96 #[wideV 146 v, wideV 150 u] w fun e w' => e = .returned r ∧ Below w.heap.size w w')) :
    Calls Tryz.prog 96 #[wideV 150 u, wideV 146 v] w fun e w' => e = .returned r ∧ Below w.heap.size w w' := by
  obtain ⟨p, q, h1⟩ := two_words u
  obtain ⟨p', q', h2⟩ := two_words v
  rw [(iface_words h1).out, (iface_words h2).out] at *
  clear h1 h2
  have t1 := plus_minus
  have t2 := minus_plus
  have t3 := minus_minus
  go_enter Tryz.func96, Tryz.ntmps96
  go_wp2_with fail
  refine (H.out _).mono ?_; rintro e w1 ⟨rfl, hb1⟩
  go_wp2_with fail
  go_ret
  refine ⟨rfl, ?_⟩
  refine Below.trans ?_ (hb1.mono (by simp; omega))
  go_grown
end Go.Proofs.YtjhgiojmlkeccaaGreatDoor
namespace Go.Proofs.YtjhgiojmlkeccaaGreatDoor
open Go.RowKit
/-- What stands ahead of the first c; what stands behind it; does one stand there? -/
def ahead (c : UInt8) (l : List UInt8) : List UInt8 := l.takeWhile (· != c)
def behind (c : UInt8) (l : List UInt8) : List UInt8 := (l.dropWhile (· != c)).tail
theorem behind_nil_of (c : UInt8) : ∀ l : List UInt8, l.contains c = false → ahead c l = l ∧ behind c l = []
  | [], _ => ⟨rfl, rfl⟩
  | b :: l, h => by
    rw [List.contains_cons, Bool.or_eq_false_iff] at h
    have hb : (b != c) = true := by
      have := h.1; rw [beq_eq_false_iff_ne] at this; rw [bne_iff_ne]; exact fun e => this e.symm
    obtain ⟨h1, h2⟩ := behind_nil_of c l h.2
    unfold ahead behind at *
    rw [List.takeWhile_cons_of_pos (p := (· != c)) hb, List.dropWhile_cons_of_pos (p := (· != c)) hb, h1, h2]; exact ⟨rfl, rfl⟩
theorem indexByte_ahead (c : UInt8) : ∀ l : List UInt8, Lib.indexByte l c = if l.contains c then ((ahead c l).length : Int) else -1
  | [] => rfl
  | b :: l => by
    rw [Lib.indexByte, indexByte_ahead c l, List.contains_cons]
    by_cases hb : b = c
    · subst hb; simp [ahead]
    · have h1 : (b == c) = false := by simpa using hb
      have h2 : (c == b) = false := by simpa using fun e => hb e.symm
      have h3 : (ahead c (b :: l)).length = (ahead c l).length + 1 := by
        unfold ahead; rw [List.takeWhile_cons_of_pos (by simpa using hb)]; rfl
      rw [h1, h2, h3]
      cases hl : l.contains c
      · rfl
      · have : (((ahead c l).length : Int) == -1) = false := by rw [beq_eq_false_iff_ne]; omega
        simp only [Bool.false_or, if_true, Bool.false_eq_true, if_false, this]; omega
theorem ahead_behind (c : UInt8) : ∀ l : List UInt8, l.contains c = true → l = ahead c l ++ c :: behind c l
  | [], h => by cases h
  | b :: l, h => by
    by_cases hb : b = c
    · subst hb; simp [ahead, behind]
    · have h2 : (c == b) = false := by simpa using fun e => hb e.symm
      rw [List.contains_cons, h2, Bool.false_or] at h
      have ih := ahead_behind c l h
      unfold ahead behind at *
      rw [List.takeWhile_cons_of_pos (by simpa using hb), List.dropWhile_cons_of_pos (by simpa using hb), List.cons_append, ← ih]
theorem ahead_take (c : UInt8) (l : List UInt8) (h : l.contains c = true) : l.take (ahead c l).length = ahead c l ∧ l.drop ((ahead c l).length + 1) = behind c l ∧ (ahead c l).length < l.length := by
  have e := ahead_behind c l h
  generalize ahead c l = a at *
  generalize behind c l = b at *
  subst e
  refine ⟨by simp, by simp, by simp⟩
theorem indexByteString_run (s : ByteArray) (c : Int) (w : World) :
    (callFunc 198 #[.string s, .int .u8 c]).run Tryz.prog w = .ok (.value (.int .i64 (Lib.indexByte s.data.toList c.toNat.toUInt8))) w := by
  rw [run_callFunc_extern Tryz.func198 (by kernel_rfl) (by kernel_rfl) (by kernel_rfl) (e := Extern.BytealgIndexByte.indexByte) (by kernel_rfl), Lib.run_indexByteString]
  rfl
theorem slIndexByte_any (s : ByteArray) (c : Int) (w : World) :
    Calls Tryz.prog 167 #[.string s, .int .u8 c] w fun e w' => e = .returned (.int .i64 (Lib.indexByte s.data.toList c.toNat.toUInt8)) ∧ w = w' := by
  have h := indexByteString_run s c
  generalize Lib.indexByte s.data.toList c.toNat.toUInt8 = r at *
  go_enter Tryz.func167, Tryz.ntmps167
  go_wp2_with fail
  go_ret
  exact ⟨rfl, rfl⟩
theorem index_one (s : ByteArray) (c : UInt8) (w : World) :
    Calls Tryz.prog 171 #[.string s, .string ⟨#[c]⟩] w fun e w' => e = .returned (.int .i64 (Lib.indexByte s.data.toList c)) ∧ w = w' := by
  by_cases h : s.data.toList = [c]
  · have hs : s = ⟨#[c]⟩ := by
      obtain ⟨d⟩ := s
      have : d = #[c] := by apply Array.ext'; simpa using h
      rw [this]
    subst hs
    have e : Lib.indexByte (⟨#[c]⟩ : ByteArray).data.toList c = 0 := by rw [h]; simp [Lib.indexByte]
    rw [e]
    go_enter Tryz.func171, Tryz.ntmps171
    go_wp2_with fail
    go_ret
    exact ⟨rfl, rfl⟩
  · have hb : ([c] == s.toList) = false := by
      rw [beq_eq_false_iff_ne, ByteArray.toList_eq]; exact fun e => h e.symm
    have H := Lib.hid (fun w => slIndexByte_any s (c.toNat : Int) w)
    rw [show ((c.toNat : Int)).toNat.toUInt8 = c by simp] at H
    clear h
    go_enter Tryz.func171, Tryz.ntmps171
    go_wp2_with fail
    refine (H.out _).mono ?_; rintro e w1 ⟨rfl, rfl⟩
    go_wp2_with fail
    go_ret
    exact ⟨rfl, rfl⟩
theorem ret_cut {a b a' b' : ByteArray} {f : Bool} (h : a = a') (h' : b = b') : Ending.returned (.tuple #[.string a, .string b, .bool f]) = .returned (.tuple #[.string a', .string b', .bool f]) := by rw [h, h']
theorem bytes_ext {a : ByteArray} {l : List UInt8} (h : a.data.toList = l) : a = ⟨l.toArray⟩ := by
  obtain ⟨d⟩ := a
  have : d = l.toArray := by apply Array.ext'; simpa using h
  rw [this]
set_option maxHeartbeats 400000 in
theorem slcut_one (s : ByteArray) (c : UInt8) (hs : s.size ≤ maxLen) (w : World) :
    Calls Tryz.prog 130 #[.string s, .string ⟨#[c]⟩] w fun e w' => e = .returned (.tuple #[.string ⟨(ahead c s.data.toList).toArray⟩, .string ⟨(behind c s.data.toList).toArray⟩, .bool (s.data.toList.contains c)]) ∧ ∃ n, w' = w.drewN n := by
  have H := Lib.hid (fun w => index_one s c w)
  rw [indexByte_ahead] at H
  unfold maxLen at hs
  cases hc : s.data.toList.contains c
  · obtain ⟨h1, h2⟩ := behind_nil_of c _ hc
    rw [hc] at H
    rw [h1, h2]
    clear h1 h2 hc
    simp only [Bool.false_eq_true, if_false] at H
    go_enter Tryz.func130, Tryz.ntmps130
    go_wp2_with fail
    refine (H.out _).mono ?_; rintro e w1 ⟨rfl, rfl⟩
    go_wp2_with fail
    go_ret3
    exact ⟨ret_cut (bytes_ext rfl) rfl, 0, rfl⟩
  · obtain ⟨h1, h2, h3⟩ := ahead_take c _ hc
    rw [hc] at H
    simp only [if_true] at H
    obtain ⟨n, hn⟩ : ∃ n, (ahead c s.data.toList).length = n := ⟨_, rfl⟩
    rw [hn] at H h1 h2 h3
    have hb : n < s.size := by rw [Array.length_toList] at h3; exact h3
    have e1 : s.extract 0 n = ⟨(ahead c s.data.toList).toArray⟩ := bytes_ext (by rw [Lib.extract_data]; simpa using h1)
    have e2 : s.extract (n + 1) s.size = ⟨(behind c s.data.toList).toArray⟩ := bytes_ext (by rw [Lib.extract_to_end]; exact h2)
    have E1 := Lib.hid e1
    have E2 := Lib.hid e2
    have i1 : (n : Int) ≤ (s.size : Int) := by omega
    have i2 : (n : Int) + 1 ≤ (s.size : Int) := by omega
    clear hn h1 h2 h3 hc e1 e2
    go_enter Tryz.func130, Tryz.ntmps130
    go_wp2_with fail
    refine (H.out _).mono ?_; rintro e w1 ⟨rfl, rfl⟩
    go_wp2_with fail
    go_quiet (fail)
    go_wp2_with fail
    go_ret3
    exact ⟨ret_cut E1.out E2.out, _, rfl⟩
theorem cut_one (s : ByteArray) (c : UInt8) (hs : s.size ≤ maxLen) (w : World) :
    Calls Tryz.prog 85 #[.string s, .string ⟨#[c]⟩] w fun e w' => e = .returned (.tuple #[.string ⟨(ahead c s.data.toList).toArray⟩, .string ⟨(behind c s.data.toList).toArray⟩, .bool (s.data.toList.contains c)]) ∧ ∃ n, w' = w.drewN n := by
  have H := Lib.hid (fun w => slcut_one s c hs w)
  generalize (⟨(ahead c s.data.toList).toArray⟩ : ByteArray) = a at *
  generalize (⟨(behind c s.data.toList).toArray⟩ : ByteArray) = b at *
  generalize s.data.toList.contains c = f at *
  clear hs
  go_enter Tryz.func85, Tryz.ntmps85
  go_wp2_with fail
  refine (H.out _).mono ?_; rintro e w1 ⟨rfl, nd, rfl⟩
  go_wp2_with fail
  go_ret3
  exact ⟨rfl, _, rfl⟩
end Go.Proofs.YtjhgiojmlkeccaaGreatDoor
