/- Walks and plain laws of this proof, joined from smaller texts (4). -/
import Derived.Deep.LoopGhost
import Derived.Lib.AppendZerosOnto
import Derived.Laws.IdiomCopy
import Derived.Laws.AppendOwnNone
import Derived.RangeFuncNested
import Derived.RangeFuncBound
import Derived.RangeFuncCalls
import Derived.RangeFuncLeaves
import Derived.Shelf.Abstract
import Derived.Shelf.RegionOpen
import Derived.WalkKit
import Derived.OwnWalkIn
import Derived.TacticsInMore
import Derived.LoopNIn
import Derived.LoopIn
import Derived.Test.YtbejhdhhkpllfaaGreatDoorRows
import Derived.WalkSpells
import Derived.Handy
import Derived.Lib.Hide
import Derived.Deep.Light
import Derived.Lib.ItoaLen
import Derived.Test.YtbejhdhhkpllfaaGreatDoorShelf
import Derived.ProofKit
import Derived.OpenShut
import Derived.Lib.SmallJoins
import Derived.Deep.Slices
import Derived.Deep.Fields
import Derived.ChangeSame
import Derived.Deep.SlicePairs
import Derived.Deep.DeepCutAuto
import Derived.Test.YtbejhdhhkpllfaaGreatDoorRo3
set_option linter.unusedSimpArgs false
set_option linter.unusedVariables false
namespace Go.Proofs.YtbejhdhhkpllfaaGreatDoor
open Go.RowKit
set_option maxRecDepth 100000 in
theorem ixw_0 (s : ByteArray) (lb c : Nat) (W : World) (h0 : W.cell? ⟨lb, 0, none⟩ = some (.string ⟨#[110, 117, 108, 108]⟩)) (h1 : W.cell? ⟨lb, 1, none⟩ = some (.string ⟨#[116, 114, 117, 101]⟩)) (h2 : W.cell? ⟨lb, 2, none⟩ = some (.string ⟨#[102, 97, 108, 115, 101]⟩)) (t0 : (s.toList == [110, 117, 108, 108]) = true) :
    Calls Tryz.prog 80 #[.slice (some ⟨lb, 0, none⟩) 3 c, .string s] W fun e w' => e = .returned (.int .i64 (0)) ∧ W = w' := by
  go_enter Tryz.func80, Tryz.ntmps80
  go_wp2_with fail
  refine wp_loop_rounds 4 ?_
  repeat any_goals (rw [rounds_succ]; go_wp2_with fail)
  all_goals (go_ret; exact ⟨rfl, rfl⟩)
set_option maxRecDepth 100000 in
theorem ixw_1 (s : ByteArray) (lb c : Nat) (W : World) (h0 : W.cell? ⟨lb, 0, none⟩ = some (.string ⟨#[110, 117, 108, 108]⟩)) (h1 : W.cell? ⟨lb, 1, none⟩ = some (.string ⟨#[116, 114, 117, 101]⟩)) (h2 : W.cell? ⟨lb, 2, none⟩ = some (.string ⟨#[102, 97, 108, 115, 101]⟩)) (t0 : (s.toList == [110, 117, 108, 108]) = false) (t1 : (s.toList == [116, 114, 117, 101]) = true) :
    Calls Tryz.prog 80 #[.slice (some ⟨lb, 0, none⟩) 3 c, .string s] W fun e w' => e = .returned (.int .i64 (1)) ∧ W = w' := by
  go_enter Tryz.func80, Tryz.ntmps80
  go_wp2_with fail
  refine wp_loop_rounds 4 ?_
  repeat any_goals (rw [rounds_succ]; go_wp2_with fail)
  all_goals (go_ret; exact ⟨rfl, rfl⟩)
set_option maxRecDepth 100000 in
theorem ixw_2 (s : ByteArray) (lb c : Nat) (W : World) (h0 : W.cell? ⟨lb, 0, none⟩ = some (.string ⟨#[110, 117, 108, 108]⟩)) (h1 : W.cell? ⟨lb, 1, none⟩ = some (.string ⟨#[116, 114, 117, 101]⟩)) (h2 : W.cell? ⟨lb, 2, none⟩ = some (.string ⟨#[102, 97, 108, 115, 101]⟩)) (t0 : (s.toList == [110, 117, 108, 108]) = false) (t1 : (s.toList == [116, 114, 117, 101]) = false) (t2 : (s.toList == [102, 97, 108, 115, 101]) = true) :
    Calls Tryz.prog 80 #[.slice (some ⟨lb, 0, none⟩) 3 c, .string s] W fun e w' => e = .returned (.int .i64 (2)) ∧ W = w' := by
  go_enter Tryz.func80, Tryz.ntmps80
  go_wp2_with fail
  refine wp_loop_rounds 4 ?_
  repeat any_goals (rw [rounds_succ]; go_wp2_with fail)
  all_goals (go_ret; exact ⟨rfl, rfl⟩)
set_option maxRecDepth 100000 in
theorem ixw_no (s : ByteArray) (lb c : Nat) (W : World) (h0 : W.cell? ⟨lb, 0, none⟩ = some (.string ⟨#[110, 117, 108, 108]⟩)) (h1 : W.cell? ⟨lb, 1, none⟩ = some (.string ⟨#[116, 114, 117, 101]⟩)) (h2 : W.cell? ⟨lb, 2, none⟩ = some (.string ⟨#[102, 97, 108, 115, 101]⟩)) (t0 : (s.toList == [110, 117, 108, 108]) = false) (t1 : (s.toList == [116, 114, 117, 101]) = false) (t2 : (s.toList == [102, 97, 108, 115, 101]) = false) :
    Calls Tryz.prog 80 #[.slice (some ⟨lb, 0, none⟩) 3 c, .string s] W fun e w' => e = .returned (.int .i64 (-1)) ∧ W = w' := by
  go_enter Tryz.func80, Tryz.ntmps80
  go_wp2_with fail
  refine wp_loop_rounds 4 ?_
  repeat any_goals (rw [rounds_succ]; go_wp2_with fail)
  all_goals (go_ret; exact ⟨rfl, rfl⟩)
theorem ixw_any (s : ByteArray) (lb c : Nat) (W : World) (h0 : W.cell? ⟨lb, 0, none⟩ = some (.string ⟨#[110, 117, 108, 108]⟩)) (h1 : W.cell? ⟨lb, 1, none⟩ = some (.string ⟨#[116, 114, 117, 101]⟩)) (h2 : W.cell? ⟨lb, 2, none⟩ = some (.string ⟨#[102, 97, 108, 115, 101]⟩)) :
    ∃ i : Int, (decide (0 ≤ i) = wordsK.contains s.data.toList) ∧ Calls Tryz.prog 80 #[.slice (some ⟨lb, 0, none⟩) 3 c, .string s] W fun e w' => e = .returned (.int .i64 i) ∧ W = w' := by
  have e : wordsK.contains s.data.toList = (s.toList == [110, 117, 108, 108] || s.toList == [116, 114, 117, 101] || s.toList == [102, 97, 108, 115, 101]) := by
    unfold wordsK
    rw [ByteArray.toList_eq]
    simp only [List.contains_cons, List.contains_nil, Bool.or_false, Bool.or_assoc]
  rw [e]
  cases t0 : (s.toList == [110, 117, 108, 108]) with
  | true => exact ⟨0, rfl, ixw_0 s lb c W h0 h1 h2 t0⟩
  | false =>
    cases t1 : (s.toList == [116, 114, 117, 101]) with
    | true => exact ⟨1, rfl, ixw_1 s lb c W h0 h1 h2 t0 t1⟩
    | false =>
      cases t2 : (s.toList == [102, 97, 108, 115, 101]) with
      | true => exact ⟨2, rfl, ixw_2 s lb c W h0 h1 h2 t0 t1 t2⟩
      | false => exact ⟨-1, rfl, ixw_no s lb c W h0 h1 h2 t0 t1 t2⟩
set_option maxRecDepth 100000 in
theorem words_any (s : ByteArray) (lb c : Nat) (W : World) (h0 : W.cell? ⟨lb, 0, none⟩ = some (.string ⟨#[110, 117, 108, 108]⟩)) (h1 : W.cell? ⟨lb, 1, none⟩ = some (.string ⟨#[116, 114, 117, 101]⟩)) (h2 : W.cell? ⟨lb, 2, none⟩ = some (.string ⟨#[102, 97, 108, 115, 101]⟩)) :
    Calls Tryz.prog 74 #[.slice (some ⟨lb, 0, none⟩) 3 c, .string s] W fun e w' => e = .returned (.bool (wordsK.contains s.data.toList)) ∧ W = w' := by
  obtain ⟨i, hi, hc⟩ := ixw_any s lb c W h0 h1 h2
  have HC := Lib.hid hc
  clear hc h0 h1 h2
  cases hw : wordsK.contains s.data.toList with
  | true =>
    rw [hw] at hi
    have h0 : (0 : Int) ≤ i := of_decide_eq_true hi
    clear hi hw
    go_enter Tryz.func74, Tryz.ntmps74
    go_wp2_with fail
    refine HC.out.mono ?_; rintro e w1 ⟨rfl, rfl⟩
    go_wp2_with fail
    go_ret
    exact ⟨by first | rfl | simp [h0], rfl⟩
  | false =>
    rw [hw] at hi
    have h0 : ¬ (0 : Int) ≤ i := of_decide_eq_false hi
    clear hi hw
    go_enter Tryz.func74, Tryz.ntmps74
    go_wp2_with fail
    refine HC.out.mono ?_; rintro e w1 ⟨rfl, rfl⟩
    go_wp2_with fail
    go_ret
    exact ⟨by first | rfl | simp [h0], rfl⟩
/-- What stands against a cell of a literal. -/
def badL (c : Cel) : Bool := (!c.name.isEmpty && !nameB c.name) || (c.kind == 4 && wordsK.contains c.text)
theorem litB_bad (V : List Cel) : litB V = (mayB V && !V.any badL) := by
  unfold litB
  congr 1
  induction V with
  | nil => rfl
  | cons c r ih =>
    rw [List.all_cons, List.any_cons, ih]
    unfold badL
    cases c.name.isEmpty <;> cases nameB c.name <;> cases (c.kind == 4) <;> cases wordsK.contains c.text <;> simp
theorem str_ne {x : ByteArray} (h : x.data.toList.isEmpty = false) : ¬ x.toList = [] ∧ x.toList.isEmpty = false := by
  rw [ByteArray.toList_eq]
  refine ⟨fun e => ?_, h⟩
  rw [e] at h; cases h
theorem str_nil {x : ByteArray} (h : x.data.toList.isEmpty = true) : x = ⟨#[]⟩ := by
  apply ByteArray.ext; apply Array.toList_inj.1
  cases hx : x.data.toList with
  | nil => rfl
  | cons a b => rw [hx] at h; cases h
set_option maxRecDepth 100000 in
theorem lclo_e4 (k : Int) (x y : ByteArray) (nu ma : Int) (w : World) (h0 : x.data.toList.isEmpty = true) (h4 : (k == 4) = true) :
    Calls Tryz.prog 73 #[.agg #[.int .u8 k, .string x, .string y, .int .i64 nu, .int .i64 ma]] w fun e w' => e = .returned (.bool (wordsK.contains y.data.toList)) ∧ Below w.heap.size w w' := by
  have hxe := str_nil h0
  subst hxe
  go_enter Tryz.func73, Tryz.ntmps73
  go_wp2_with fail
  refine (words_any y _ 3 ((w.alloc (.cells #[.int .u8 k, .string ⟨#[]⟩, .string y, .int .i64 nu, .int .i64 ma] 59 (0, 0))).alloc (.cells #[.string ⟨#[110, 117, 108, 108]⟩, .string ⟨#[116, 114, 117, 101]⟩, .string ⟨#[102, 97, 108, 115, 101]⟩] 9 (0, 0))) (Lib.cell_of_heap (heap_new _ _ _ (by simp)) 0) (Lib.cell_of_heap (heap_new _ _ _ (by simp)) 1) (Lib.cell_of_heap (heap_new _ _ _ (by simp)) 2)).mono ?_; rintro e w2 ⟨rfl, rfl⟩
  have HB9 : Hid (Below w.heap.size w ((w.alloc (.cells #[.int .u8 k, .string ⟨#[]⟩, .string y, .int .i64 nu, .int .i64 ma] 59 (0, 0))).alloc (.cells #[.string ⟨#[110, 117, 108, 108]⟩, .string ⟨#[116, 114, 117, 101]⟩, .string ⟨#[102, 97, 108, 115, 101]⟩] 9 (0, 0)))) := Lib.hid (((Below.refl _ _).alloc (Nat.le_refl _) _).alloc (by simp) _)
  go_wp2_with fail
  go_ret
  exact ⟨ret_b (by simp), HB9.out⟩
set_option maxRecDepth 100000 in
theorem lclo_e0 (k : Int) (x y : ByteArray) (nu ma : Int) (w : World) (h0 : x.data.toList.isEmpty = true) (h4 : (k == 4) = false) :
    Calls Tryz.prog 73 #[.agg #[.int .u8 k, .string x, .string y, .int .i64 nu, .int .i64 ma]] w fun e w' => e = .returned (.bool false) ∧ Below w.heap.size w w' := by
  have hxe := str_nil h0
  subst hxe
  have HB9 : Hid (Below w.heap.size w (w.alloc (.cells #[.int .u8 k, .string ⟨#[]⟩, .string y, .int .i64 nu, .int .i64 ma] 59 (0, 0)))) := Lib.hid ((Below.refl _ _).alloc (Nat.le_refl _) _)
  go_enter Tryz.func73, Tryz.ntmps73
  go_wp2_with fail
  go_ret
  exact ⟨ret_b (by simp), HB9.out⟩
set_option maxRecDepth 100000 in
theorem lclo_nb (k : Int) (x y : ByteArray) (nu ma : Int) (w : World) (h0 : x.data.toList.isEmpty = false) (HNM : Hid (∀ W, Calls Tryz.prog 11 #[.string x] W fun e w' => e = .returned (.bool false) ∧ W = w')) :
    Calls Tryz.prog 73 #[.agg #[.int .u8 k, .string x, .string y, .int .i64 nu, .int .i64 ma]] w fun e w' => e = .returned (.bool true) ∧ Below w.heap.size w w' := by
  obtain ⟨h1, h2⟩ := str_ne h0
  have HB9 : Hid (Below w.heap.size w (w.alloc (.cells #[.int .u8 k, .string x, .string y, .int .i64 nu, .int .i64 ma] 59 (0, 0)))) := Lib.hid ((Below.refl _ _).alloc (Nat.le_refl _) _)
  go_enter Tryz.func73, Tryz.ntmps73
  go_wp2_with fail
  refine (HNM.out _).mono ?_; rintro e w1 ⟨rfl, rfl⟩
  go_wp2_with fail
  go_ret
  exact ⟨ret_b (by simp), HB9.out⟩
set_option maxRecDepth 100000 in
theorem lclo_n4 (k : Int) (x y : ByteArray) (nu ma : Int) (w : World) (h0 : x.data.toList.isEmpty = false) (HNM : Hid (∀ W, Calls Tryz.prog 11 #[.string x] W fun e w' => e = .returned (.bool true) ∧ W = w')) (h4 : (k == 4) = true) :
    Calls Tryz.prog 73 #[.agg #[.int .u8 k, .string x, .string y, .int .i64 nu, .int .i64 ma]] w fun e w' => e = .returned (.bool (wordsK.contains y.data.toList)) ∧ Below w.heap.size w w' := by
  obtain ⟨h1, h2⟩ := str_ne h0
  go_enter Tryz.func73, Tryz.ntmps73
  go_wp2_with fail
  refine (HNM.out _).mono ?_; rintro e w1 ⟨rfl, rfl⟩
  go_wp2_with fail
  refine (words_any y _ 3 ((w.alloc (.cells #[.int .u8 k, .string x, .string y, .int .i64 nu, .int .i64 ma] 59 (0, 0))).alloc (.cells #[.string ⟨#[110, 117, 108, 108]⟩, .string ⟨#[116, 114, 117, 101]⟩, .string ⟨#[102, 97, 108, 115, 101]⟩] 9 (0, 0))) (Lib.cell_of_heap (heap_new _ _ _ (by simp)) 0) (Lib.cell_of_heap (heap_new _ _ _ (by simp)) 1) (Lib.cell_of_heap (heap_new _ _ _ (by simp)) 2)).mono ?_; rintro e w2 ⟨rfl, rfl⟩
  have HB9 : Hid (Below w.heap.size w ((w.alloc (.cells #[.int .u8 k, .string x, .string y, .int .i64 nu, .int .i64 ma] 59 (0, 0))).alloc (.cells #[.string ⟨#[110, 117, 108, 108]⟩, .string ⟨#[116, 114, 117, 101]⟩, .string ⟨#[102, 97, 108, 115, 101]⟩] 9 (0, 0)))) := Lib.hid (((Below.refl _ _).alloc (Nat.le_refl _) _).alloc (by simp) _)
  go_wp2_with fail
  go_ret
  exact ⟨ret_b (by simp), HB9.out⟩
set_option maxRecDepth 100000 in
theorem lclo_n0 (k : Int) (x y : ByteArray) (nu ma : Int) (w : World) (h0 : x.data.toList.isEmpty = false) (HNM : Hid (∀ W, Calls Tryz.prog 11 #[.string x] W fun e w' => e = .returned (.bool true) ∧ W = w')) (h4 : (k == 4) = false) :
    Calls Tryz.prog 73 #[.agg #[.int .u8 k, .string x, .string y, .int .i64 nu, .int .i64 ma]] w fun e w' => e = .returned (.bool false) ∧ Below w.heap.size w w' := by
  obtain ⟨h1, h2⟩ := str_ne h0
  have HB9 : Hid (Below w.heap.size w (w.alloc (.cells #[.int .u8 k, .string x, .string y, .int .i64 nu, .int .i64 ma] 59 (0, 0)))) := Lib.hid ((Below.refl _ _).alloc (Nat.le_refl _) _)
  go_enter Tryz.func73, Tryz.ntmps73
  go_wp2_with fail
  refine (HNM.out _).mono ?_; rintro e w1 ⟨rfl, rfl⟩
  go_wp2_with fail
  go_ret
  exact ⟨ret_b (by simp), HB9.out⟩
theorem lclo_any (c : Cel) (w : World) (hn : c.name.length ≤ 1000000) :
    Calls Tryz.prog 73 #[.agg (celCells c)] w fun e w' => e = .returned (.bool (badL c)) ∧ Below w.heap.size w w' := by
  have hxl : (⟨c.name.toArray⟩ : ByteArray).data.toList = c.name := by simp
  have hyl : (⟨c.text.toArray⟩ : ByteArray).data.toList = c.text := by simp
  have hxz : (⟨c.name.toArray⟩ : ByteArray).size ≤ 1000000 := by rw [← bsz, hxl]; exact hn
  have hkk := kind_eq c 4
  have HN := fun W => lname_any ⟨c.name.toArray⟩ hxz W
  rw [hxl] at HN
  unfold celCells badL
  rw [hkk]
  cases h0 : c.name.isEmpty with
  | true =>
    cases h4 : ((c.kind.toNat : Int) == ((4 : UInt8).toNat : Int)) with
    | true =>
      have := lclo_e4 (c.kind.toNat : Int) ⟨c.name.toArray⟩ ⟨c.text.toArray⟩ c.num c.many w (by rw [hxl]; exact h0) h4
      rw [hyl] at this
      simpa using this
    | false => simpa using lclo_e0 (c.kind.toNat : Int) ⟨c.name.toArray⟩ ⟨c.text.toArray⟩ c.num c.many w (by rw [hxl]; exact h0) h4
  | false =>
    cases hb : nameB c.name with
    | false =>
      rw [hb] at HN
      simpa using lclo_nb (c.kind.toNat : Int) ⟨c.name.toArray⟩ ⟨c.text.toArray⟩ c.num c.many w (by rw [hxl]; exact h0) (Lib.hid HN)
    | true =>
      rw [hb] at HN
      cases h4 : ((c.kind.toNat : Int) == ((4 : UInt8).toNat : Int)) with
      | true =>
        have := lclo_n4 (c.kind.toNat : Int) ⟨c.name.toArray⟩ ⟨c.text.toArray⟩ c.num c.many w (by rw [hxl]; exact h0) (Lib.hid HN) h4
        rw [hyl] at this
        simpa using this
      | false => simpa using lclo_n0 (c.kind.toNat : Int) ⟨c.name.toArray⟩ ⟨c.text.toArray⟩ c.num c.many w (by rw [hxl]; exact h0) (Lib.hid HN) h4
theorem lclo_ent : ∀ args w, (callFunc 73 args).run Tryz.prog w = .ok (.enter 73 args) w := enters_of Tryz.func73 (by kernel_rfl) rfl
set_option maxRecDepth 100000 in
theorem lliteral_any (V : List Cel) (v : Value) (w : World) (hv : CelSl v V w) (hs : SmallV V) (hE : EnvU w) :
    Calls Tryz.prog 60 #[v] w fun e w' => e = .returned (.bool (litB V)) ∧ Below w.heap.size w w' := by
  have H := Lib.hid (ccheck_any V v w hv hs hE)
  have HC : Hid (∀ W : World, Below w.heap.size w W → Calls Tryz.prog 42 #[v, .func (.func 73) #[] #[]] W fun e w' => e = .returned (.bool (V.any badL)) ∧ Below W.heap.size W w') := Lib.hid fun W hW =>
    ccontains_any _ #[] lclo_ent badL V v W (hv.below hW) hs.1 (Lib.hid fun W' k hk _ => by simpa using lclo_any V[k] W' (by have := (hs.2 V[k] (List.getElem_mem _)).1; omega))
  rw [litB_bad]
  clear hv hs hE
  generalize V.any badL = ev at *
  cases hm : mayB V with
  | false =>
    rw [hm] at H
    clear hm
    go_enter Tryz.func60, Tryz.ntmps60
    go_wp2_with fail
    refine H.out.mono ?_; rintro e w1 ⟨rfl, hb⟩
    go_wp2_with fail
    go_ret
    exact ⟨rfl, hb⟩
  | true =>
    rw [hm] at H
    clear hm
    go_enter Tryz.func60, Tryz.ntmps60
    go_wp2_with fail
    refine H.out.mono ?_; rintro e w1 ⟨rfl, hb⟩
    have HB := Lib.hid hb
    have hz := hb.size
    clear hb
    go_wp2_with fail
    refine (HC.out _ HB.out).mono ?_; rintro e w2 ⟨rfl, hb⟩
    have HB2 := Lib.hid (HB.out.trans (hb.mono hz))
    clear hb
    go_wp2_with fail
    go_ret
    exact ⟨ret_b (by cases ev <;> rfl), HB2.out⟩
/-- The tokens of a literal, and the error. -/
def toksE (V : List Cel) : Int := if litB V then 0 else 8
def toksL (V : List Cel) : List Tok := if litB V then tokK 16 V else []
set_option maxRecDepth 100000 in
theorem tokens_no (V : List Cel) (v : Value) (w : World) (hv : ∃ a n c, v = .slice a n c) (H : Hid (Calls Tryz.prog 60 #[v] w fun e w' => e = .returned (.bool false) ∧ Below w.heap.size w w')) :
    Calls Tryz.prog 40 #[v] w fun e w' => e = .returned (.tuple #[.slice none 0 0, .int .i64 8]) ∧ Below w.heap.size w w' := by
  obtain ⟨a, n, c, rfl⟩ := hv
  go_enter Tryz.func40, Tryz.ntmps40
  go_wp2_with fail
  refine H.out.mono ?_; rintro e w1 ⟨rfl, hb⟩
  go_wp2_with fail
  go_ret2
  exact ⟨rfl, hb⟩
set_option maxRecDepth 100000 in
theorem tokens_yes (V : List Cel) (b off cap : Nat) (w : World) (hrow : CelRow b off V w) (hpos : 0 < V.length) (hl : V.length ≤ 2048) (hs : NumV V) (hE : EnvT w) (hval : valN 16 V = some V.length)
    (H : Hid (Calls Tryz.prog 60 #[.slice (some ⟨b, off, none⟩) V.length cap] w fun e w' => e = .returned (.bool true) ∧ Below w.heap.size w w')) :
    Calls Tryz.prog 40 #[.slice (some ⟨b, off, none⟩) V.length cap] w fun e w' => (∃ u, e = .returned (.tuple #[u, .int .i64 0]) ∧ OwnT w.heap.size u (tokK 16 V) w') ∧ Below w.heap.size w w' := by
  have hbl := hrow.lt hpos
  have HROW := Lib.hid hrow
  have HS := Lib.hid hs
  have HEE := Lib.hid hE
  have HV := Lib.hid hval
  clear hrow hs hE hval
  go_enter Tryz.func40, Tryz.ntmps40
  go_wp2_with fail
  refine H.out.mono ?_; rintro e w1 ⟨rfl, hb⟩
  have hz := hb.size
  have hb2 : Below w.heap.size w (w1.alloc (.cells #[.slice none 0 0] 97 (0, 0))) := hb.alloc hz _
  have HB2 := Lib.hid hb2
  have HP : Hid (PutS w1.heap.size (.slice none 0 0) [] (w1.alloc (.cells #[.slice none 0 0] 97 (0, 0)))) := Lib.hid ⟨heap_new _ _ _ rfl, OwnT.nil _ _⟩
  have HR2 := Lib.hid (HROW.out.below hb2 hbl)
  have HUP := Lib.hid (up_any w1 V w1.heap.size b off cap HS.out hl (HEE.out.stays hb) (Nat.le_refl _) (by omega) 16 _ _ [] 0 V.length hpos HV.out (by simp; omega) HP.out HR2.out ((Below.refl _ _).alloc (Nat.le_refl _) _))
  clear hb hb2
  go_wp2_with fail
  refine HUP.out.mono ?_; rintro e w3 ⟨rfl, ⟨v3, h3⟩, hk3⟩
  have h3c := h3.cell
  have HP3 := Lib.hid h3
  have HB3 : Hid (Below w.heap.size w w3) := Lib.hid (HB2.out.trans (hk3.1.mono hz))
  obtain ⟨a3, n3, c3, rfl⟩ : ∃ a n c, v3 = .slice a n c := by
    rcases h3.2.2 with ⟨e1, _⟩ | ⟨g, cap, cur, e1, _⟩
    · exact ⟨_, _, _, e1⟩
    · exact ⟨_, _, _, e1⟩
  clear h3 hk3
  go_wp2_with fail
  go_ret2
  refine ⟨⟨_, rfl, ?_⟩, HB3.out⟩
  have := HP3.out.2.lessU (B' := w.heap.size) (by omega)
  simpa using this
theorem mayB_parts {V : List Cel} (h : mayB V = true) : 0 < V.length ∧ V.length ≤ 2048 ∧ valN 16 V = some V.length := by
  unfold mayB at h
  simp only [Bool.and_eq_true, decide_eq_true_eq, beq_iff_eq] at h
  exact ⟨h.1.1.1, h.1.1.2, h.2⟩
theorem tokens_any (V : List Cel) (v : Value) (w : World) (hv : CelSl v V w) (hs : SmallV V) (hE : EnvU w) (hT : EnvT w) :
    Calls Tryz.prog 40 #[v] w fun e w' => (∃ u, e = .returned (.tuple #[u, .int .i64 (toksE V)]) ∧ OwnT w.heap.size u (toksL V) w') ∧ Below w.heap.size w w' := by
  have HL := Lib.hid (lliteral_any V v w hv hs hE)
  unfold toksE toksL
  cases hb : litB V with
  | false =>
    rw [hb] at HL
    refine (tokens_no V v w (by
      rcases hv with ⟨a, c, rfl, _⟩ | ⟨b, off, cap, rfl, _⟩
      · exact ⟨_, _, _, rfl⟩
      · exact ⟨_, _, _, rfl⟩) HL).mono ?_
    rintro e w' ⟨rfl, hb⟩
    exact ⟨⟨_, rfl, OwnT.nil _ _⟩, hb⟩
  | true =>
    rw [hb] at HL
    have hm : mayB V = true := by unfold litB at hb; simp only [Bool.and_eq_true] at hb; exact hb.1
    obtain ⟨h1, h2, h3⟩ := mayB_parts hm
    rcases hv with ⟨a, c, rfl, rfl, _⟩ | ⟨b, off, cap, rfl, hrow, _⟩
    · simp at h1
    · exact tokens_yes V b off cap w hrow h1 h2 (fun c hc => (hs.2 c hc).2.2) hT h3 HL
end Go.Proofs.YtbejhdhhkpllfaaGreatDoor
namespace Go.Proofs.YtbejhdhhkpllfaaGreatDoor
open Go.RowKit Go.Lib
/-- The cells of names with slices behind them. -/
def xFlat {α : Type} : List (List UInt8 × α) → List Value → List Value
  | (n, _) :: r, u :: us => .string ⟨n.toArray⟩ :: u :: xFlat r us
  | _, _ => []
theorem xFlat_len {α : Type} : ∀ (L : List (List UInt8 × α)) (U : List Value), U.length = L.length → (xFlat L U).length = L.length * 2
  | [], U, h => by cases U <;> simp [xFlat]
  | (n, x) :: r, [], h => by simp at h
  | (n, x) :: r, u :: us, h => by
    have := xFlat_len r us (by simpa using h)
    simp only [xFlat, List.length_cons, this]; omega
/-- A row of names with slices behind them, the call's own; whatever is behind each is meant by Own. -/
def OwnX {α : Type} (T : TypeId) (Own : Value → α → World → Prop) (B : Nat) (v : Value) (L : List (List UInt8 × α)) (W : World) : Prop :=
  ∃ U : List Value, U.length = L.length ∧ W.ownsRow B T 2 v L.length (xFlat L U) ∧ ∀ (i : Nat) (h : i < L.length) (h' : i < U.length), (∃ a n c, U[i] = .slice a n c) ∧ Own U[i] L[i].2 W
section
variable {α : Type} {T : TypeId} {Own : Value → α → World → Prop} {B : Nat} {v : Value} {L : List (List UInt8 × α)} {W W' : World}
theorem OwnX.nil (W : World) : OwnX T Own B (.slice none 0 0) [] W := ⟨[], rfl, World.ownsRow_nil W B T 2, fun i h => by simp at h⟩
theorem OwnX.form (h : OwnX T Own B v L W) : ∃ a c, v = .slice a L.length c := by
  obtain ⟨U, h1, h2, h3⟩ := h
  rcases h2.2 with ⟨e, e2⟩ | ⟨g, cap, cur, e, _⟩
  · exact ⟨none, 0, by rw [e, e2]⟩
  · exact ⟨_, _, e⟩
/-- What is kept where all blocks from B on stay that were there. -/
def Kp (B : Nat) (W W' : World) : Prop := ∀ (k : Nat) (o : Obj), B ≤ k → W.heap[k]? = some o → W'.heap[k]? = some o
theorem Kp.rk {p : Nat} (h : RK p W W') (hp : p < B) : Kp B W W' := fun k o hk ho => h.2 k o ho (by omega)
theorem Kp.mk {p m : Nat} (h : MK p m W W') (hp : p < B) (hm : m < B) : Kp B W W' := fun k o hk ho => h.2 k o ho (by omega) (by omega)
theorem Kp.below (h : Below W.heap.size W W') : Kp B W W' := fun k o hk ho => (h.block k (heap_lt ho)).trans ho
theorem Kp.trans {W'' : World} (h : Kp B W W') (h' : Kp B W' W'') : Kp B W W'' := fun k o hk ho => h' k o hk (h k o hk ho)
end
abbrev OwnA (B : Nat) : Value → List (List UInt8 × List Cel) → World → Prop := OwnX 86 (OwnC B) B
abbrev OwnD (B : Nat) : Value → List (List UInt8 × List (List UInt8 × List Cel)) → World → Prop := OwnX 90 (OwnA B) B
end Go.Proofs.YtbejhdhhkpllfaaGreatDoor
namespace Go.Proofs.YtbejhdhhkpllfaaGreatDoor
open Go.RowKit Go.Lib
/-- Bytes in a row that the call made; none are in no row. -/
def BytW (B : Nat) (u : Value) (ws : List UInt8) (W : World) : Prop := Own B u ws W ∧ (ws = [] → u = .slice none 0 0)
theorem BytW.nil (B : Nat) (W : World) : BytW B (.slice none 0 0) [] W := ⟨Own.nil _ _, fun _ => rfl⟩
theorem BytW.form {B : Nat} {v : Value} {l : List UInt8} {W : World} (h : BytW B v l W) : ∃ a n c, v = .slice a n c := by
  rcases h.1.2 with ⟨e1, _⟩ | ⟨g, cap, cur, e1, _⟩
  · exact ⟨_, _, _, e1⟩
  · exact ⟨_, _, _, e1⟩
theorem ref_cells {A : Nat} {W : World} {x y : Value} (h : W.heap[A]? = some (.cells #[x, y] 44 (0, 0))) : W.cell? ⟨A, 0, none⟩ = some x ∧ W.cell? ⟨A, 1, none⟩ = some y ∧ W.frozen? ⟨A, 0, none⟩ = false ∧ W.frozen? ⟨A, 1, none⟩ = false := by
  refine ⟨?_, ?_, Lib.frozen_of_heap h 0, Lib.frozen_of_heap h 1⟩
  all_goals (rw [Lib.cell_of_heap h]; rfl)
end Go.Proofs.YtbejhdhhkpllfaaGreatDoor
namespace Go.Proofs.YtbejhdhhkpllfaaGreatDoor
open Go.RowKit Go.Lib
/-- A row of names with slices behind them, read. -/
def XRow {α : Type} (Sl : Value → α → World → Prop) (b off : Nat) (L : List (List UInt8 × α)) (W : World) : Prop := ∀ (i : Nat) (h : i < L.length), W.cell? ⟨b, off + i * 2, none⟩ = some (.string ⟨L[i].1.toArray⟩) ∧ ∃ a n c, W.cell? ⟨b, off + i * 2 + 1, none⟩ = some (.slice a n c) ∧ Sl (.slice a n c) L[i].2 W
theorem XRow.below {α : Type} {Sl : Value → α → World → Prop} {b off : Nat} {L : List (List UInt8 × α)} {w w' : World} (h : XRow Sl b off L w) (hS : ∀ u x, Sl u x w → Sl u x w') (hb : Below w.heap.size w w') : XRow Sl b off L w' := by
  intro i hi
  obtain ⟨h0, a, n, c, h1, h2⟩ := h i hi
  have hlt := lt_of_cell h0
  exact ⟨(hb.cell (p := ⟨b, _, none⟩) hlt).trans h0, a, n, c, (hb.cell (p := ⟨b, _, none⟩) hlt).trans h1, hS _ _ h2⟩
def XSl {α : Type} (Sl : Value → α → World → Prop) (v : Value) (L : List (List UInt8 × α)) (W : World) : Prop := (∃ a cap, v = .slice a 0 cap ∧ L = []) ∨ ∃ b off cap, v = .slice (some ⟨b, off, none⟩) L.length cap ∧ XRow Sl b off L W ∧ 0 < L.length
theorem XSl.below {α : Type} {Sl : Value → α → World → Prop} {v : Value} {L : List (List UInt8 × α)} {w w' : World} (h : XSl Sl v L w) (hS : ∀ u x, Sl u x w → Sl u x w') (hb : Below w.heap.size w w') : XSl Sl v L w' := by
  rcases h with h | ⟨b, off, cap, h1, h2, h3⟩
  · exact Or.inl h
  · exact Or.inr ⟨b, off, cap, h1, h2.below hS hb, h3⟩
abbrev ArgSl : Value → List (List UInt8 × List Cel) → World → Prop := XSl CelSl
abbrev DirSl : Value → List (List UInt8 × List (List UInt8 × List Cel)) → World → Prop := XSl ArgSl
theorem ArgSl.below {v : Value} {L : List (List UInt8 × List Cel)} {w w' : World} (h : ArgSl v L w) (hb : Below w.heap.size w w') : ArgSl v L w' := XSl.below h (fun _ _ h => h.below hb) hb
theorem DirSl.below {v : Value} {L : List (List UInt8 × List (List UInt8 × List Cel))} {w w' : World} (h : DirSl v L w) (hb : Below w.heap.size w w') : DirSl v L w' := XSl.below h (fun _ _ h => ArgSl.below h hb) hb
theorem xFlat_get {α : Type} : ∀ (L : List (List UInt8 × α)) (U : List Value) (i : Nat) (h : i < L.length) (h' : i < U.length), U.length = L.length → (xFlat L U)[i * 2]? = some (.string ⟨L[i].1.toArray⟩) ∧ (xFlat L U)[i * 2 + 1]? = some U[i]
  | [], U, i, h, h', _ => by simp at h
  | (n, x) :: r, [], i, h, h', _ => by simp at h'
  | (n, x) :: r, u :: us, 0, h, h', _ => by simp [xFlat]
  | (n, x) :: r, u :: us, i + 1, h, h', hl => by
    have ih := xFlat_get r us i (by simpa using h) (by simpa using h') (by simpa using hl)
    rw [show (i + 1) * 2 = i * 2 + 1 + 1 from by omega]
    simp only [xFlat, List.getElem?_cons_succ, List.getElem_cons_succ]
    exact ih
theorem OwnX.xsl {α : Type} {T : TypeId} {Own Sl : Value → α → World → Prop} {B : Nat} {v : Value} {L : List (List UInt8 × α)} {W : World} (h : OwnX T Own B v L W) (hS : ∀ u x, Own u x W → Sl u x W) : XSl Sl v L W := by
  obtain ⟨U, hU, h2, h3⟩ := h
  rcases h2.2 with ⟨rfl, hz⟩ | ⟨g, cap, cur, rfl, hB, hg, hn, hc, hcs, ht⟩
  · exact Or.inl ⟨_, _, rfl, List.eq_nil_of_length_eq_zero hz⟩
  · by_cases h0 : L = []
    · subst h0
      exact Or.inl ⟨_, _, rfl, rfl⟩
    refine Or.inr ⟨g, 0, cap, rfl, ?_, List.length_pos_iff.2 h0⟩
    intro i hi
    obtain ⟨g0, g1⟩ := xFlat_get L U i hi (by omega) hU
    have F : ∀ j u, (xFlat L U)[j]? = some u → W.cell? ⟨g, 0 + j, none⟩ = some u := by
      intro j u hj
      have hjl : j < L.length * 2 := by rw [← xFlat_len L U hU]; exact (List.getElem?_eq_some_iff.1 hj).1
      rw [← ht, List.getElem?_take, if_pos hjl] at hj
      rw [Nat.zero_add]
      refine (Lib.cell_of_heap hg j).trans ?_
      simpa using hj
    obtain ⟨⟨a, n, c, e⟩, hx⟩ := h3 i hi (by omega)
    have e1 := F _ _ g1
    rw [e] at e1 hx
    exact ⟨F _ _ g0, a, n, c, e1, hS _ _ hx⟩
theorem OwnA.sl {B : Nat} {v : Value} {L : List (List UInt8 × List Cel)} {W : World} (h : OwnA B v L W) : ArgSl v L W := OwnX.xsl h fun u x hx => hx.sl
theorem OwnD.sl {B : Nat} {v : Value} {L : List (List UInt8 × List (List UInt8 × List Cel))} {W : World} (h : OwnD B v L W) : DirSl v L W := OwnX.xsl h fun u x hx => OwnA.sl hx
end Go.Proofs.YtbejhdhhkpllfaaGreatDoor
namespace Go.Proofs.YtbejhdhhkpllfaaGreatDoor
open Go.RowKit
/-- An argument's tokens; arguments'. -/
def argK (x : List UInt8 × List Cel) : List Tok := nmT x.1 :: mkT [58] :: tokK 16 x.2
def argsK (A : List (List UInt8 × List Cel)) : List Tok := if A.isEmpty then [] else mkT [40] :: (A.flatMap argK ++ [mkT [41]])
def roomA : List (List UInt8 × List Cel) → Nat
  | [] => 0
  | x :: r => 4 * (x.2.length + 1) + 2 + roomA r
/-- Arguments whose values may be. -/
def ArgsOk (A : List (List UInt8 × List Cel)) : Prop := ∀ x ∈ A, 0 < x.2.length ∧ x.2.length ≤ 2048 ∧ NumV x.2 ∧ valN 16 x.2 = some x.2.length
theorem argK_len (x : List UInt8 × List Cel) (h : valN 16 x.2 = some x.2.length) : (argK x).length ≤ 4 * (x.2.length + 1) + 2 := by
  have := tokK_len 16 x.2 x.2.length h
  simp only [argK, List.length_cons]
  omega
theorem argsK_len : ∀ A : List (List UInt8 × List Cel), ArgsOk A → (A.flatMap argK).length ≤ roomA A
  | [], _ => Nat.le_refl _
  | x :: r, h => by
    have h1 := argK_len x (h x (by simp)).2.2.2
    have h2 := argsK_len r (fun y hy => h y (by simp [hy]))
    simp only [List.flatMap_cons, List.length_append, roomA]
    omega
set_option maxRecDepth 100000 in
theorem up_args_none (q : Nat) (a : Option Addr) (c : Nat) (W : World) :
    Calls Tryz.prog 71 #[.pointer (some ⟨q, 0, none⟩), .slice a 0 c] W fun e w' => e = .returned (.tuple #[]) ∧ W = w' := by
  go_enter Tryz.func71, Tryz.ntmps71
  go_wp2_with fail
  go_returns
  exact ⟨rfl, rfl⟩
set_option maxRecDepth 100000 in
set_option maxHeartbeats 4000000 in
theorem up_args_go (w0 : World) (A : List (List UInt8 × List Cel)) (q b off cap : Nat) (hA : XRow CelSl b off A w0) (hok : ArgsOk A) (hpos : 0 < A.length) (hl : A.length ≤ 100000) (hET : EnvT w0) (hq0 : w0.heap.size ≤ q) (W : World) (pv : Value) (L : List Tok) (hP : PutS q pv L W) (hW : Below w0.heap.size w0 W) (hroom : L.length + 1 + roomA A + 1 ≤ 90000) :
    Calls Tryz.prog 71 #[.pointer (some ⟨q, 0, none⟩), .slice (some ⟨b, off, none⟩) A.length cap] W fun e w' => e = .returned (.tuple #[]) ∧ (∃ v', PutS q v' (L ++ (mkT [40] :: (A.flatMap argK ++ [mkT [41]]))) w') ∧ RK q W w' := by
  have hq := hP.lt
  have HEL : Hid (∀ (i : Nat) (h : i < A.length), ∃ b' o' c', w0.cell? ⟨b, off + i * 2, none⟩ = some (.string ⟨A[i].1.toArray⟩) ∧ w0.cell? ⟨b, off + i * 2 + 1, none⟩ = some (.slice (some ⟨b', o', none⟩) A[i].2.length c') ∧ CelRow b' o' A[i].2 w0 ∧ b' < w0.heap.size) := Lib.hid fun i hi => by
    obtain ⟨e0, a, n, c, e1, hy⟩ := hA i hi
    have hp := (hok A[i] (List.getElem_mem hi)).1
    rcases hy with ⟨a2, c2, e2, e3, _⟩ | ⟨b', o', c', e2, e3, e4⟩
    · rw [e3] at hp; simp at hp
    · rw [e2] at e1
      exact ⟨b', o', c', e0, e1, e3, e3.lt e4⟩
  have HOK := Lib.hid hok
  have HBW := Lib.hid hW
  have HET := Lib.hid hET
  have HROOM := Lib.hid hroom
  have HLL : Hid (A.length = A.length) := Lib.hid rfl
  obtain ⟨R, hR⟩ : ∃ R, L ++ (mkT [40] :: (A.flatMap argK ++ [mkT [41]])) = R := ⟨_, rfl⟩
  have HR0 : Hid ((L ++ [mkT [40]]) ++ ((A.drop 0).flatMap argK ++ [mkT [41]]) = R) := Lib.hid (by rw [← hR]; simp)
  rw [hR]
  obtain ⟨n, hn⟩ : ∃ n, A.length = n := ⟨_, rfl⟩
  have HN := Lib.hid hn
  rw [hn]
  rw [hn] at hpos hl
  have hn0 : ((n : Int) == 0) = false := by rw [beq_eq_false_iff_ne]; omega
  have hn1 : ¬ (n : Int) = 0 := by omega
  obtain ⟨W1, hW1⟩ : ∃ W1, W.alloc (.cells #[.string ⟨#[40]⟩] 9 (0, 0)) = W1 := ⟨_, rfl⟩
  have hb1 : Below W.heap.size W W1 := by rw [← hW1]; exact (Below.refl _ _).alloc (Nat.le_refl _) _
  have HP1 := Lib.hid (hP.below hb1)
  have HK1 : Hid (RK q W W1) := Lib.hid (rk_below hb1 (Nat.le_of_lt hq))
  have hl1 : W1.cell? ⟨W.heap.size, 0, none⟩ = some (.string ⟨#[40]⟩) := by rw [← hW1]; exact new_cell0 _ _ _
  have hne : W.heap.size ≠ q := by omega
  have hLL : L.length ≤ 100000 := by omega
  have HW1 := Lib.hid hW1
  clear hA hok hET hW hR hn hP hb1 hW1 hroom
  go_enter Tryz.func71, Tryz.ntmps71
  go_wp2_with fail
  rw [HW1.out]
  refine (put_add q pv L 4 4 rfl ⟨#[40]⟩ _ 1 W1 HP1.out hl1 hne hLL).mono ?_; rintro e w1 ⟨rfl, ⟨pv1, hx1⟩, hx2⟩
  have HP2 : Hid (PutS q pv1 (L ++ [mkT [40]]) w1) := Lib.hid hx1
  have HK2 := Lib.hid (HK1.out.trans hx2)
  clear hx1 hx2 hl1 hne HP1 HK1 hLL
  go_wp2_with fail
  go_loopg [14] n (fun gk iv wr => ∃ (i : Nat) (L1 : List Tok) (pv1 : Value), iv = .int .i64 (i : Int) ∧ (gk + i ≤ n ∧ n ≤ gk + i) ∧ Hid (L1.length + roomA (A.drop i) + 1 ≤ 90000) ∧ Hid (L1 ++ ((A.drop i).flatMap argK ++ [mkT [41]]) = R) ∧ Hid (PutS q pv1 L1 wr) ∧ Hid (RK q W wr))
  case atStart => exact ⟨0, _, pv1, by go_num, ⟨by omega, by omega⟩, Lib.hid (by have := HROOM.out; simp only [List.length_append, List.length_cons, List.length_nil, List.drop_zero]; omega), HR0, HP2, HK2⟩
  case round =>
    clear HP2 HK2 HR0
    rename World => wr
    obtain ⟨i, L1, pv1, rfl, ⟨hj, hj'⟩, HLEN, HRR, HPr, HKr⟩ := hrel
    have hqr := HPr.out.lt
    have hL1 : L1.length ≤ 90000 := by have := HLEN.out; omega
    by_cases hg0 : gk = 0
    · subst hg0
      have hin : i = n := by omega
      have hlt : ¬ (i : Int) < (n : Int) := by omega
      have HF : Hid (L1 ++ [mkT [41]] = R) := Lib.hid (by have := HRR.out; rw [List.drop_of_length_le (by have := HN.out; omega)] at this; simpa using this)
      have hb5 : Below wr.heap.size wr (wr.alloc (.cells #[.string ⟨#[41]⟩] 9 (0, 0))) := (Below.refl _ _).alloc (Nat.le_refl _) _
      have HP5 := Lib.hid (HPr.out.below hb5)
      have HK5 : Hid (RK q W _) := Lib.hid (HKr.out.trans (rk_below hb5 (Nat.le_of_lt hqr)))
      have hne5 : wr.heap.size ≠ q := by omega
      clear hj hj' hb5 hin
      go_wp2_with fail
      refine (put_add q pv1 L1 4 4 rfl ⟨#[41]⟩ _ 1 _ HP5.out (new_cell0 _ _ _) hne5 (by omega)).mono ?_; rintro e wx ⟨rfl, ⟨pvx, hx1⟩, hx2⟩
      have HFIN : Hid ((∃ v', PutS q v' R wx) ∧ RK q W wx) := Lib.hid (by
        rw [← HF.out]
        exact ⟨⟨_, hx1⟩, HK5.out.trans hx2⟩)
      clear hx1 hx2
      go_wp2_with fail
      go_returns
      exact ⟨rfl, HFIN.out⟩
    · obtain ⟨g1, rfl⟩ : ∃ g1, gk = g1 + 1 := ⟨gk - 1, by omega⟩
      have hin : i < n := by omega
      have hil : i < A.length := by have := HN.out; omega
      clear hg0
      obtain ⟨b', o', c', e0, e1, hrow, hblt⟩ := HEL.out i hil
      obtain ⟨hm0, hm1, hm2, hm3⟩ := HOK.out A[i] (List.getElem_mem hil)
      have hbw : Below w0.heap.size w0 wr := HBW.out.trans (HKr.out.1.mono hq0)
      have r0 : wr.cell? ⟨b, off + i * 2, none⟩ = some (.string ⟨(A[i]'hil).1.toArray⟩) := (hbw.cell (p := ⟨b, _, none⟩) (lt_of_cell e0)).trans e0
      have r1 : wr.cell? ⟨b, off + i * 2 + 1, none⟩ = some (.slice (some ⟨b', o', none⟩) (A[i]'hil).2.length c') := (hbw.cell (p := ⟨b, _, none⟩) (lt_of_cell e0)).trans e1
      have hdrop : A.drop i = A[i] :: A.drop (i + 1) := List.drop_eq_getElem_cons hil
      have hrr := HRR.out
      have hln := HLEN.out
      have htl := tokK_len 16 (A[i]'hil).2 _ hm3
      rw [hdrop, List.flatMap_cons] at hrr
      rw [hdrop, roomA] at hln
      have HV : Hid (∀ (W' : World) (pv' : Value) (L' : List Tok), RK q W W' → L'.length + 4 * ((A[i]'hil).2.length + 1) ≤ 90000 → PutS q pv' L' W' → Calls Tryz.prog 61 #[.pointer (some ⟨q, 0, none⟩), .slice (some ⟨b', o', none⟩) (A[i]'hil).2.length c', .int .i64 0] W' fun e w' => (∃ z, e = .returned (.int .i64 z)) ∧ (∃ v', PutS q v' (L' ++ tokK 16 (A[i]'hil).2) w') ∧ RK q W' w') := Lib.hid fun W' pv' L' h0 h1 h2 => by
        have hw := HBW.out.trans (h0.1.mono hq0)
        refine (up_any w0 (A[i]'hil).2 q b' o' c' hm2 hm1 HET.out hq0 (by omega) 16 W' pv' L' 0 (A[i]'hil).2.length hm0 (by rw [List.drop_zero]; exact hm3) h1 h2 (hrow.below hw hblt) hw).mono ?_
        rintro e w' ⟨h3, h4, h5⟩
        rw [List.drop_zero] at h4
        exact ⟨⟨_, h3⟩, h4, h5⟩
      have HNX : Hid (L1.length + (2 + 4 * ((A[i]'hil).2.length + 1)) + roomA (A.drop (i + 1)) + 1 ≤ 90000 ∧ (tokK 16 (A[i]'hil).2).length + 2 ≤ 4 * (A[i]'hil).2.length) := Lib.hid ⟨by omega, htl⟩
      have HRX : Hid ((((L1 ++ [nmT (A[i]'hil).1]) ++ [mkT [58]]) ++ tokK 16 (A[i]'hil).2) ++ ((A.drop (i + 1)).flatMap argK ++ [mkT [41]]) = R) := Lib.hid (by rw [← hrr]; simp [argK])
      obtain ⟨nb, hnb⟩ : ∃ nb : ByteArray, (⟨(A[i]'hil).1.toArray⟩ : ByteArray) = nb := ⟨_, rfl⟩
      have hnm : nmT (A[i]'hil).1 = ⟨1, nb.data.toList, 0⟩ := by rw [← hnb]; rfl
      rw [hnm] at HRX
      rw [hnb] at r0
      clear e0 e1 hrow hblt hm0 hm1 hm2 hm3 hdrop hrr hln htl hnb hnm hbw
      generalize (A[i]'hil).2.length = vn at *
      generalize tokK 16 (A[i]'hil).2 = tj at *
      have i1 : (i : Int).toNat = i := by omega
      have i2 : (0 : Int) ≤ (i : Int) := by omega
      have i3 : (i : Int) < (n : Int) := by omega
      have i4 : IntKind.i64.wrap ((i : Int) + 1) = ((i + 1 : Nat) : Int) := by rw [IntWalk.i64_in _ (by omega)]; omega
      obtain ⟨w2, hw2⟩ : ∃ w2, (wr.alloc (.cells #[.string nb, .slice (some ⟨b', o', none⟩) vn c'] 86 (0, 0))).alloc (.cells #[.string nb] 9 (0, 0)) = w2 := ⟨_, rfl⟩
      have hb2 : Below wr.heap.size wr w2 := by rw [← hw2]; exact ((Below.refl _ _).alloc (Nat.le_refl _) _).alloc (by simp) _
      have HP2 := Lib.hid (HPr.out.below hb2)
      have HK2 : Hid (RK q W w2) := Lib.hid (HKr.out.trans (rk_below hb2 (Nat.le_of_lt hqr)))
      have HC2 : Hid (w2.heap[wr.heap.size]? = some (.cells #[.string nb, .slice (some ⟨b', o', none⟩) vn c'] 86 (0, 0))) := Lib.hid (by rw [← hw2]; exact heap_old (heap_new _ _ _ rfl))
      have hl2 : w2.cell? ⟨wr.heap.size + 1, 0, none⟩ = some (.string nb) := by rw [← hw2]; exact Lib.cell_of_heap (heap_new _ _ _ (by simp)) 0
      have hne2 : wr.heap.size + 1 ≠ q := by omega
      have hcq : wr.heap.size ≠ q := by omega
      have HW2 := Lib.hid hw2
      have HJJ := Lib.hid (And.intro hj hj')
      clear hb2 hw2 hj hj' hil
      go_wp2_with fail
      rw [HW2.out]
      refine (put_add q pv1 L1 1 1 rfl nb _ 1 w2 HP2.out hl2 hne2 (by omega)).mono ?_; rintro e w3 ⟨rfl, ⟨pv3, hx1⟩, hx2⟩
      have HP3 := Lib.hid hx1
      have HK3 := Lib.hid (HK2.out.trans hx2)
      have HC3 := Lib.hid (hx2.2 _ _ HC2.out hcq)
      clear hx1 hx2 hl2 hne2 HP2 HK2 HC2 r0 r1 HW2
      generalize wr.heap.size = cb at *
      have hq3 := HP3.out.lt
      have hb4 : Below w3.heap.size w3 (w3.alloc (.cells #[.string ⟨#[58]⟩] 9 (0, 0))) := (Below.refl _ _).alloc (Nat.le_refl _) _
      have HP4 := Lib.hid (HP3.out.below hb4)
      have HK4 := Lib.hid (HK3.out.trans (rk_below hb4 (Nat.le_of_lt hq3)))
      have HC4 := Lib.hid ((hb4.block cb (heap_lt HC3.out)).trans HC3.out)
      have hne4 : w3.heap.size ≠ q := by omega
      clear hb4
      go_wp2_with fail
      refine (put_add q pv3 _ 4 4 rfl ⟨#[58]⟩ _ 1 _ HP4.out (new_cell0 _ _ _) hne4 (by simp only [List.length_append, List.length_cons, List.length_nil]; omega)).mono ?_; rintro e w5 ⟨rfl, ⟨pv5, hx1⟩, hx2⟩
      have HP5 : Hid (PutS q pv5 ((L1 ++ [⟨1, nb.data.toList, 0⟩]) ++ [mkT [58]]) w5) := Lib.hid hx1
      have HK5 := Lib.hid (HK4.out.trans hx2)
      have HC5 := Lib.hid (hx2.2 _ _ HC4.out hcq)
      have d1 : w5.cell? ⟨cb, 1, none⟩ = some (.slice (some ⟨b', o', none⟩) vn c') := by rw [Lib.cell_of_heap HC5.out]; rfl
      clear hx1 hx2 hne4 HP4 HK4 HC4 HP3 HK3 HC3
      go_wp2_with fail
      refine (HV.out w5 pv5 _ HK5.out (by have := HNX.out.1; simp only [List.length_append, List.length_cons, List.length_nil]; omega) HP5.out).mono ?_; rintro e w8 ⟨⟨z, rfl⟩, ⟨pv8, hx1⟩, hx2⟩
      have HP8 := Lib.hid hx1
      have HK8 := Lib.hid (HK5.out.trans hx2)
      clear hx1 hx2
      go_wp2_with fail
      obtain ⟨hj, hj'⟩ := HJJ.out
      go_roundg g1
      case measure => omega
      case rel => exact ⟨i + 1, _, pv8, by first | rfl | go_num, ⟨by omega, by omega⟩, Lib.hid (by have := HNX.out; simp only [List.length_append, List.length_cons, List.length_nil]; omega), HRX, HP8, HK8⟩
theorem up_args (w0 : World) (A : List (List UInt8 × List Cel)) (q : Nat) (u : Value) (hA : ArgSl u A w0) (hok : ArgsOk A) (hl : A.length ≤ 100000) (hET : EnvT w0) (hq0 : w0.heap.size ≤ q) (W : World) (pv : Value) (L : List Tok) (hP : PutS q pv L W) (hW : Below w0.heap.size w0 W) (hroom : L.length + 1 + roomA A + 1 ≤ 90000) :
    Calls Tryz.prog 71 #[.pointer (some ⟨q, 0, none⟩), u] W fun e w' => e = .returned (.tuple #[]) ∧ (∃ v', PutS q v' (L ++ argsK A) w') ∧ RK q W w' := by
  rcases hA with ⟨a, c, rfl, rfl⟩ | ⟨b, off, cap, rfl, hrow, hpos⟩
  · refine (up_args_none q a c W).mono ?_
    rintro e w' ⟨h1, rfl⟩
    exact ⟨h1, ⟨pv, by simpa [argsK] using hP⟩, RK.refl _ _⟩
  · have he : A.isEmpty = false := by cases A with
      | nil => simp at hpos
      | cons x r => rfl
    unfold argsK
    rw [he]
    exact up_args_go w0 A q b off cap hrow hok hpos hl hET hq0 W pv L hP hW hroom
end Go.Proofs.YtbejhdhhkpllfaaGreatDoor
namespace Go.Proofs.YtbejhdhhkpllfaaGreatDoor
open Go.RowKit
/-- Arguments that may be, behind names. -/
def namedB : List (List UInt8) → List (List UInt8 × List Cel) → Bool
  | _, [] => true
  | nm, x :: r => !nm.contains x.1 && nameB x.1 && litB x.2 && namedB (x.1 :: nm) r
def ArgsSm (A : List (List UInt8 × List Cel)) : Prop := A.length ≤ 100000 ∧ ∀ x ∈ A, x.1.length ≤ 1000000 ∧ SmallV x.2
set_option maxRecDepth 100000 in
theorem lnamed_none (a : Option Addr) (c : Nat) (w : World) :
    Calls Tryz.prog 70 #[.slice a 0 c] w fun e w' => e = .returned (.bool true) ∧ Below w.heap.size w w' := by
  have hmm := @run_makeMap Tryz.prog
  have HB : Hid (Below w.heap.size w (w.alloc (.map #[] 0))) := Lib.hid ((Below.refl _ _).alloc (Nat.le_refl _) _)
  go_enter Tryz.func70, Tryz.ntmps70
  go_wp2_with fail
  refine wp_loop_rounds 1 ?_; rw [rounds_succ]
  go_wp2_with fail
  go_ret
  exact ⟨rfl, HB.out⟩
set_option maxRecDepth 100000 in
set_option maxHeartbeats 4000000 in
theorem lnamed_go (A : List (List UInt8 × List Cel)) (b off cap : Nat) (w : World) (hA : XRow CelSl b off A w) (hpos : 0 < A.length) (hs : ArgsSm A) (hE : EnvU w) :
    Calls Tryz.prog 70 #[.slice (some ⟨b, off, none⟩) A.length cap] w fun e w' => e = .returned (.bool (namedB [] A)) ∧ Below w.heap.size w w' := by
  have HA := Lib.hid hA
  have HS := Lib.hid hs.2
  have hl := hs.1
  have HE := Lib.hid hE
  obtain ⟨Z, hZ⟩ : ∃ Z, namedB [] A = Z := ⟨_, rfl⟩
  have HZ0 : Hid (namedB [] (A.drop 0) = Z) := Lib.hid hZ
  rw [hZ]
  obtain ⟨n, hn⟩ : ∃ n, A.length = n := ⟨_, rfl⟩
  have HN := Lib.hid hn
  rw [hn]
  rw [hn] at hl hpos
  have hmm := @run_makeMap Tryz.prog
  obtain ⟨bm, hbm⟩ : ∃ bm, w.heap.size = bm := ⟨_, rfl⟩
  obtain ⟨w1, hw1⟩ : ∃ w1, w.alloc (.map #[] 0) = w1 := ⟨_, rfl⟩
  have HB1 : Hid (Below w.heap.size w w1) := Lib.hid (by rw [← hw1]; exact (Below.refl _ _).alloc (Nat.le_refl _) _)
  have HM1 : Hid (NamesM bm [] w1) := Lib.hid (by rw [← hw1, ← hbm]; exact NamesM.made w)
  have HW1 := Lib.hid hw1
  have HBM := Lib.hid hbm
  clear hA hs hE hZ hn hbm hw1
  go_enter Tryz.func70, Tryz.ntmps70
  go_wp2_with fail
  try rw [HW1.out]
  try simp only [HBM.out]
  go_loopg [9] n (fun gk iv wr => ∃ (i : Nat) (nm : List (List UInt8)), iv = .int .i64 (i : Int) ∧ (gk + i ≤ n ∧ n ≤ gk + i) ∧ nm.length ≤ i ∧ Hid (NamesM bm nm wr) ∧ Hid (Below w.heap.size w wr) ∧ Hid (namedB nm (A.drop i) = Z))
  case atStart => exact ⟨0, [], by go_num, ⟨by omega, by omega⟩, Nat.le_refl _, HM1, HB1, HZ0⟩
  case round =>
    clear HM1 HB1 HZ0 HW1 hmm
    rename World => wr
    obtain ⟨i, nm, rfl, ⟨hj, hj'⟩, hnm, HM, HB, HQ⟩ := hrel
    by_cases hg0 : gk = 0
    · subst hg0
      have hlt : ¬ (i : Int) < (n : Int) := by omega
      have HF : Hid (true = Z) := Lib.hid (by have := HQ.out; rw [List.drop_of_length_le (by have := HN.out; omega)] at this; exact this)
      clear hj hj'
      go_wp2_with fail
      go_ret
      exact ⟨ret_b HF.out, HB.out⟩
    · obtain ⟨g1, rfl⟩ : ∃ g1, gk = g1 + 1 := ⟨gk - 1, by omega⟩
      have hil : i < A.length := by have := HN.out; omega
      clear hg0
      have hbw := HB.out
      obtain ⟨e0, a, vn, c, e1, hy⟩ := HA.out i hil
      obtain ⟨hx1, hx2⟩ := HS.out A[i] (List.getElem_mem hil)
      have r0 : wr.cell? ⟨b, off + i * 2, none⟩ = some (.string ⟨(A[i]'hil).1.toArray⟩) := (hbw.cell (p := ⟨b, _, none⟩) (lt_of_cell e0)).trans e0
      have r1 : wr.cell? ⟨b, off + i * 2 + 1, none⟩ = some (.slice a vn c) := (hbw.cell (p := ⟨b, _, none⟩) (lt_of_cell e0)).trans e1
      have hq := HQ.out
      rw [List.drop_eq_getElem_cons hil, namedB] at hq
      have HLT : Hid (∀ W, Below w.heap.size w W → Calls Tryz.prog 60 #[.slice a vn c] W fun e w' => e = .returned (.bool (litB (A[i]'hil).2)) ∧ Below W.heap.size W w') := Lib.hid fun W hW => lliteral_any _ _ W (hy.below hW) hx2 (HE.out.below hW)
      obtain ⟨nb, hnb⟩ : ∃ nb : ByteArray, (⟨(A[i]'hil).1.toArray⟩ : ByteArray) = nb := ⟨_, rfl⟩
      have hnd : (A[i]'hil).1 = nb.data.toList := by rw [← hnb]
      have hnz : nb.size ≤ 1000000 := by rw [← bsz, ← hnd]; exact hx1
      rw [hnb] at r0
      rw [hnd] at hq
      have HNM : Hid (∀ W, Calls Tryz.prog 11 #[.string nb] W fun e w' => e = .returned (.bool (nameB nb.data.toList)) ∧ W = w') := Lib.hid fun W => lname_any nb hnz W
      have HLK : Hid (∀ W, NamesM bm nm W → (Instr.lookup 118 (.map (some bm)) (.string nb) false).run Tryz.prog W = .ok (.int .i64 (if nm.contains nb.data.toList then 1 else 0)) W) := Lib.hid fun W hW => by
        have := hW.lookup nb (by unfold maxLen; omega)
        rw [among_contains] at this; exact this
      have HUP : Hid (∀ W, NamesM bm nm W → ∃ W', (Instr.mapUpdate 118 (.map (some bm)) (.string nb) (.int .i64 1)).run Tryz.prog W = .ok () W' ∧ NamesM bm (nb.data.toList :: nm) W' ∧ W.grownBy W' (some bm)) := Lib.hid fun W hW => hW.update nb (by unfold maxLen; omega) (by omega)
      have HQ2 := Lib.hid hq
      clear e0 e1 hy hx1 hx2 hnb hnd hq hbw
      generalize litB (A[i]'hil).2 = lb at *
      generalize nameB nb.data.toList = nbb at *
      have i1 : (i : Int).toNat = i := by omega
      have i2 : (0 : Int) ≤ (i : Int) := by omega
      have i3 : (i : Int) < (n : Int) := by omega
      have i4 : IntKind.i64.wrap ((i : Int) + 1) = ((i + 1 : Nat) : Int) := by rw [IntWalk.i64_in _ (by omega)]; omega
      have HZb := HB.out.size
      obtain ⟨w2, hw2⟩ : ∃ w2, wr.alloc (.cells #[.string nb, .slice a vn c] 86 (0, 0)) = w2 := ⟨_, rfl⟩
      have hb2 : Below wr.heap.size wr w2 := by rw [← hw2]; exact (Below.refl _ _).alloc (Nat.le_refl _) _
      have HB2 : Hid (Below w.heap.size w w2) := Lib.hid (HB.out.trans (hb2.mono HZb))
      have HM2 := Lib.hid (HM.out.below hb2)
      have HC2 : Hid (w2.heap[wr.heap.size]? = some (.cells #[.string nb, .slice a vn c] 86 (0, 0))) := Lib.hid (by rw [← hw2]; exact heap_new _ _ _ rfl)
      have d0 : w2.cell? ⟨wr.heap.size, 0, none⟩ = some (.string nb) := by rw [Lib.cell_of_heap HC2.out]; rfl
      have d1 : w2.cell? ⟨wr.heap.size, 1, none⟩ = some (.slice a vn c) := by rw [Lib.cell_of_heap HC2.out]; rfl
      have hlk := HLK.out w2 HM2.out
      have hbmne : wr.heap.size ≠ bm := by have := HM.out.lt; omega
      have HW2 := Lib.hid hw2
      have HJJ := Lib.hid (And.intro hj hj')
      clear hb2 hw2 hj hj' hil
      cases hc : nm.contains nb.data.toList with
      | true =>
        rw [hc] at hlk
        rw [if_pos rfl] at hlk
        have HF : Hid (false = Z) := Lib.hid (by have := HQ2.out; rw [hc] at this; simpa using this)
        clear hc
        go_upto_region 5 with fail
        rw [HW2.out]
        go_wp2_with fail
        go_ret
        exact ⟨ret_b HF.out, HB2.out⟩
      | false =>
        rw [hc] at hlk
        rw [if_neg (by simp)] at hlk
        cases nbb with
        | false =>
          have HF : Hid (false = Z) := Lib.hid (by have := HQ2.out; simpa using this)
          clear hc
          go_upto_region 5 with fail
          rw [HW2.out]
          go_wp2_with fail
          refine (HNM.out w2).mono ?_; rintro e w3 ⟨rfl, rfl⟩
          go_wp2_with fail
          go_ret
          exact ⟨ret_b HF.out, HB2.out⟩
        | true =>
          cases lb with
          | false =>
            have HF : Hid (false = Z) := Lib.hid (by have := HQ2.out; simpa using this)
            clear hc
            go_upto_region 5 with fail
            rw [HW2.out]
            go_wp2_with fail
            refine (HNM.out w2).mono ?_; rintro e w3 ⟨rfl, rfl⟩
            go_wp2_with fail
            refine (HLT.out w2 HB2.out).mono ?_; rintro e w3 ⟨rfl, hb⟩
            have HB3 := Lib.hid (HB2.out.trans (hb.mono HB2.out.size))
            clear hb
            go_wp2_with fail
            go_ret
            exact ⟨ret_b HF.out, HB3.out⟩
          | true =>
            have HF : Hid (namedB (nb.data.toList :: nm) (A.drop (i + 1)) = Z) := Lib.hid (by have := HQ2.out; rw [hc] at this; simpa using this)
            clear hc
            go_upto_region 5 with fail
            rw [HW2.out]
            go_wp2_with fail
            refine (HNM.out w2).mono ?_; rintro e w3 ⟨rfl, rfl⟩
            go_wp2_with fail
            refine (HLT.out w2 HB2.out).mono ?_; rintro e w3 ⟨rfl, hb⟩
            have HB3 := Lib.hid (HB2.out.trans (hb.mono HB2.out.size))
            have HM3 := Lib.hid (HM2.out.below hb)
            have HC3 := Lib.hid ((hb.block _ (heap_lt HC2.out)).trans HC2.out)
            have d3 : w3.cell? ⟨wr.heap.size, 0, none⟩ = some (.string nb) := by rw [Lib.cell_of_heap HC3.out]; rfl
            obtain ⟨W4, hu, hM4, hg4⟩ := HUP.out w3 HM3.out
            have HM4 := Lib.hid hM4
            have HB4 : Hid (Below w.heap.size w W4) := Lib.hid (HB3.out.grown hg4 HB3.out.size (fun k hk => by injection hk with hk; have := HBM.out; omega))
            clear hb hM4 hg4 d0 d1 hlk
            go_wp2_with fail
            obtain ⟨hj, hj'⟩ := HJJ.out
            go_roundg g1
            case measure => omega
            case rel => exact ⟨i + 1, _, by first | rfl | go_num, ⟨by omega, by omega⟩, by simp only [List.length_cons]; omega, HM4, HB4, HF⟩
theorem lnamed_any (A : List (List UInt8 × List Cel)) (u : Value) (w : World) (hA : ArgSl u A w) (hs : ArgsSm A) (hE : EnvU w) :
    Calls Tryz.prog 70 #[u] w fun e w' => e = .returned (.bool (namedB [] A)) ∧ Below w.heap.size w w' := by
  rcases hA with ⟨a, c, rfl, rfl⟩ | ⟨b, off, cap, rfl, hrow, hpos⟩
  · exact lnamed_none a c w
  · exact lnamed_go A b off cap w hrow hpos hs hE
end Go.Proofs.YtbejhdhhkpllfaaGreatDoor
namespace Go.Proofs.YtbejhdhhkpllfaaGreatDoor
open Go.RowKit
theorem namedB_ok : ∀ (nm : List (List UInt8)) (A : List (List UInt8 × List Cel)), namedB nm A = true → (∀ x ∈ A, SmallV x.2) → ArgsOk A
  | _, [], _, _ => fun x h => by cases h
  | nm, x :: r, h, hs => by
    rw [namedB] at h
    simp only [Bool.and_eq_true] at h
    have hm : mayB x.2 = true := by have := h.1.2; unfold litB at this; simp only [Bool.and_eq_true] at this; exact this.1
    obtain ⟨h1, h2, h3⟩ := mayB_parts hm
    have ih := namedB_ok _ r h.2 (fun y hy => hs y (by simp [hy]))
    intro y hy
    rcases List.mem_cons.1 hy with rfl | hy
    · exact ⟨h1, h2, fun c hc => ((hs y (by simp)).2 c hc).2.2, h3⟩
    · exact ih y hy
def atoksE (A : List (List UInt8 × List Cel)) : Int := if namedB [] A then 0 else 8
def atoksL (A : List (List UInt8 × List Cel)) : List Tok := if namedB [] A then argsK A else []
theorem OwnT.slf {B : Nat} {v : Value} {L : List Tok} {W : World} (h : OwnT B v L W) : ∃ a n c, v = .slice a n c := by
  rcases h.2 with ⟨e1, _⟩ | ⟨g, cap, cur, e1, _⟩
  · exact ⟨_, _, _, e1⟩
  · exact ⟨_, _, _, e1⟩
set_option maxRecDepth 100000 in
theorem argtoks_any (A : List (List UInt8 × List Cel)) (u : Value) (w : World) (hA : ArgSl u A w) (hu : ∃ a n c, u = .slice a n c) (hs : ArgsSm A) (hroom : roomA A ≤ 80000) (hE : EnvU w) (hT : EnvT w) :
    Calls Tryz.prog 56 #[u] w fun e w' => (∃ v, e = .returned (.tuple #[v, .int .i64 (atoksE A)]) ∧ OwnT w.heap.size v (atoksL A) w') ∧ Below w.heap.size w w' := by
  have HNM := Lib.hid (lnamed_any A u w hA hs hE)
  obtain ⟨a, n, c, rfl⟩ := hu
  unfold atoksE atoksL
  have HS := Lib.hid hs
  have HA := Lib.hid hA
  have HT := Lib.hid hT
  cases hb : namedB [] A with
  | false =>
    rw [hb] at HNM
    clear hA hs hE hT hb hroom
    go_enter Tryz.func56, Tryz.ntmps56
    go_wp2_with fail
    refine HNM.out.mono ?_; rintro e w1 ⟨rfl, hb⟩
    have HB := Lib.hid hb
    clear hb
    go_wp2_with fail
    go_ret2
    exact ⟨⟨_, rfl, OwnT.nil _ _⟩, HB.out⟩
  | true =>
    rw [hb] at HNM
    have HOK := Lib.hid (namedB_ok [] A hb fun x hx => (hs.2 x hx).2)
    have hal := hs.1
    clear hA hs hE hT hb
    go_enter Tryz.func56, Tryz.ntmps56
    go_wp2_with fail
    refine HNM.out.mono ?_; rintro e w1 ⟨rfl, hb⟩
    have hz := hb.size
    have hb2 : Below w.heap.size w (w1.alloc (.cells #[.slice none 0 0] 97 (0, 0))) := hb.alloc hz _
    have HB2 := Lib.hid hb2
    have HP : Hid (PutS w1.heap.size (.slice none 0 0) [] (w1.alloc (.cells #[.slice none 0 0] 97 (0, 0)))) := Lib.hid ⟨heap_new _ _ _ rfl, OwnT.nil _ _⟩
    have HUP := Lib.hid (up_args w1 A w1.heap.size _ (ArgSl.below HA.out hb) HOK.out hal (HT.out.stays hb) (Nat.le_refl _) _ _ [] HP.out ((Below.refl _ _).alloc (Nat.le_refl _) _) (by simp; omega))
    clear hb hb2
    go_wp2_with fail
    refine HUP.out.mono ?_; rintro e w3 ⟨rfl, ⟨v3, h3⟩, hk3⟩
    have h3c := h3.cell
    have HP3 := Lib.hid h3
    have HB3 : Hid (Below w.heap.size w w3) := Lib.hid (HB2.out.trans (hk3.1.mono hz))
    obtain ⟨a3, n3, c3, rfl⟩ := h3.2.slf
    clear h3 hk3
    go_wp2_with fail
    go_ret2
    refine ⟨⟨_, rfl, ?_⟩, HB3.out⟩
    have := HP3.out.2.lessU (B' := w.heap.size) (by omega)
    simpa using this
/-- A directive's tokens; directives'. -/
def dirK (x : List UInt8 × List (List UInt8 × List Cel)) : List Tok := mkT [64] :: nmT x.1 :: argsK x.2
def dirB (x : List UInt8 × List (List UInt8 × List Cel)) : Bool := nameB x.1 && namedB [] x.2
def dtoksE (D : List (List UInt8 × List (List UInt8 × List Cel))) : Int := if D.all dirB then 0 else 8
def dtoksL (D : List (List UInt8 × List (List UInt8 × List Cel))) : List Tok := if D.all dirB then D.flatMap dirK else []
def roomD : List (List UInt8 × List (List UInt8 × List Cel)) → Nat
  | [] => 0
  | x :: r => 4 + roomA x.2 + roomD r
theorem argsK_le (A : List (List UInt8 × List Cel)) (h : ArgsOk A) : (argsK A).length ≤ roomA A + 2 := by
  unfold argsK
  have := argsK_len A h
  split
  · simp
  · simp only [List.length_cons, List.length_append, List.length_nil]; omega
def DirsSm (D : List (List UInt8 × List (List UInt8 × List Cel))) : Prop := D.length ≤ 100000 ∧ ∀ x ∈ D, x.1.length ≤ 1000000 ∧ ArgsSm x.2
set_option maxRecDepth 100000 in
theorem dirtoks_none (a : Option Addr) (c : Nat) (w : World) :
    Calls Tryz.prog 57 #[.slice a 0 c] w fun e w' => e = .returned (.tuple #[.slice none 0 0, .int .i64 0]) ∧ Below w.heap.size w w' := by
  have HB : Hid (Below w.heap.size w (w.alloc (.cells #[.slice none 0 0] 97 (0, 0)))) := Lib.hid ((Below.refl _ _).alloc (Nat.le_refl _) _)
  go_enter Tryz.func57, Tryz.ntmps57
  go_wp2_with fail
  refine wp_loop_rounds 1 ?_; rw [rounds_succ]
  go_wp2_with fail
  go_ret2
  exact ⟨rfl, HB.out⟩
set_option maxRecDepth 100000 in
set_option maxHeartbeats 4000000 in
theorem dirtoks_go (D : List (List UInt8 × List (List UInt8 × List Cel))) (b off cap : Nat) (w : World) (hA : XRow ArgSl b off D w) (hpos : 0 < D.length) (hs : DirsSm D) (hroom : roomD D ≤ 80000) (hE : EnvU w) (hT : EnvT w) :
    Calls Tryz.prog 57 #[.slice (some ⟨b, off, none⟩) D.length cap] w fun e w' => (∃ v, e = .returned (.tuple #[v, .int .i64 (dtoksE D)]) ∧ OwnT w.heap.size v (dtoksL D) w') ∧ Below w.heap.size w w' := by
  have HA := Lib.hid hA
  have HS := Lib.hid hs.2
  have hl := hs.1
  have HE := Lib.hid hE
  have HT := Lib.hid hT
  obtain ⟨ZE, hZE⟩ : ∃ ZE, dtoksE D = ZE := ⟨_, rfl⟩
  obtain ⟨ZL, hZL⟩ : ∃ ZL, dtoksL D = ZL := ⟨_, rfl⟩
  rw [hZE, hZL]
  -- what is still to come, told from where it is
  have HQ0 : Hid ((D.drop 0).all dirB = true → ZE = 0 ∧ ([] : List Tok) ++ (D.drop 0).flatMap dirK = ZL) := Lib.hid fun h => by
    rw [List.drop_zero] at h ⊢
    unfold dtoksE at hZE
    unfold dtoksL at hZL
    rw [h] at hZE hZL
    exact ⟨hZE.symm, by rw [← hZL]; simp⟩
  have HN0 : Hid ((D.drop 0).all dirB = false → ZE = 8 ∧ ZL = []) := Lib.hid fun h => by
    rw [List.drop_zero] at h
    unfold dtoksE at hZE
    unfold dtoksL at hZL
    rw [h] at hZE hZL
    exact ⟨hZE.symm, hZL.symm⟩
  have HR0 : Hid (([] : List Tok).length + roomD (D.drop 0) ≤ 80000) := Lib.hid (by simpa using hroom)
  obtain ⟨n, hn⟩ : ∃ n, D.length = n := ⟨_, rfl⟩
  have HN := Lib.hid hn
  rw [hn]
  rw [hn] at hl hpos
  obtain ⟨q, hq⟩ : ∃ q, w.heap.size = q := ⟨_, rfl⟩
  obtain ⟨w1, hw1⟩ : ∃ w1, w.alloc (.cells #[.slice none 0 0] 97 (0, 0)) = w1 := ⟨_, rfl⟩
  have HB1 : Hid (Below w.heap.size w w1) := Lib.hid (by rw [← hw1]; exact (Below.refl _ _).alloc (Nat.le_refl _) _)
  have HP1 : Hid (PutS q (.slice none 0 0) [] w1) := Lib.hid ⟨by rw [← hw1, ← hq]; exact heap_new _ _ _ rfl, OwnT.nil _ _⟩
  have HW1 := Lib.hid hw1
  have HQQ := Lib.hid hq
  clear hA hs hE hT hZE hZL hn hq hw1 hroom
  go_enter Tryz.func57, Tryz.ntmps57
  go_wp2_with fail
  try rw [HW1.out]
  try simp only [HQQ.out]
  go_loopg [11] n (fun gk iv wr => ∃ (i : Nat) (L1 : List Tok) (pv : Value), iv = .int .i64 (i : Int) ∧ (gk + i ≤ n ∧ n ≤ gk + i) ∧ Hid (PutS q pv L1 wr) ∧ Hid (Below w.heap.size w wr) ∧ Hid (L1.length + roomD (D.drop i) ≤ 80000) ∧ Hid ((D.drop i).all dirB = true → ZE = 0 ∧ L1 ++ (D.drop i).flatMap dirK = ZL) ∧ Hid ((D.drop i).all dirB = false → ZE = 8 ∧ ZL = []))
  case atStart => exact ⟨0, [], _, by go_num, ⟨by omega, by omega⟩, HP1, HB1, HR0, HQ0, HN0⟩
  case round =>
    clear HP1 HB1 HR0 HQ0 HN0 HW1
    rename World => wr
    obtain ⟨i, L1, pv, rfl, ⟨hj, hj'⟩, HP, HB, HRM, HQ, HNO⟩ := hrel
    have hL1 : L1.length ≤ 80000 := by have := HRM.out; omega
    by_cases hg0 : gk = 0
    · subst hg0
      have hlt : ¬ (i : Int) < (n : Int) := by omega
      have hdn : D.drop i = [] := List.drop_of_length_le (by have := HN.out; omega)
      have HF : Hid (ZE = 0 ∧ L1 = ZL) := Lib.hid (by have := HQ.out (by rw [hdn]; rfl); rw [hdn] at this; simpa using this)
      have h3c := HP.out.cell
      obtain ⟨a3, n3, c3, rfl⟩ := HP.out.2.slf
      clear hj hj' hdn
      go_wp2_with fail
      go_ret2
      refine ⟨⟨.slice a3 n3 c3, by rw [HF.out.1]; rfl, ?_⟩, HB.out⟩
      rw [← HF.out.2]
      exact HP.out.2.lessU (by have := HQQ.out; omega)
    · obtain ⟨g1, rfl⟩ : ∃ g1, gk = g1 + 1 := ⟨gk - 1, by omega⟩
      have hil : i < D.length := by have := HN.out; omega
      clear hg0
      have hbw := HB.out
      obtain ⟨e0, a, vn, c, e1, hy⟩ := HA.out i hil
      obtain ⟨hx1, hx2⟩ := HS.out D[i] (List.getElem_mem hil)
      have r0 : wr.cell? ⟨b, off + i * 2, none⟩ = some (.string ⟨(D[i]'hil).1.toArray⟩) := (hbw.cell (p := ⟨b, _, none⟩) (lt_of_cell e0)).trans e0
      have r1 : wr.cell? ⟨b, off + i * 2 + 1, none⟩ = some (.slice a vn c) := (hbw.cell (p := ⟨b, _, none⟩) (lt_of_cell e0)).trans e1
      have hq1 := HQ.out
      have hq2 := HNO.out
      have hrm := HRM.out
      rw [List.drop_eq_getElem_cons hil] at hq1 hq2 hrm
      rw [roomD] at hrm
      simp only [List.all_cons, List.flatMap_cons] at hq1 hq2
      have HNA : Hid (∀ W, Below w.heap.size w W → Calls Tryz.prog 70 #[.slice a vn c] W fun e w' => e = .returned (.bool (namedB [] (D[i]'hil).2)) ∧ Below W.heap.size W w') := Lib.hid fun W hW => lnamed_any _ _ W (ArgSl.below hy hW) hx2 (HE.out.below hW)
      have HPA : Hid (namedB [] (D[i]'hil).2 = true → (argsK (D[i]'hil).2).length ≤ roomA (D[i]'hil).2 + 2 ∧ ∀ (W : World) (pv : Value) (L : List Tok), Below w.heap.size w W → PutS q pv L W → L.length + 2 + roomA (D[i]'hil).2 ≤ 90000 → Calls Tryz.prog 71 #[.pointer (some ⟨q, 0, none⟩), .slice a vn c] W fun e w' => e = .returned (.tuple #[]) ∧ (∃ v', PutS q v' (L ++ argsK (D[i]'hil).2) w') ∧ RK q W w') := Lib.hid fun hb => by
        have hok := namedB_ok [] _ hb fun x hx => (hx2.2 x hx).2
        exact ⟨argsK_le _ hok, fun W pv L hW hP hr => up_args w (D[i]'hil).2 q _ hy hok hx2.1 HT.out (by have := HQQ.out; omega) W pv L hP hW (by omega)⟩
      obtain ⟨nb, hnb⟩ : ∃ nb : ByteArray, (⟨(D[i]'hil).1.toArray⟩ : ByteArray) = nb := ⟨_, rfl⟩
      have hnd : (D[i]'hil).1 = nb.data.toList := by rw [← hnb]
      have hnz : nb.size ≤ 1000000 := by rw [← bsz, ← hnd]; exact hx1
      rw [hnb] at r0
      have HNM : Hid (∀ W, Calls Tryz.prog 11 #[.string nb] W fun e w' => e = .returned (.bool (nameB nb.data.toList)) ∧ W = w') := Lib.hid fun W => lname_any nb hnz W
      have hdb : dirB (D[i]'hil) = (nameB nb.data.toList && namedB [] (D[i]'hil).2) := by unfold dirB; rw [hnd]
      have hdk : dirK (D[i]'hil) = mkT [64] :: ⟨1, nb.data.toList, 0⟩ :: argsK (D[i]'hil).2 := by unfold dirK; rw [hnd]; rfl
      rw [hdb] at hq1 hq2
      rw [hdk] at hq1
      have HQ1 := Lib.hid hq1
      have HQ2 := Lib.hid hq2
      have HRM2 := Lib.hid hrm
      clear e0 e1 hy hx1 hx2 hnb hnd hq1 hq2 hbw hdb hdk hrm
      generalize argsK (D[i]'hil).2 = ak at *
      generalize roomA (D[i]'hil).2 = ra at *
      generalize namedB [] (D[i]'hil).2 = lb at *
      generalize nameB nb.data.toList = nbb at *
      have i1 : (i : Int).toNat = i := by omega
      have i2 : (0 : Int) ≤ (i : Int) := by omega
      have i3 : (i : Int) < (n : Int) := by omega
      have i4 : IntKind.i64.wrap ((i : Int) + 1) = ((i + 1 : Nat) : Int) := by rw [IntWalk.i64_in _ (by omega)]; omega
      have HZb := HB.out.size
      have hqr := HP.out.lt
      obtain ⟨w2, hw2⟩ : ∃ w2, wr.alloc (.cells #[.string nb, .slice a vn c] 90 (0, 0)) = w2 := ⟨_, rfl⟩
      have hb2 : Below wr.heap.size wr w2 := by rw [← hw2]; exact (Below.refl _ _).alloc (Nat.le_refl _) _
      have HB2 : Hid (Below w.heap.size w w2) := Lib.hid (HB.out.trans (hb2.mono HZb))
      have HP2 := Lib.hid (HP.out.below hb2)
      have HC2 : Hid (w2.heap[wr.heap.size]? = some (.cells #[.string nb, .slice a vn c] 90 (0, 0))) := Lib.hid (by rw [← hw2]; exact heap_new _ _ _ rfl)
      have d0 : w2.cell? ⟨wr.heap.size, 0, none⟩ = some (.string nb) := by rw [Lib.cell_of_heap HC2.out]; rfl
      have d1 : w2.cell? ⟨wr.heap.size, 1, none⟩ = some (.slice a vn c) := by rw [Lib.cell_of_heap HC2.out]; rfl
      have hcq : wr.heap.size ≠ q := by omega
      have HW2 := Lib.hid hw2
      have HJJ := Lib.hid (And.intro hj hj')
      clear hb2 hw2 hj hj' hil
      cases nbb with
      | false =>
        have HF : Hid (ZE = 8 ∧ ZL = []) := Lib.hid (HQ2.out (by simp))
        go_upto_region 5 with fail
        rw [HW2.out]
        go_wp2_with fail
        refine (HNM.out w2).mono ?_; rintro e w3 ⟨rfl, rfl⟩
        go_wp2_with fail
        go_ret2
        exact ⟨⟨.slice none 0 0, by rw [HF.out.1]; rfl, by rw [HF.out.2]; exact OwnT.nil _ _⟩, HB2.out⟩
      | true =>
        cases lb with
        | false =>
          have HF : Hid (ZE = 8 ∧ ZL = []) := Lib.hid (HQ2.out (by simp))
          go_upto_region 5 with fail
          rw [HW2.out]
          go_wp2_with fail
          refine (HNM.out w2).mono ?_; rintro e w3 ⟨rfl, rfl⟩
          go_wp2_with fail
          refine (HNA.out w2 HB2.out).mono ?_; rintro e w3 ⟨rfl, hb⟩
          have HB3 := Lib.hid (HB2.out.trans (hb.mono HB2.out.size))
          clear hb
          go_wp2_with fail
          go_ret2
          exact ⟨⟨.slice none 0 0, by rw [HF.out.1]; rfl, by rw [HF.out.2]; exact OwnT.nil _ _⟩, HB3.out⟩
        | true =>
          obtain ⟨hak, hpa⟩ := HPA.out rfl
          have HPX := Lib.hid hpa
          have HRN : Hid (L1.length + 2 + ak.length + roomD (D.drop (i + 1)) ≤ 80000 ∧ L1.length + 4 + ra ≤ 80000) := Lib.hid ⟨by have := HRM2.out; omega, by have := HRM2.out; omega⟩
          have HFY : Hid ((D.drop (i + 1)).all dirB = true → ZE = 0 ∧ (((L1 ++ [mkT [64]]) ++ [⟨1, nb.data.toList, 0⟩]) ++ ak) ++ (D.drop (i + 1)).flatMap dirK = ZL) := Lib.hid fun h => by
            have := HQ1.out (by simp [h])
            exact ⟨this.1, by rw [← this.2]; simp⟩
          have HFN : Hid ((D.drop (i + 1)).all dirB = false → ZE = 8 ∧ ZL = []) := Lib.hid fun h => HQ2.out (by simp [h])
          clear hpa
          go_upto_region 5 with fail
          rw [HW2.out]
          go_wp2_with fail
          refine (HNM.out w2).mono ?_; rintro e w3 ⟨rfl, rfl⟩
          go_wp2_with fail
          refine (HNA.out w2 HB2.out).mono ?_; rintro e w3 ⟨rfl, hb⟩
          have HB3 := Lib.hid (HB2.out.trans (hb.mono HB2.out.size))
          have HP3 := Lib.hid (HP2.out.below hb)
          have HC3 := Lib.hid ((hb.block _ (heap_lt HC2.out)).trans HC2.out)
          clear hb d0 d1
          generalize wr.heap.size = cb at *
          have hq3 := HP3.out.lt
          have hz3 := HB3.out.size
          have hb4 : Below w3.heap.size w3 (w3.alloc (.cells #[.string ⟨#[64]⟩] 9 (0, 0))) := (Below.refl _ _).alloc (Nat.le_refl _) _
          have HP4 := Lib.hid (HP3.out.below hb4)
          have HB4 := Lib.hid (HB3.out.trans (hb4.mono hz3))
          have HC4 := Lib.hid ((hb4.block cb (heap_lt HC3.out)).trans HC3.out)
          have hne4 : w3.heap.size ≠ q := by omega
          clear hb4
          go_wp2_with fail
          refine (put_add q pv L1 4 4 rfl ⟨#[64]⟩ _ 1 _ HP4.out (new_cell0 _ _ _) hne4 (by omega)).mono ?_; rintro e w5 ⟨rfl, ⟨pv5, hx1⟩, hx2⟩
          have HP5 : Hid (PutS q pv5 (L1 ++ [mkT [64]]) w5) := Lib.hid hx1
          have HB5 : Hid (Below w.heap.size w w5) := Lib.hid (HB4.out.trans (hx2.1.mono (by have := HQQ.out; omega)))
          have HC5 := Lib.hid (hx2.2 _ _ HC4.out hcq)
          have d0 : w5.cell? ⟨cb, 0, none⟩ = some (.string nb) := by rw [Lib.cell_of_heap HC5.out]; rfl
          have hz5 := HB5.out.size
          have hq5 := HP5.out.lt
          clear hx1 hx2 HP4 HB4 HC4 hne4 hz3 hq3
          have hb6 : Below w5.heap.size w5 (w5.alloc (.cells #[.string nb] 9 (0, 0))) := (Below.refl _ _).alloc (Nat.le_refl _) _
          have HP6 := Lib.hid (HP5.out.below hb6)
          have HB6 := Lib.hid (HB5.out.trans (hb6.mono hz5))
          have HC6 := Lib.hid ((hb6.block cb (heap_lt HC5.out)).trans HC5.out)
          have hne6 : w5.heap.size ≠ q := by omega
          clear hb6
          go_wp2_with fail
          refine (put_add q pv5 _ 1 1 rfl nb _ 1 _ HP6.out (new_cell0 _ _ _) hne6 (by simp only [List.length_append, List.length_cons, List.length_nil]; omega)).mono ?_; rintro e w7 ⟨rfl, ⟨pv7, hx1⟩, hx2⟩
          have HP7 : Hid (PutS q pv7 ((L1 ++ [mkT [64]]) ++ [⟨1, nb.data.toList, 0⟩]) w7) := Lib.hid hx1
          have HB7 : Hid (Below w.heap.size w w7) := Lib.hid (HB6.out.trans (hx2.1.mono (by have := HQQ.out; omega)))
          have HC7 := Lib.hid (hx2.2 _ _ HC6.out hcq)
          have d1 : w7.cell? ⟨cb, 1, none⟩ = some (.slice a vn c) := by rw [Lib.cell_of_heap HC7.out]; rfl
          clear hx1 hx2 HP6 HB6 HC6 hne6 d0
          go_wp2_with fail
          refine (HPX.out w7 pv7 _ HB7.out HP7.out (by have := HRN.out; simp only [List.length_append, List.length_cons, List.length_nil]; omega)).mono ?_; rintro e w8 ⟨rfl, ⟨pv8, hx1⟩, hx2⟩
          have HP8 := Lib.hid hx1
          have HB8 : Hid (Below w.heap.size w w8) := Lib.hid (HB7.out.trans (hx2.1.mono (by have := HQQ.out; omega)))
          clear hx1 hx2
          go_wp2_with fail
          obtain ⟨hj, hj'⟩ := HJJ.out
          go_roundg g1
          case measure => omega
          case rel => exact ⟨i + 1, _, pv8, by first | rfl | go_num, ⟨by omega, by omega⟩, HP8, HB8, Lib.hid (by have := HRN.out; simp only [List.length_append, List.length_cons, List.length_nil]; omega), HFY, HFN⟩
theorem dirtoks_any (D : List (List UInt8 × List (List UInt8 × List Cel))) (u : Value) (w : World) (hA : DirSl u D w) (hs : DirsSm D) (hroom : roomD D ≤ 80000) (hE : EnvU w) (hT : EnvT w) :
    Calls Tryz.prog 57 #[u] w fun e w' => (∃ v, e = .returned (.tuple #[v, .int .i64 (dtoksE D)]) ∧ OwnT w.heap.size v (dtoksL D) w') ∧ Below w.heap.size w w' := by
  rcases hA with ⟨a, c, rfl, rfl⟩ | ⟨b, off, cap, rfl, hrow, hpos⟩
  · refine (dirtoks_none a c w).mono ?_
    rintro e w' ⟨rfl, hb⟩
    exact ⟨⟨_, rfl, OwnT.nil _ _⟩, hb⟩
  · exact dirtoks_go D b off cap w hrow hpos hs hroom hE hT
end Go.Proofs.YtbejhdhhkpllfaaGreatDoor
namespace Go.Proofs.YtbejhdhhkpllfaaGreatDoor
open Go.RowKit
def gaG : Nat → Nat → List (List UInt8 × List Cel) → Option Nat
  | 0, n, _ => some n
  | _ + 1, n, [] => some n
  | f + 1, n, x :: r => if greatV x.2 60 || decide (300 < x.1.length) then none else gaG f (n + x.2.length) r
def greatAB (A : List (List UInt8 × List Cel)) : Bool := match gaG 30 0 A with
  | none => true
  | some n => decide (20 < A.length) || decide (100 < n)
theorem great_len {V : List Cel} {m : Nat} (h : greatV V m = false) : V.length ≤ m := by
  unfold greatV at h
  rw [Bool.or_eq_false_iff] at h
  have := h.2
  simp at this
  exact this
set_option maxRecDepth 100000 in
set_option maxHeartbeats 4000000 in
theorem greatargs_row (A : List (List UInt8 × List Cel)) (b off cap : Nat) (hl : A.length ≤ 9223372036854775807) (w : World) (hr : XRow CelSl b off A w) (hsz : ∀ x ∈ A, x.1.length ≤ 9223372036854775807 ∧ x.2.length ≤ 9223372036854775807 ∧ ∀ c ∈ x.2, c.name.length ≤ 9223372036854775807 ∧ c.text.length ≤ 9223372036854775807) :
    Calls Tryz.prog 33 #[.slice (some ⟨b, off, none⟩) A.length cap] w fun e w' => e = .returned (.bool (greatAB A)) ∧ w = w' := by
  have HA := Lib.hid hr
  have HS := Lib.hid hsz
  obtain ⟨Z, hZ⟩ : ∃ Z, gaG 30 0 A = Z := ⟨_, rfl⟩
  have HZ0 : Hid (gaG (30 - 0) 0 (A.drop 0) = Z) := Lib.hid hZ
  have HG : Hid ((Z = none → greatAB A = true) ∧ ∀ n, Z = some n → greatAB A = (decide (20 < A.length) || decide (100 < n))) := Lib.hid (by
    unfold greatAB
    rw [hZ]
    exact ⟨fun h => by rw [h], fun n h => by rw [h]⟩)
  generalize greatAB A = G at HG ⊢
  obtain ⟨n, hn⟩ : ∃ n, A.length = n := ⟨_, rfl⟩
  have HN := Lib.hid hn
  rw [hn] at HG ⊢
  rw [hn] at hl
  clear hr hsz hZ hn
  go_enter Tryz.func33, Tryz.ntmps33
  go_wp2_with fail
  go_loopg [3, 4] 31 (fun gk nv iv wr => ∃ (i s : Nat), iv = .int .i64 (i : Int) ∧ nv = .int .i64 (s : Int) ∧ (gk + i ≤ 31 ∧ 31 ≤ gk + i) ∧ i ≤ 30 ∧ s ≤ 60 * i ∧ Hid (gaG (30 - i) s (A.drop i) = Z) ∧ w = wr)
  case atStart => exact ⟨0, 0, by go_num, by go_num, ⟨by omega, by omega⟩, by omega, by omega, HZ0, rfl⟩
  case round =>
    clear HZ0
    rename World => wr
    obtain ⟨i, s, rfl, rfl, ⟨hj, hj'⟩, hi, hs, HQ, rfl⟩ := hrel
    obtain ⟨g, rfl⟩ : ∃ g, gk = g + 1 := ⟨gk - 1, by omega⟩
    have HJJ := Lib.hid (And.intro hj hj')
    clear hj hj'
    by_cases hin : (i : Int) < (n : Int)
    · by_cases h30 : (i : Int) < 30
      · have hil : i < A.length := by have := HN.out; omega
        obtain ⟨e0, a, vn, c, e1, hy⟩ := HA.out i hil
        obtain ⟨z1, z2, z3⟩ := HS.out A[i] (List.getElem_mem hil)
        have hq := HQ.out
        obtain ⟨f, hf⟩ : ∃ f, 30 - i = f + 1 := ⟨30 - i - 1, by omega⟩
        rw [hf, List.drop_eq_getElem_cons hil, gaG] at hq
        have hf2 : 30 - (i + 1) = f := by omega
        have hvn : vn = (A[i]'hil).2.length := by
          rcases hy with ⟨a2, c2, e2, e3, _⟩ | ⟨b2, o2, c2, e2, e3, e4⟩
          · injection e2 with _ e2 _; rw [e2, e3]; rfl
          · injection e2
        have HC := Lib.hid (rgreat03_any _ _ 60 (by exact z2) (by decide) w hy z3)
        obtain ⟨nb, hnb⟩ : ∃ nb : ByteArray, (⟨(A[i]'hil).1.toArray⟩ : ByteArray) = nb := ⟨_, rfl⟩
        have hnl : (A[i]'hil).1.length = nb.size := by rw [← hnb]; simp [ByteArray.size]
        rw [hnb] at e0
        rw [hnl] at hq z1
        have hgl := fun h => great_len (V := (A[i]'hil).2) (m := 60) h
        rw [← hvn] at hq hgl z2
        have HQ2 := Lib.hid hq
        clear hq hy hnb hnl hvn z3
        generalize greatV (A[i]'hil).2 60 = gv at *
        have i1 : (i : Int).toNat = i := by omega
        have i2 : (0 : Int) ≤ (i : Int) := by omega
        have i4 : IntKind.i64.wrap ((i : Int) + 1) = ((i + 1 : Nat) : Int) := by rw [IntWalk.i64_in _ (by omega)]; omega
        cases gv with
        | true =>
          have HF : Hid (true = G) := Lib.hid (HG.out.1 (by rw [← HQ2.out]; rfl)).symm
          go_wp2_with fail
          refine HC.out.mono ?_; rintro e w2 ⟨rfl, rfl⟩
          go_wp2_with fail
          go_ret
          exact ⟨ret_b HF.out, rfl⟩
        | false =>
          have hv60 := hgl rfl
          by_cases h3 : (300 : Int) < (nb.size : Int)
          · have HF : Hid (true = G) := Lib.hid (HG.out.1 (by rw [← HQ2.out, decide_eq_true (by omega : 300 < nb.size)]; rfl)).symm
            clear hgl
            go_wp2_with fail
            refine HC.out.mono ?_; rintro e w2 ⟨rfl, rfl⟩
            go_wp2_with fail
            go_ret
            exact ⟨ret_b HF.out, rfl⟩
          · have HF : Hid (gaG (30 - (i + 1)) (s + vn) (A.drop (i + 1)) = Z) := Lib.hid (by rw [hf2, ← HQ2.out, decide_eq_false (by omega : ¬ 300 < nb.size)]; rfl)
            have i5 : IntKind.i64.wrap ((s : Int) + (vn : Int)) = ((s + vn : Nat) : Int) := by rw [IntWalk.i64_in _ (by omega)]; omega
            clear hgl
            go_wp2_with fail
            refine HC.out.mono ?_; rintro e w2 ⟨rfl, rfl⟩
            go_wp2_with fail
            obtain ⟨hj, hj'⟩ := HJJ.out
            go_roundg g
            case measure => omega
            case rel => exact ⟨i + 1, s + vn, rfl, rfl, ⟨by omega, by omega⟩, by omega, by omega, HF, rfl⟩
      · have HF : Hid (Z = some s) := Lib.hid (by rw [← HQ.out, show 30 - i = 0 by omega, gaG])
        have HF2 := Lib.hid (HG.out.2 s HF.out)
        go_wp2_with fail
        go_ret
        refine ⟨ret_b ?_, rfl⟩
        rw [HF2.out]
        by_cases c1 : 20 < n <;> by_cases c2 : 100 < s <;> simp [c1, c2] <;> omega
    · have HF : Hid (Z = some s) := Lib.hid (by
        rw [← HQ.out, List.drop_of_length_le (by have := HN.out; omega)]
        cases 30 - i <;> rfl)
      have HF2 := Lib.hid (HG.out.2 s HF.out)
      by_cases c1 : (20 : Int) < (n : Int)
      · go_wp2_with fail
        go_ret
        refine ⟨ret_b ?_, rfl⟩
        rw [HF2.out]
        have : 20 < n := by omega
        simp [this]
      · by_cases c2 : (100 : Int) < (s : Int)
        · go_wp2_with fail
          go_ret
          refine ⟨ret_b ?_, rfl⟩
          rw [HF2.out]
          have : 100 < s := by omega
          simp [this]
        · go_wp2_with fail
          go_ret
          refine ⟨ret_b ?_, rfl⟩
          rw [HF2.out]
          have h1 : ¬ 20 < n := by omega
          have h2 : ¬ 100 < s := by omega
          simp [h1, h2]
end Go.Proofs.YtbejhdhhkpllfaaGreatDoor
namespace Go.Proofs.YtbejhdhhkpllfaaGreatDoor
open Go.RowKit
set_option maxRecDepth 100000 in
theorem greatargs_none (a : Option Addr) (c : Nat) (w : World) :
    Calls Tryz.prog 33 #[.slice a 0 c] w fun e w' => e = .returned (.bool false) ∧ w = w' := by
  go_enter Tryz.func33, Tryz.ntmps33
  go_wp2_with fail
  refine wp_loop_rounds 1 ?_; rw [rounds_succ]
  go_wp2_with fail
  go_ret
  exact ⟨rfl, rfl⟩
theorem greatargs_any (A : List (List UInt8 × List Cel)) (u : Value) (hl : A.length ≤ 9223372036854775807) (w : World) (hr : ArgSl u A w) (hsz : ∀ x ∈ A, x.1.length ≤ 9223372036854775807 ∧ x.2.length ≤ 9223372036854775807 ∧ ∀ c ∈ x.2, c.name.length ≤ 9223372036854775807 ∧ c.text.length ≤ 9223372036854775807) :
    Calls Tryz.prog 33 #[u] w fun e w' => e = .returned (.bool (greatAB A)) ∧ w = w' := by
  rcases hr with ⟨a, c, rfl, rfl⟩ | ⟨b, off, cap, rfl, hrow, hpos⟩
  · exact greatargs_none a c w
  · exact greatargs_row A b off cap hl w hrow hsz
end Go.Proofs.YtbejhdhhkpllfaaGreatDoor
namespace Go.Proofs.YtbejhdhhkpllfaaGreatDoor
open Go.RowKit
def gdG : Nat → List (List UInt8 × List (List UInt8 × List Cel)) → Bool
  | 0, _ => false
  | _ + 1, [] => false
  | f + 1, x :: r => greatAB x.2 || decide (300 < x.1.length) || gdG f r
def greatDB (D : List (List UInt8 × List (List UInt8 × List Cel))) : Bool := gdG 30 D || decide (10 < D.length)
def ArgsZ (A : List (List UInt8 × List Cel)) : Prop := A.length ≤ 9223372036854775807 ∧ ∀ x ∈ A, x.1.length ≤ 9223372036854775807 ∧ x.2.length ≤ 9223372036854775807 ∧ ∀ c ∈ x.2, c.name.length ≤ 9223372036854775807 ∧ c.text.length ≤ 9223372036854775807
set_option maxRecDepth 100000 in
set_option maxHeartbeats 4000000 in
theorem greatdirs_row (A : List (List UInt8 × List (List UInt8 × List Cel))) (b off cap : Nat) (hl : A.length ≤ 9223372036854775807) (w : World) (hr : XRow ArgSl b off A w) (hsz : ∀ x ∈ A, x.1.length ≤ 9223372036854775807 ∧ ArgsZ x.2) :
    Calls Tryz.prog 32 #[.slice (some ⟨b, off, none⟩) A.length cap] w fun e w' => e = .returned (.bool (greatDB A)) ∧ w = w' := by
  have HA := Lib.hid hr
  have HS := Lib.hid hsz
  obtain ⟨Z, hZ⟩ : ∃ Z, gdG 30 A = Z := ⟨_, rfl⟩
  have HZ0 : Hid (gdG (30 - 0) (A.drop 0) = Z) := Lib.hid hZ
  have HG : Hid (greatDB A = (Z || decide (10 < A.length))) := Lib.hid (by unfold greatDB; rw [hZ])
  generalize greatDB A = G at HG ⊢
  obtain ⟨n, hn⟩ : ∃ n, A.length = n := ⟨_, rfl⟩
  have HN := Lib.hid hn
  rw [hn] at HG ⊢
  rw [hn] at hl
  clear hr hsz hZ hn
  go_enter Tryz.func32, Tryz.ntmps32
  go_wp2_with fail
  go_loopg [3] 31 (fun gk iv wr => ∃ i : Nat, iv = .int .i64 (i : Int) ∧ (gk + i ≤ 31 ∧ 31 ≤ gk + i) ∧ i ≤ 30 ∧ Hid (gdG (30 - i) (A.drop i) = Z) ∧ w = wr)
  case atStart => exact ⟨0, by go_num, ⟨by omega, by omega⟩, by omega, HZ0, rfl⟩
  case round =>
    clear HZ0
    rename World => wr
    obtain ⟨i, rfl, ⟨hj, hj'⟩, hi, HQ, rfl⟩ := hrel
    obtain ⟨g, rfl⟩ : ∃ g, gk = g + 1 := ⟨gk - 1, by omega⟩
    have HJJ := Lib.hid (And.intro hj hj')
    clear hj hj'
    by_cases hin : (i : Int) < (n : Int)
    · by_cases h30 : (i : Int) < 30
      · have hil : i < A.length := by have := HN.out; omega
        obtain ⟨e0, a, vn, c, e1, hy⟩ := HA.out i hil
        obtain ⟨z1, z2⟩ := HS.out A[i] (List.getElem_mem hil)
        have hq := HQ.out
        obtain ⟨f, hf⟩ : ∃ f, 30 - i = f + 1 := ⟨30 - i - 1, by omega⟩
        rw [hf, List.drop_eq_getElem_cons hil, gdG] at hq
        have hf2 : 30 - (i + 1) = f := by omega
        have HC := Lib.hid (greatargs_any _ _ z2.1 w hy z2.2)
        obtain ⟨nb, hnb⟩ : ∃ nb : ByteArray, (⟨(A[i]'hil).1.toArray⟩ : ByteArray) = nb := ⟨_, rfl⟩
        have hnl : (A[i]'hil).1.length = nb.size := by rw [← hnb]; simp [ByteArray.size]
        rw [hnb] at e0
        rw [hnl] at hq z1
        have HQ2 := Lib.hid hq
        clear hq hy hnb hnl z2
        generalize greatAB (A[i]'hil).2 = gv at *
        have i1 : (i : Int).toNat = i := by omega
        have i2 : (0 : Int) ≤ (i : Int) := by omega
        have i4 : IntKind.i64.wrap ((i : Int) + 1) = ((i + 1 : Nat) : Int) := by rw [IntWalk.i64_in _ (by omega)]; omega
        cases gv with
        | true =>
          have HF : Hid (true = G) := Lib.hid (by rw [HG.out, ← HQ2.out]; simp)
          go_wp2_with fail
          refine HC.out.mono ?_; rintro e w2 ⟨rfl, rfl⟩
          go_wp2_with fail
          go_ret
          exact ⟨ret_b HF.out, rfl⟩
        | false =>
          by_cases h3 : (300 : Int) < (nb.size : Int)
          · have HF : Hid (true = G) := Lib.hid (by rw [HG.out, ← HQ2.out, decide_eq_true (by omega : 300 < nb.size)]; simp)
            go_wp2_with fail
            refine HC.out.mono ?_; rintro e w2 ⟨rfl, rfl⟩
            go_wp2_with fail
            go_ret
            exact ⟨ret_b HF.out, rfl⟩
          · have HF : Hid (gdG (30 - (i + 1)) (A.drop (i + 1)) = Z) := Lib.hid (by rw [hf2, ← HQ2.out, decide_eq_false (by omega : ¬ 300 < nb.size)]; rfl)
            go_wp2_with fail
            refine HC.out.mono ?_; rintro e w2 ⟨rfl, rfl⟩
            go_wp2_with fail
            obtain ⟨hj, hj'⟩ := HJJ.out
            go_roundg g
            case measure => omega
            case rel => exact ⟨i + 1, rfl, ⟨by omega, by omega⟩, by omega, HF, rfl⟩
      · have HF : Hid (Z = false) := Lib.hid (by rw [← HQ.out, show 30 - i = 0 by omega, gdG])
        go_wp2_with fail
        go_ret
        refine ⟨ret_b ?_, rfl⟩
        rw [HG.out, HF.out]
        by_cases c1 : 10 < n <;> simp [c1] <;> omega
    · have HF : Hid (Z = false) := Lib.hid (by
        rw [← HQ.out, List.drop_of_length_le (by have := HN.out; omega)]
        cases 30 - i <;> rfl)
      go_wp2_with fail
      go_ret
      refine ⟨ret_b ?_, rfl⟩
      rw [HG.out, HF.out]
      by_cases c1 : 10 < n <;> simp [c1] <;> omega
set_option maxRecDepth 100000 in
theorem greatdirs_none (a : Option Addr) (c : Nat) (w : World) :
    Calls Tryz.prog 32 #[.slice a 0 c] w fun e w' => e = .returned (.bool false) ∧ w = w' := by
  go_enter Tryz.func32, Tryz.ntmps32
  go_wp2_with fail
  refine wp_loop_rounds 1 ?_; rw [rounds_succ]
  go_wp2_with fail
  go_ret
  exact ⟨rfl, rfl⟩
theorem greatdirs_any (A : List (List UInt8 × List (List UInt8 × List Cel))) (u : Value) (hl : A.length ≤ 9223372036854775807) (w : World) (hr : DirSl u A w) (hsz : ∀ x ∈ A, x.1.length ≤ 9223372036854775807 ∧ ArgsZ x.2) :
    Calls Tryz.prog 32 #[u] w fun e w' => e = .returned (.bool (greatDB A)) ∧ w = w' := by
  rcases hr with ⟨a, c, rfl, rfl⟩ | ⟨b, off, cap, rfl, hrow, hpos⟩
  · exact greatdirs_none a c w
  · exact greatdirs_row A b off cap hl w hrow hsz
end Go.Proofs.YtbejhdhhkpllfaaGreatDoor
namespace Go.Proofs.YtbejhdhhkpllfaaGreatDoor
open Go.Lib
def NumB (V : List Cel) : Prop := ∀ c ∈ V, -9223372036854775808 ≤ c.num ∧ c.num ≤ 9223372036854775807
end Go.Proofs.YtbejhdhhkpllfaaGreatDoor
namespace Go.Proofs.YtbejhdhhkpllfaaGreatDoor
open Go.Lib
/-- May wrappers be, behind one? -/
def typB : UInt8 → List UInt8 → Bool
  | _, [] => true
  | last, w :: r => (w == 1 || w == 2) && !(w == 1 && last == 1) && typB w r
/-- A type's tokens. -/
def typK (nm : List UInt8) : List UInt8 → List Tok
  | [] => [nmT nm]
  | w :: r => if w = 2 then mkT [91] :: (typK nm r ++ [mkT [93]]) else typK nm r ++ [mkT [33]]
end Go.Proofs.YtbejhdhhkpllfaaGreatDoor
namespace Go.Proofs.YtbejhdhhkpllfaaGreatDoor
open Go.RowKit Go.Shelf
attribute [local go_sem] Oper.semAt_some
/-- Wrappers as bits. -/
def wz (b : Bool) : UInt8 := if b then 2 else 1
/-- Every cell but one block's is kept. -/
def KC (p : Nat) (W W' : World) : Prop := ∀ (a : Addr) (v : Value), a.block ≠ p → W.cell? a = some v → W'.cell? a = some v
theorem KC.refl (p : Nat) (W : World) : KC p W W := fun _ _ _ h => h
theorem KC.trans {p : Nat} {A B C : World} (h : KC p A B) (k : KC p B C) : KC p A C := fun a v ha hc => k a v ha (h a v ha hc)
theorem KC.book {p : Nat} (W : World) (l : Nat) (o o' : Obj) (hl : W.heap[l]? = some o) (ho : o.isCells = false) : KC p W (W.putObj l o') := fun a v _ hc => cell_kept hc (grownBy_putObj' W l o') (fun r e => by cases e; exact ⟨o, hl, ho⟩)
theorem KC.of_rk {p : Nat} {W W' : World} (h : RK p W W') : KC p W W' := fun a v ha hc => by
  obtain ⟨o, ho, _⟩ := cells_of_cell hc
  exact (World.cell?_of_block (w := W) ((h.2 _ o ho ha).trans ho.symm)).trans hc
theorem KC.of_below {p : Nat} {W W' : World} (h : Below W.heap.size W W') : KC p W W' := fun a v ha hc => by
  obtain ⟨o, ho, _⟩ := cells_of_cell hc
  exact (h.cell (p := a) (heap_lt ho)).trans hc
theorem backward_c (a : Option Addr) (len cap : Nat) (w : World) :
    Calls Tryz.prog 59 #[.slice a len cap] w fun e w' => e = .returned (.func (.func 72) #[] #[.pointer (some ⟨w.heap.size, 0, none⟩)]) ∧ w' = w.alloc (.cells #[.slice a len cap] 42) := by
  go_enter Tryz.func59, Tryz.ntmps59
  go_wp2_with fail
  go_ret
  exact ⟨rfl, rfl⟩
/-- What has come when k rounds are over. -/
def bk (bs : List Bool) (k : Nat) : List (Nat × Bool) := (List.range k).map fun j => (bs.length - 1 - j, bs[bs.length - 1 - j]?.getD false)
theorem bk_succ (bs : List Bool) (k : Nat) : bk bs (k + 1) = bk bs k ++ [(bs.length - 1 - k, bs[bs.length - 1 - k]?.getD false)] := by simp [bk, List.range_succ]
theorem bk_length (bs : List Bool) (k : Nat) : (bk bs k).length = k := by simp [bk]
theorem bk_all (bs : List Bool) : (bk bs bs.length).map (·.2) = bs.reverse := by
  apply List.ext_getElem
  · simp [bk]
  · intro i h1 h2
    have hi : i < bs.length := by simpa using h2
    have hj : bs.length - 1 - i < bs.length := by omega
    simp [bk, hj]
set_option maxRecDepth 100000 in
set_option maxHeartbeats 2000000 in
theorem back1_in (F : Fence) (n : Nat) (h7 : F.fn 72) (hro : F.round = none) (hn : 1 ≤ n) (l Bs p m cap : Nat) (ao : Option Addr) (bs : List Bool) (hm : m = bs.length) (hsz : m ≤ 1000000) (hBp : Bs ≠ p) (J Jx : List (Nat × Bool) → World → Prop)
    (hY : ∀ pre x W, J pre W → pre.length < m → YieldAt F (n - 1) Tryz.prog l #[.int .i64 (x.1 : Int), .int .u8 ((wz x.2).toNat : Int)] W fun e W' =>
      (e = .returned (.bool true) ∧ J (pre ++ [x]) W' ∧ KC p W W') ∨ (e = .returned (.bool false) ∧ Jx (pre ++ [x]) W'))
    (W : World) (hBs : W.cell? ⟨Bs, 0, none⟩ = some (.slice ao m cap)) (hao : 0 < m → ∃ b off, ao = some ⟨b, off, none⟩ ∧ b ≠ p ∧ ∀ j, j < m → W.cell? ⟨b, off + j, none⟩ = some (.int .u8 ((wz (bs[j]?.getD false)).toNat : Int))) (h0 : J [] W) :
    CallsIn F n Tryz.prog 72 #[.func (.yield l) #[] #[], .pointer (some ⟨Bs, 0, none⟩)] W fun e W' => (∃ v, e = .returned v) ∧
      ((∃ ys, ys = bk bs m ∧ J ys W') ∨ (∃ pre, (∃ k, k ≤ m ∧ pre = bk bs k) ∧ Jx pre W')) := by
  have HY := Lib.hid hY
  have HA := Lib.hid hao
  have HM := Lib.hid hm
  have HB := Lib.hid hBp
  have HBS := Lib.hid hBs
  have i0 : IntKind.i64.wrap ((m : Int) - 1) = (m : Int) - 1 := IntWalk.i64_in _ (by omega)
  clear hY hao hm hBp
  refine callsIn_of_wp Tryz.func72 rfl h7 ?_ hro
  simp only [Tryz.ntmps72, List.size_toArray, List.length_cons, List.length_nil, Nat.reduceAdd, Nat.reduceSub, Array.replicate_succ, Array.replicate_zero, List.push_toArray, List.append_toArray, List.nil_append, List.cons_append]
  gi_wp2
  clear hBs
  gi_loopw [3] (fun i wr => ∃ (k : Nat) (iv : Int), k ≤ m ∧ i = .int .i64 iv ∧ Hid (iv = (m : Int) - 1 - (k : Int)) ∧ Hid (J (bk bs k) wr) ∧ Hid (KC p W wr))
    (fun i _ => (intOf i + 1).toNat)
  case atStart => exact ⟨0, _, Nat.zero_le _, rfl, Lib.hid (by simp), Lib.hid h0, Lib.hid (KC.refl _ _)⟩
  case round =>
    clear h0 i0
    obtain ⟨k, iv, hk, rfl, HI, HJ, HK⟩ := hrel
    have hcx : wr.cell? ⟨Bs, 0, none⟩ = some (.slice ao m cap) := HK.out _ _ HB.out HBS.out
    by_cases hlt : k < m
    · obtain ⟨b, off, rfl, hbp, hcs⟩ := HA.out (by omega)
      obtain ⟨q, hq⟩ : ∃ q, q = m - 1 - k := ⟨_, rfl⟩
      have hiv : iv = (q : Int) := by have := HI.out; omega
      subst hiv
      have hqm : q < m := by omega
      have hrow := HK.out ⟨b, off + q, none⟩ _ hbp (hcs q hqm)
      have HQ : Hid (bk bs (k + 1) = bk bs k ++ [(q, bs[q]?.getD false)]) := Lib.hid (by rw [bk_succ, ← HM.out, ← hq])
      generalize bs[q]?.getD false = bb at hrow HQ
      obtain ⟨fn, tmps, assign, body, hy, hR⟩ := HY.out _ (q, bb) wr HJ.out (by rw [bk_length]; exact hlt)
      dsimp only at hy
      obtain ⟨ui, hui⟩ : ∃ ui : Int, ((wz bb).toNat : Int) = ui := ⟨_, rfl⟩
      rw [hui] at hy hrow
      have i1 : (q : Int).toNat = q := by omega
      have i2 : (0 : Int) ≤ (q : Int) := by omega
      have i3 : (q : Int) < (m : Int) := by omega
      have i4 : IntKind.i64.wrap ((q : Int) - 1) = (q : Int) - 1 := IntWalk.i64_in _ (by omega)
      have HQK := Lib.hid hq
      clear hcs hui hq
      gi_wp2
      refine hR.mono ?_
      rintro e W3 (⟨rfl, hJ3, hk3⟩ | ⟨rfl, hJx3⟩)
      · have HJ3 : Hid (J (bk bs (k + 1)) W3) := Lib.hid (by rw [HQ.out]; exact hJ3)
        have HK3 : Hid (KC p W W3) := Lib.hid (HK.out.trans hk3)
        clear hJ3 hk3 hR
        gi_wp2
        go_roundw
        case rel => exact ⟨k + 1, _, by omega, rfl, Lib.hid (by have := HQK.out; omega), HJ3, HK3⟩
        case measure => first | (simp [intOf]; done) | (simp [intOf]; omega)
      · have HX3 : Hid (Jx (bk bs (k + 1)) W3) := Lib.hid (by rw [HQ.out]; exact hJx3)
        clear hJx3 hR
        gi_wp2
        refine bodyPost_ret (results_none rfl _ _ _) rfl ?_
        exact ⟨⟨_, rfl⟩, .inr ⟨_, ⟨k + 1, by omega, rfl⟩, HX3.out⟩⟩
    · obtain rfl : k = m := by omega
      have hiv : iv = -1 := by have := HI.out; omega
      subst hiv
      gi_wp2
      go_end0
      exact ⟨⟨_, rfl⟩, .inl ⟨_, rfl, HJ.out⟩⟩
theorem back_stops (F : Fence) (n : Nat) (h7 : F.fn 72) (hro : F.round = none) (hn : 1 ≤ n) (Bs p : Nat) (ao : Option Addr) (m cap : Nat) (bs : List Bool) (hm : m = bs.length) (hsz : m ≤ 1000000) (hBp : Bs ≠ p) (w : World) (hBs : w.cell? ⟨Bs, 0, none⟩ = some (.slice ao m cap))
    (hao : 0 < m → ∃ b off, ao = some ⟨b, off, none⟩ ∧ b ≠ p ∧ ∀ j, j < m → w.cell? ⟨b, off + j, none⟩ = some (.int .u8 ((wz (bs[j]?.getD false)).toNat : Int))) :
    SeqStopsK F n Tryz.prog 72 #[.pointer (some ⟨Bs, 0, none⟩)] (fun x : Nat × Bool => #[Value.int .i64 (x.1 : Int), Value.int .u8 ((wz x.2).toNat : Int)]) (KC p) (fun ys => ys = bk bs m) (fun pre => ∃ k, k ≤ m ∧ pre = bk bs k) m w := fun l J Jx W hW _ _ hY h0 =>
  back1_in F n h7 hro hn l Bs p m cap ao bs hm hsz hBp J Jx hY W (KC.of_below (p := Bs + 1) hW _ _ (by simp) hBs) (fun h => by
    obtain ⟨b, off, h1, h2, h3⟩ := hao h
    exact ⟨b, off, h1, h2, fun j hj => KC.of_below (p := b + 1) hW _ _ (by simp) (h3 j hj)⟩) h0
end Go.Proofs.YtbejhdhhkpllfaaGreatDoor
namespace Go.Proofs.YtbejhdhhkpllfaaGreatDoor
def wmk (b : Bool) : Tok := if b then mkT [93] else mkT [33]
def wop (b : Bool) : List Tok := if b then [mkT [91]] else []
theorem typB_bits : ∀ (ws : List UInt8) (last : UInt8), typB last ws = true → ∃ bs : List Bool, ws = bs.map wz
  | [], _, _ => ⟨[], rfl⟩
  | w :: r, last, h => by
    unfold typB at h
    simp only [Bool.and_eq_true, Bool.or_eq_true, beq_iff_eq] at h
    obtain ⟨⟨hw, _⟩, hr⟩ := h
    obtain ⟨bs, hb⟩ := typB_bits r w hr
    rcases hw with rfl | rfl
    · exact ⟨false :: bs, by rw [hb]; rfl⟩
    · exact ⟨true :: bs, by rw [hb]; rfl⟩
theorem typK_bits (nm : List UInt8) : ∀ bs : List Bool, typK nm (bs.map wz) = bs.flatMap wop ++ nmT nm :: bs.reverse.map wmk
  | [] => rfl
  | true :: r => by
    have e : typK nm ((true :: r).map wz) = mkT [91] :: (typK nm (r.map wz) ++ [mkT [93]]) := rfl
    rw [e, typK_bits nm r]
    simp [wop, wmk]
  | false :: r => by
    have e : typK nm ((false :: r).map wz) = typK nm (r.map wz) ++ [mkT [33]] := rfl
    rw [e, typK_bits nm r]
    simp [wop, wmk]
/-- What TypeTokens answers. -/
def ttB (nm ws : List UInt8) : Bool := nameB nm && (decide (ws.length ≤ 8) && typB 2 ws)
def ttE (nm ws : List UInt8) : Int := if ttB nm ws then 0 else 8
def ttL (nm ws : List UInt8) : List Tok := if ttB nm ws then typK nm ws else []
end Go.Proofs.YtbejhdhhkpllfaaGreatDoor
namespace Go.Proofs.YtbejhdhhkpllfaaGreatDoor
open Go.RowKit
def TxS (L : List Tok) : Prop := ∀ t ∈ L, t.text.length ≤ 100000
theorem TxS.nil : TxS [] := fun t h => by cases h
theorem TxS.cons {t : Tok} {L : List Tok} (h : t.text.length ≤ 100000) (hL : TxS L) : TxS (t :: L) := fun x hx => by
  rcases List.mem_cons.1 hx with rfl | hx
  · exact h
  · exact hL x hx
def CelS (V : List Cel) : Prop := ∀ c ∈ V, c.name.length ≤ 100000 ∧ c.text.length ≤ 100000 ∧ R c.num
theorem greatV_parts {V : List Cel} {m : Nat} (h : greatV V m = false) : V.length ≤ m ∧ ∀ c ∈ V, c.name.length ≤ 300 ∧ c.text.length ≤ 3000 := by
  have hl := great_len h
  refine ⟨hl, ?_⟩
  unfold greatV at h
  rw [Bool.or_eq_false_iff, List.take_of_length_le hl, List.any_eq_false] at h
  intro c hc
  have := h.1 c hc
  simp only [Bool.or_eq_true, decide_eq_true_eq, not_or, Nat.not_lt] at this
  exact this
theorem gaG_parts : ∀ (f n : Nat) (A : List (List UInt8 × List Cel)) (m : Nat), gaG f n A = some m → A.length ≤ f → ∀ x ∈ A, greatV x.2 60 = false ∧ x.1.length ≤ 300
  | _, _, [], _, _, _ => fun x h => by cases h
  | 0, _, x :: r, _, _, hl => by simp at hl
  | f + 1, n, x :: r, m, h, hl => by
    rw [gaG] at h
    split at h
    · cases h
    · rename_i hc
      simp only [Bool.or_eq_true, decide_eq_true_eq, not_or, Nat.not_lt, Bool.not_eq_true] at hc
      intro y hy
      rcases List.mem_cons.1 hy with rfl | hy
      · exact hc
      · exact gaG_parts f _ r m h (by simp at hl; omega) y hy
theorem greatAB_parts {A : List (List UInt8 × List Cel)} (h : greatAB A = false) : A.length ≤ 20 ∧ ∀ x ∈ A, greatV x.2 60 = false ∧ x.1.length ≤ 300 := by
  unfold greatAB at h
  cases hg : gaG 30 0 A with
  | none => rw [hg] at h; cases h
  | some n =>
    rw [hg] at h
    simp only [Bool.or_eq_false_iff, decide_eq_false_iff_not, Nat.not_lt] at h
    exact ⟨h.1, gaG_parts 30 0 A n hg (by omega)⟩
theorem gdG_parts : ∀ (f : Nat) (D : List (List UInt8 × List (List UInt8 × List Cel))), gdG f D = false → D.length ≤ f → ∀ x ∈ D, greatAB x.2 = false ∧ x.1.length ≤ 300
  | _, [], _, _ => fun x h => by cases h
  | 0, x :: r, _, hl => by simp at hl
  | f + 1, x :: r, h, hl => by
    rw [gdG] at h
    simp only [Bool.or_eq_false_iff, decide_eq_false_iff_not, Nat.not_lt] at h
    intro y hy
    rcases List.mem_cons.1 hy with rfl | hy
    · exact h.1
    · exact gdG_parts f r h.2 (by simp at hl; omega) y hy
theorem greatDB_parts {D : List (List UInt8 × List (List UInt8 × List Cel))} (h : greatDB D = false) : D.length ≤ 10 ∧ ∀ x ∈ D, greatAB x.2 = false ∧ x.1.length ≤ 300 := by
  unfold greatDB at h
  simp only [Bool.or_eq_false_iff, decide_eq_false_iff_not, Nat.not_lt] at h
  exact ⟨h.2, gdG_parts 30 D h.1 (by omega)⟩
theorem roomA_le : ∀ (A : List (List UInt8 × List Cel)), (∀ x ∈ A, x.2.length ≤ 60) → roomA A ≤ 246 * A.length
  | [], _ => by simp [roomA]
  | x :: r, h => by
    have h1 := h x (by simp)
    have h2 := roomA_le r fun y hy => h y (by simp [hy])
    rw [roomA, List.length_cons]
    omega
end Go.Proofs.YtbejhdhhkpllfaaGreatDoor
namespace Go.Proofs.YtbejhdhhkpllfaaGreatDoor
open Go.RowKit Go.WideShapes Go.ChangeShapes Go.Joins Go.Deep
theorem cells_cell : Tryz.prog.cellsOf 59 = 5 := by kernel_rfl
section
variable {H : Type} {enc : TypeId × Value → H} {w : World} {base : Nat} {spare : Nat → Bool} {held : Bool}
theorem cels_of (w : World) (a : Addr) : ∀ n : Nat, (∀ i, i < n → ∃ (k : UInt8) (s t : ByteArray) (p q : Int), w.cell? (a.add (i * 5)) = some (.int .u8 (k.toNat : Int)) ∧ w.cell? (a.add (i * 5 + 1)) = some (.string s) ∧ w.cell? (a.add (i * 5 + 2)) = some (.string t) ∧ w.cell? (a.add (i * 5 + 3)) = some (.int .i64 p) ∧ w.cell? (a.add (i * 5 + 4)) = some (.int .i64 q) ∧ s.size ≤ maxLen ∧ t.size ≤ maxLen ∧ R p ∧ R q) →
    ∃ L : List Cel, L.length = n ∧ (∀ t ∈ L, t.name.length ≤ maxLen ∧ t.text.length ≤ maxLen ∧ R t.num ∧ R t.many) ∧ ∀ (i : Nat) (h : i < L.length), w.cell? (a.add (i * 5)) = some (.int .u8 (L[i].kind.toNat : Int)) ∧ w.cell? (a.add (i * 5 + 1)) = some (.string ⟨L[i].name.toArray⟩) ∧ w.cell? (a.add (i * 5 + 2)) = some (.string ⟨L[i].text.toArray⟩) ∧ w.cell? (a.add (i * 5 + 3)) = some (.int .i64 L[i].num) ∧ w.cell? (a.add (i * 5 + 4)) = some (.int .i64 L[i].many)
  | 0, _ => ⟨[], rfl, (fun t h => by cases h), (fun i h => absurd h (by simp))⟩
  | n + 1, h => by
    obtain ⟨L, hl, hz, hc⟩ := cels_of w a n fun i hi => h i (by omega)
    obtain ⟨k, s, t, p, q, c0, c1, c2, c3, c4, hs, ht, hp, hq⟩ := h n (by omega)
    refine ⟨L ++ [⟨k, s.data.toList, t.data.toList, p, q⟩], by simp [hl], ?_, ?_⟩
    · intro x hx
      rcases List.mem_append.1 hx with hx | hx
      · exact hz x hx
      · rw [List.mem_singleton] at hx
        rw [hx]
        refine ⟨?_, ?_, hp, hq⟩
        · show s.data.toList.length ≤ maxLen
          rw [Array.length_toList]
          exact hs
        · show t.data.toList.length ≤ maxLen
          rw [Array.length_toList]
          exact ht
    · intro i hi
      by_cases hin : i < L.length
      · rw [List.getElem_append_left hin]
        exact hc i hin
      · have hin' : i = L.length := by
          rw [List.length_append] at hi
          simp at hi
          omega
        subst hin'
        rw [List.getElem_append_right (Nat.le_refl _)]
        simp only [Nat.sub_self, List.getElem_cons_zero]
        rw [hl]
        refine ⟨c0, ?_, ?_, c3, c4⟩
        · rw [c1]
        · rw [c2]
/-- An element of a slice of structs, whose fields have one cell each: each field's cell, and its reading. -/
theorem elem_fields {P : Program} {H : Type} {enc : TypeId × Value → H} {w : World} {base : Nat} {spare : Nat → Bool} {held : Bool} {e : TypeId} {fs : Array Field} (he : P.underlying e = some (.struct fs)) (hone : oneCellFields P fs = true) {a : Addr} {k n : Nat} {cs : List Value} {x : DataW H × List MemPlace}
    (hk : k = P.cellsOf e) (hk2 : k = fs.size) (hc : w.cells? base a k = some cs) (ht : DataW.trod enc P w base spare held n e cs = some x) (j : Nat) (f : Field) (hj : fs[j]? = some f) :
    ∃ (v : Value) (y : DataW H × List MemPlace) (n' : Nat), w.cell? (a.add j) = some v ∧ DataW.trod enc P w base spare held n' f.type [v] = some y := by
  obtain ⟨ys, n', hn', hy, hlen, hyl, hf⟩ := DataW.trod_struct he ht
  obtain ⟨_, hcl, hat⟩ := World.cells?_some hc
  obtain ⟨ho, h1⟩ := hone_of hone j f hj
  have hjl : j < fs.size := (Array.getElem?_eq_some_iff.1 hj).1
  have hjc : j < cs.length := by omega
  have hcell := hat j (by omega)
  have g := hf j f hj
  rw [ho, h1, List.drop_eq_getElem_cons hjc] at g
  have hys : ys[j]? = some (ys[j]'(by omega)) := List.getElem?_eq_getElem (by omega)
  refine ⟨cs[j], ys[j]'(by omega), n', ?_, ?_⟩
  · rw [hcell]; exact List.getElem?_eq_getElem hjc
  · exact g.trans hys
theorem open_cells {v : Value} {d : DataW H} {p : List MemPlace} (hv : ∃ a l c, v = .slice a l c) (h : DataW.Trod enc Tryz.prog w base spare held 45 v d p) :
    ∃ L : List Cel, CelSl v L w ∧ L.length ≤ maxLen ∧ ∀ t ∈ L, t.name.length ≤ maxLen ∧ t.text.length ≤ maxLen ∧ R t.num ∧ R t.many := by
  obtain ⟨fuel, hf⟩ := h
  obtain ⟨sa, sl, sc, rfl⟩ := hv
  have hcs : (Value.slice sa sl sc).cells.toList = [.slice sa sl sc] := rfl
  rw [hcs] at hf
  rcases open_slice Tryz.underlying45 hf with ⟨h0, _⟩ | ⟨a, len, cap, m, n, D, Pl, h0, hb, hl, hm, hmm, hx, hi⟩
  · injection h0 with h0
    exact ⟨[], Or.inl ⟨_, _, h0, rfl, fun _ => rfl⟩, by decide, fun t h => by cases h⟩
  · injection h0 with h0
    have hlm : len ≤ m := by rw [hmm]; split <;> omega
    obtain ⟨L, hL, hz, hc⟩ := cels_of w a len (fun i hil => by
      obtain ⟨cs', hc, ht⟩ := hi i (by omega)
      rw [cells_cell] at hc
      have F := fun j f hj => elem_fields Tryz.underlying59 (by kernel_rfl) cells_cell.symm rfl hc ht j f hj
      obtain ⟨v0, y0, n0, g0, t0⟩ := F 0 _ rfl
      obtain ⟨v1, y1, n1, g1, t1⟩ := F 1 _ rfl
      obtain ⟨v2, y2, n2, g2, t2⟩ := F 2 _ rfl
      obtain ⟨v3, y3, n3, g3, t3⟩ := F 3 _ rfl
      obtain ⟨v4, y4, n4, g4, t4⟩ := F 4 _ rfl
      obtain ⟨k, e0, _, wk⟩ := DataW.trod_int Tryz.underlying5 t0
      obtain ⟨s, e1, _, ws⟩ := DataW.trod_string Tryz.underlying9 t1
      obtain ⟨t, e2, _, wt⟩ := DataW.trod_string Tryz.underlying9 t2
      obtain ⟨p, e3, _, wp⟩ := DataW.trod_int Tryz.underlying2 t3
      obtain ⟨q, e4, _, wq⟩ := DataW.trod_int Tryz.underlying3 t4
      injection e0 with e0
      injection e1 with e1
      injection e2 with e2
      injection e3 with e3
      injection e4 with e4
      subst e0 e1 e2 e3 e4
      obtain ⟨k1, k2⟩ := Go.bounds_u8 wk
      have hk : ((UInt8.ofNat k.toNat).toNat : Int) = k := by
        rw [UInt8.toNat_ofNat']
        omega
      refine ⟨UInt8.ofNat k.toNat, s, t, p, q, ?_, ?_, ?_, ?_, ?_, ws, wt, Go.bounds_i64 wp, Go.bounds_i64 wq⟩
      · rw [hk, ← g0]
        rw [Go.Deep.add_add]; rfl
      · rw [← g1, Go.Deep.add_add]
      · rw [← g2, Go.Deep.add_add]
      · rw [← g3, Go.Deep.add_add]
      · rw [← g4, Go.Deep.add_add])
    refine ⟨L, ?_, by omega, hz⟩
    by_cases h0l : L = []
    · rw [h0l] at hL
      refine Or.inl ⟨some a, cap, ?_, h0l, fun h => by cases h⟩
      rw [h0, ← hL]; rfl
    · have hpos : 0 < L.length := List.length_pos_iff.2 h0l
      obtain ⟨ab, ao, asp⟩ := a
      have hspot : asp = none := by simpa [Addr.add] using World.cell?_spot (hc 0 hpos).1
      subst hspot
      have hadd : ∀ j, (⟨ab, ao, none⟩ : Addr).add j = ⟨ab, ao + j, none⟩ := by
        intro j
        unfold Addr.add
        split
        · rename_i hz; rw [hz]; rfl
        · rfl
      refine Or.inr ⟨ab, ao, cap, by rw [h0, hL], ?_, hpos⟩
      intro k hk
      obtain ⟨q0, q1, q2, q3, q4⟩ := hc k hk
      rw [hadd] at q0 q1 q2 q3 q4
      exact ⟨q0, q1, q2, q3, q4⟩
end
end Go.Proofs.YtbejhdhhkpllfaaGreatDoor
namespace Go.Proofs.YtbejhdhhkpllfaaGreatDoor
open Go.RowKit Go.WideShapes Go.ChangeShapes Go.Joins Go.Deep
section
variable {H : Type} {enc : TypeId × Value → H} {w : World} {base : Nat} {spare : Nat → Bool} {held : Bool}
theorem xs_of {α : Type} {Sl : Value → α → World → Prop} {Pr : α → Prop} (w : World) (a : Addr) : ∀ n : Nat, (∀ i, i < n → ∃ (s : ByteArray) (b : Option Addr) (l c : Nat) (y : α), w.cell? (a.add (i * 2)) = some (.string s) ∧ w.cell? (a.add (i * 2 + 1)) = some (.slice b l c) ∧ Sl (.slice b l c) y w ∧ s.size ≤ maxLen ∧ Pr y) →
    ∃ L : List (List UInt8 × α), L.length = n ∧ (∀ t ∈ L, t.1.length ≤ maxLen ∧ Pr t.2) ∧ ∀ (i : Nat) (h : i < L.length), w.cell? (a.add (i * 2)) = some (.string ⟨L[i].1.toArray⟩) ∧ ∃ b l c, w.cell? (a.add (i * 2 + 1)) = some (.slice b l c) ∧ Sl (.slice b l c) L[i].2 w
  | 0, _ => ⟨[], rfl, (fun t h => by cases h), (fun i h => absurd h (by simp))⟩
  | n + 1, h => by
    obtain ⟨L, hl, hz, hc⟩ := xs_of w a n fun i hi => h i (by omega)
    obtain ⟨s, b, l, c, y, c0, c1, hs, hz1, hy⟩ := h n (by omega)
    refine ⟨L ++ [(s.data.toList, y)], by simp [hl], ?_, ?_⟩
    · intro x hx
      rcases List.mem_append.1 hx with hx | hx
      · exact hz x hx
      · rw [List.mem_singleton] at hx
        rw [hx]
        refine ⟨?_, hy⟩
        show s.data.toList.length ≤ maxLen
        rw [Array.length_toList]
        exact hz1
    · intro i hi
      by_cases hin : i < L.length
      · rw [List.getElem_append_left hin]
        exact hc i hin
      · have hin' : i = L.length := by
          rw [List.length_append] at hi
          simp at hi
          omega
        subst hin'
        rw [List.getElem_append_right (Nat.le_refl _)]
        simp only [Nat.sub_self, List.getElem_cons_zero]
        rw [hl]
        exact ⟨c0, b, l, c, c1, hs⟩
theorem open_xs {P : Program} {α : Type} {Sl : Value → α → World → Prop} {Pr : α → Prop} {t e : TypeId} {f0 f1 : Field} {fuel : Nat} {v : Value} {x : DataW H × List MemPlace} (ht : P.underlying t = some (.slice e)) (he : P.underlying e = some (.struct #[f0, f1]))
    (ce : P.cellsOf e = 2) (o0 : f0.offset = 0) (o1 : f1.offset = 1) (c0 : P.cellsOf f0.type = 1) (c1 : P.cellsOf f1.type = 1) (hs : P.underlying f0.type = some .string)
    (hop : ∀ n u y, DataW.trod enc P w base spare held n f1.type [u] = some y → ∃ (b : Option Addr) (l c : Nat) (z : α), u = .slice b l c ∧ Sl u z w ∧ Pr z)
    (h : DataW.trod enc P w base spare held fuel t [v] = some x) :
    ∃ L : List (List UInt8 × α), XSl Sl v L w ∧ L.length ≤ maxLen ∧ ∀ t ∈ L, t.1.length ≤ maxLen ∧ Pr t.2 := by
  rcases open_slice_pairs ht he ce o0 o1 c0 c1 h with ⟨h0, _⟩ | ⟨a, len, cap, m, n, V0, V1, D0, D1, P0, P1, h0, hb, hl, hm, hmm, hx, hi⟩
  · injection h0 with h0
    exact ⟨[], Or.inl ⟨_, _, h0, rfl⟩, Nat.zero_le _, fun t h => by cases h⟩
  · injection h0 with h0
    have hlm : len ≤ m := by rw [hmm]; split <;> omega
    obtain ⟨L, hL, hz, hc⟩ := xs_of (Sl := Sl) (Pr := Pr) w a len (fun i hil => by
      obtain ⟨g0, g1, t0, t1⟩ := hi i (by omega)
      obtain ⟨s, e0, _, ws⟩ := DataW.trod_string hs t0
      obtain ⟨b, l, c, z, e1, hz, hp⟩ := hop _ _ _ t1
      injection e0 with e0
      rw [e0] at g0
      rw [e1] at g1 hz
      exact ⟨s, b, l, c, z, g0, g1, hz, ws, hp⟩)
    refine ⟨L, ?_, by omega, hz⟩
    by_cases h0l : L = []
    · rw [h0l] at hL
      refine Or.inl ⟨some a, cap, ?_, h0l⟩
      rw [h0, ← hL]; rfl
    · have hpos : 0 < L.length := List.length_pos_iff.2 h0l
      obtain ⟨ab, ao, asp⟩ := a
      have hspot : asp = none := by simpa [Addr.add] using World.cell?_spot (hc 0 hpos).1
      subst hspot
      have hadd : ∀ j, (⟨ab, ao, none⟩ : Addr).add j = ⟨ab, ao + j, none⟩ := by
        intro j
        unfold Addr.add
        split
        · rename_i hz; rw [hz]; rfl
        · rfl
      refine Or.inr ⟨ab, ao, cap, by rw [h0, hL], ?_, hpos⟩
      intro k hk
      obtain ⟨q0, b, l, c, q1, q2⟩ := hc k hk
      rw [hadd] at q0 q1
      exact ⟨q0, b, l, c, q1, q2⟩
theorem slice_form {P : Program} {t e : TypeId} {fuel : Nat} {u : Value} {x : DataW H × List MemPlace} (ht : P.underlying t = some (.slice e)) (h : DataW.trod enc P w base spare held fuel t [u] = some x) : ∃ (b : Option Addr) (l c : Nat), u = .slice b l c := by
  rcases open_slice ht h with ⟨h0, _⟩ | ⟨a, len, cap, m, n, D, Pl, h0, _⟩
  · injection h0 with h0
    exact ⟨_, _, _, h0⟩
  · injection h0 with h0
    exact ⟨_, _, _, h0⟩
/-- Cells' bounds. -/
def CelB (M : List Cel) : Prop := M.length ≤ maxLen ∧ ∀ t ∈ M, t.name.length ≤ maxLen ∧ t.text.length ≤ maxLen ∧ R t.num ∧ R t.many
def ArgB (A : List (List UInt8 × List Cel)) : Prop := A.length ≤ maxLen ∧ ∀ t ∈ A, t.1.length ≤ maxLen ∧ CelB t.2
theorem args_trod {fuel : Nat} {v : Value} {x : DataW H × List MemPlace} (h : DataW.trod enc Tryz.prog w base spare held fuel 50 [v] = some x) :
    ∃ L : List (List UInt8 × List Cel), ArgSl v L w ∧ ArgB L := by
  obtain ⟨L, h1, h2, h3⟩ := open_xs (Sl := CelSl) (Pr := CelB) Tryz.underlying50 Tryz.underlying86 (by kernel_rfl) rfl rfl (by kernel_rfl) (by kernel_rfl) Tryz.underlying9 (fun n u y hu => by
    obtain ⟨b, l, c, e⟩ := slice_form Tryz.underlying45 hu
    subst e
    obtain ⟨M, m1, m2⟩ := open_cells (v := .slice b l c) (d := y.1) (p := y.2) ⟨b, l, c, rfl⟩ ⟨n, hu⟩
    exact ⟨b, l, c, M, rfl, m1, m2⟩) h
  exact ⟨L, h1, h2, h3⟩
end
end Go.Proofs.YtbejhdhhkpllfaaGreatDoor
namespace Go.Proofs.YtbejhdhhkpllfaaGreatDoor
open Go.RowKit Go.WideShapes Go.ChangeShapes Go.Joins Go.Deep
/-- Bytes in a row, read. -/
def BRow (b off : Nat) (L : List UInt8) (W : World) : Prop := ∀ (i : Nat) (h : i < L.length), W.cell? ⟨b, off + i, none⟩ = some (.int .u8 (L[i].toNat : Int))
def BSl (v : Value) (L : List UInt8) (W : World) : Prop := (∃ a cap, v = .slice a 0 cap ∧ L = []) ∨ ∃ b off cap, v = .slice (some ⟨b, off, none⟩) L.length cap ∧ BRow b off L W ∧ 0 < L.length
theorem BRow.below {b off : Nat} {L : List UInt8} {w w' : World} (h : BRow b off L w) (hb : Below w.heap.size w w') : BRow b off L w' := fun i hi => (hb.cell (p := ⟨b, _, none⟩) (lt_of_cell (h i hi))).trans (h i hi)
theorem addr_addB (b off j : Nat) : (⟨b, off, none⟩ : Addr).add j = ⟨b, off + j, none⟩ := by
  unfold Addr.add
  split
  · rename_i hz; rw [hz]; rfl
  · rfl
theorem BSl.below {v : Value} {L : List UInt8} {w w' : World} (h : BSl v L w) (hb : Below w.heap.size w w') : BSl v L w' := by
  rcases h with h | ⟨b, off, cap, h1, h2, h3⟩
  · exact Or.inl h
  · exact Or.inr ⟨b, off, cap, h1, h2.below hb, h3⟩
theorem BSl.convert {v : Value} {L : List UInt8} {w : World} (h : BSl v L w) : (convert 42 9 v).run Tryz.prog w = .ok (.string ⟨L.toArray⟩) w := by
  rcases h with ⟨a, cap, rfl, rfl⟩ | ⟨b, off, cap, rfl, h2, h3⟩
  · cases a with
    | none => exact Lib.run_convert_nil_bytes w 42 9 5 cap Tryz.underlying42 Tryz.underlying5 Tryz.underlying9
    | some a => exact Go.run_convert_bytes_back w 42 9 5 a cap [] Tryz.underlying42 Tryz.underlying5 Tryz.underlying9 (fun j hj => absurd hj (by simp))
  · exact Go.run_convert_bytes_back w 42 9 5 _ cap L Tryz.underlying42 Tryz.underlying5 Tryz.underlying9 (fun j hj => by rw [addr_addB]; exact h2 j hj)
theorem BSl.form {v : Value} {L : List UInt8} {w : World} (h : BSl v L w) : ∃ a c, v = .slice a L.length c := by
  rcases h with ⟨a, cap, rfl, rfl⟩ | ⟨b, off, cap, rfl, h2, h3⟩
  · exact ⟨_, _, rfl⟩
  · exact ⟨_, _, rfl⟩
section
variable {H : Type} {enc : TypeId × Value → H} {w : World} {base : Nat} {spare : Nat → Bool} {held : Bool}
theorem bytes_of (w : World) (a : Addr) : ∀ n : Nat, (∀ i, i < n → ∃ k : UInt8, w.cell? (a.add i) = some (.int .u8 (k.toNat : Int))) →
    ∃ L : List UInt8, L.length = n ∧ ∀ (i : Nat) (h : i < L.length), w.cell? (a.add i) = some (.int .u8 (L[i].toNat : Int))
  | 0, _ => ⟨[], rfl, (fun i h => absurd h (by simp))⟩
  | n + 1, h => by
    obtain ⟨L, hl, hc⟩ := bytes_of w a n fun i hi => h i (by omega)
    obtain ⟨k, c0⟩ := h n (by omega)
    refine ⟨L ++ [k], by simp [hl], ?_⟩
    intro i hi
    by_cases hin : i < L.length
    · rw [List.getElem_append_left hin]
      exact hc i hin
    · have hin' : i = L.length := by
        rw [List.length_append] at hi
        simp at hi
        omega
      subst hin'
      rw [List.getElem_append_right (Nat.le_refl _)]
      simp only [Nat.sub_self, List.getElem_cons_zero]
      rw [hl]
      exact c0
theorem bytes_trod {fuel : Nat} {v : Value} {x : DataW H × List MemPlace} (h : DataW.trod enc Tryz.prog w base spare held fuel 42 [v] = some x) :
    ∃ L : List UInt8, BSl v L w ∧ L.length ≤ maxLen := by
  rcases open_slice1 Tryz.underlying42 (by kernel_rfl) h with ⟨h0, _⟩ | ⟨a, len, cap, m, n, V, D, Pl, h0, hb, hl, hm, hmm, hx, hi⟩
  · injection h0 with h0
    exact ⟨[], Or.inl ⟨_, _, h0, rfl⟩, Nat.zero_le _⟩
  · injection h0 with h0
    have hlm : len ≤ m := by rw [hmm]; split <;> omega
    obtain ⟨L, hL, hc⟩ := bytes_of w a len (fun i hil => by
      obtain ⟨g0, t0⟩ := hi i (by omega)
      obtain ⟨k, e0, _, wk⟩ := DataW.trod_int Tryz.underlying5 t0
      injection e0 with e0
      obtain ⟨k1, k2⟩ := Go.bounds_u8 wk
      have hk : ((UInt8.ofNat k.toNat).toNat : Int) = k := by
        rw [UInt8.toNat_ofNat']
        omega
      exact ⟨UInt8.ofNat k.toNat, by rw [g0, e0, hk]⟩)
    refine ⟨L, ?_, by omega⟩
    by_cases h0l : L = []
    · rw [h0l] at hL
      refine Or.inl ⟨some a, cap, ?_, h0l⟩
      rw [h0, ← hL]; rfl
    · have hpos : 0 < L.length := List.length_pos_iff.2 h0l
      obtain ⟨ab, ao, asp⟩ := a
      have hspot : asp = none := by simpa [Addr.add] using World.cell?_spot (hc 0 hpos)
      subst hspot
      exact Or.inr ⟨ab, ao, cap, by rw [h0, hL], fun i hi => by rw [← addr_addB]; exact hc i hi, hpos⟩
theorem cells_ref : Tryz.prog.cellsOf 44 = 2 := by kernel_rfl
end
end Go.Proofs.YtbejhdhhkpllfaaGreatDoor
namespace Go.Proofs.YtbejhdhhkpllfaaGreatDoor
open Go.RowKit
theorem OwnT.grow {B0 B : Nat} {v : Value} {L : List Tok} {W W' : World} (h : OwnT B v L W) (hg : W.grownBy W' v.ownBlock) (hB : B0 ≤ B) (hz : B0 ≤ W.heap.size) : Below B0 W W' := (Below.refl B0 W).grown hg hz (fun k hk => Nat.le_trans hB (h.lt k hk))
end Go.Proofs.YtbejhdhhkpllfaaGreatDoor
namespace Go.Proofs.YtbejhdhhkpllfaaGreatDoor
open Go.RowKit
set_option maxRecDepth 100000 in
set_option maxHeartbeats 1000000 in
theorem front_big (s ms : ByteArray) (hs : s.size ≤ 9223372036854775807) (w : World) :
    Calls Tryz.prog 35 #[.string s, .string ms] w fun e w' => e = .returned (.string ⟨(fr ms.data.toList s.data.toList).toArray⟩) ∧ w = w' := by
  obtain ⟨R, hR⟩ : ∃ R, (fr ms.data.toList s.data.toList).length = R := ⟨_, rfl⟩
  have ht := fr_take ms.data.toList s.data.toList
  rw [hR] at ht
  have HT := Lib.hid ht
  have HR : Hid (0 + (fr ms.data.toList (s.data.toList.drop 0)).length = R) := Lib.hid (by rw [List.drop_zero, Nat.zero_add]; exact hR)
  rw [← ht]
  clear hR ht
  go_enter Tryz.func35, Tryz.ntmps35
  go_wp2_with fail
  go_loop [8] (fun i => ∃ k : Nat, k ≤ s.size ∧ i = .int .i64 k ∧ Hid (k + (fr ms.data.toList (s.data.toList.drop k)).length = R)) (fun i => s.size - (intOf i).toNat)
  case atStart => exact ⟨0, Nat.zero_le _, rfl, HR⟩
  case round =>
    obtain ⟨k, hk, rfl, HK⟩ := hrel
    by_cases hlt : k < s.size
    · have hd := drop_at s k hlt
      have H1 : ∀ w, Calls Tryz.prog 34 #[.string ms, .int .u8 (s[k].toNat : Int)] w fun e w' => e = .returned (.int .i64 (Lib.indexByte ms.data.toList s[k])) ∧ w = w' := fun w => by
        have := Tryz.strings_IndexByte ms (s[k].toNat : Int) w
        rw [show ((s[k].toNat : Int)).toNat.toUInt8 = s[k] by simp] at this
        exact this.mono fun e w' ⟨h1, h2⟩ => ⟨h1, h2.symm⟩
      have hf : fr ms.data.toList (s.data.toList.drop k) = if ms.data.toList.contains s[k] then s[k] :: fr ms.data.toList (s.data.toList.drop (k + 1)) else [] := by
        rw [hd]; unfold fr; rw [List.takeWhile_cons]
      rcases ib_cases s[k] ms.data.toList with ⟨g1, n, g2⟩ | ⟨g1, g2⟩
      · rw [g1] at hf
        rw [g2] at H1
        have HK2 : Hid (k + 1 + (fr ms.data.toList (s.data.toList.drop (k + 1))).length = R) := Lib.hid (by have := HK.out; rw [hf] at this; simp at this; omega)
        have HI := Lib.hid H1
        have hn : ¬ (n : Int) < 0 := by omega
        clear hf H1 g1 g2 hd
        go_wp2_with fail
        refine (HI.out _).mono ?_; rintro e w1 ⟨rfl, rfl⟩
        go_wp2_with fail
        go_round
        case rel => exact ⟨k + 1, by omega, by go_num, HK2⟩
        case measure => simp [intOf]; omega
      · rw [g1] at hf
        rw [g2] at H1
        have HK2 : Hid (k = R) := Lib.hid (by have := HK.out; rw [hf] at this; simpa using this)
        have HI := Lib.hid H1
        have b1 : (k : Int) ≤ s.size := by omega
        have b2 : (0 : Int) ≤ k := by omega
        have HX : Hid (s.extract 0 k = ⟨(s.data.toList.take R).toArray⟩) := Lib.hid (by
          rw [← HK2.out]
          apply ByteArray.ext
          apply Array.ext'
          rw [ByteArray.data_extract, Array.toList_extract, List.extract_eq_take_drop]
          simp)
        clear hf H1 g1 g2 hd
        go_wp2_with fail
        refine (HI.out _).mono ?_; rintro e w1 ⟨rfl, rfl⟩
        go_wp2_with fail
        go_ret
        exact ⟨congrArg (fun z : ByteArray => Ending.returned (Value.string z)) HX.out, rfl⟩
    · have HX : Hid (s = ⟨(s.data.toList.take R).toArray⟩) := Lib.hid (by
        have := HK.out
        rw [List.drop_of_length_le (by rw [Array.length_toList]; exact Nat.le_of_not_lt hlt)] at this
        have hRs : s.size ≤ R := by simp [fr] at this; omega
        rw [List.take_of_length_le (by rw [Array.length_toList]; exact hRs)])
      go_wp2_with fail
      go_ret
      exact ⟨congrArg (fun z : ByteArray => Ending.returned (Value.string z)) HX.out, rfl⟩
set_option maxRecDepth 100000 in
set_option maxHeartbeats 1000000 in
theorem lname_big (s : ByteArray) (hs : s.size ≤ 9223372036854775807) (w : World) :
    Calls Tryz.prog 11 #[.string s] w fun e w' => e = .returned (.bool (nameB s.data.toList)) ∧ w = w' := by
  rcases empty_z s with ⟨h0, h1, h2, h3⟩ | ⟨h0, h1, h2, h3⟩
  · have hr : nameB s.data.toList = (!isDig s[0] && (fr nameMs s.data.toList == s.data.toList)) := by
      rw [fr_all, show (nameMs.contains ·) = nameC from funext name_ms]
      have := head_z s h0
      rw [this]; rfl
    have H1 : ∀ w, Calls Tryz.prog 34 #[.string ⟨#[48, 49, 50, 51, 52, 53, 54, 55, 56, 57]⟩, .int .u8 (s[0].toNat : Int)] w fun e w' => e = .returned (.int .i64 (if isDig s[0] then ((s[0].toNat - 48 : Nat) : Int) else -1)) ∧ w = w' := fun w => by
      have := Tryz.strings_IndexByte ⟨#[48, 49, 50, 51, 52, 53, 54, 55, 56, 57]⟩ (s[0].toNat : Int) w
      rw [show ((s[0].toNat : Int)).toNat.toUInt8 = s[0] by simp, ib_dig] at this
      exact this.mono fun e w' ⟨h1, h2⟩ => ⟨h1, h2.symm⟩
    have H2 := Lib.hid (fun w => front_big s ⟨nameMs.toArray⟩ hs w)
    obtain ⟨r, hr2⟩ : ∃ r, nameB s.data.toList = r := ⟨_, rfl⟩
    rw [hr2]
    rw [hr2] at hr
    obtain ⟨F, hF⟩ : ∃ F : ByteArray, (⟨(fr (⟨nameMs.toArray⟩ : ByteArray).data.toList s.data.toList).toArray⟩ : ByteArray) = F := ⟨_, rfl⟩
    rw [hF] at H2
    have hc : (F.toList == s.toList) = (fr nameMs s.data.toList == s.data.toList) := by rw [← hF, ByteArray.toList_eq, ByteArray.toList_eq]
    rw [← hc] at hr
    have HR := Lib.hid hr
    unfold nameMs at H2
    clear hr hr2 hF hc
    cases hd : isDig s[0] with
    | true =>
      rw [hd] at H1 HR
      simp only [if_true] at H1
      have HI := Lib.hid H1
      have HF : Hid (false = r) := Lib.hid (by rw [HR.out]; rfl)
      clear H1 HR hd
      generalize s[0].toNat - 48 = n at *
      have hn : ¬ (n : Int) < 0 := by omega
      go_enter Tryz.func11, Tryz.ntmps11
      go_wp2_with fail
      refine (HI.out _).mono ?_; rintro e w1 ⟨rfl, rfl⟩
      go_wp2_with fail
      go_ret
      exact ⟨ret_b HF.out, rfl⟩
    | false =>
      rw [hd] at H1 HR
      simp only [Bool.false_eq_true, if_false] at H1
      have HI := Lib.hid H1
      have HF : Hid ((F.toList == s.toList) = r) := Lib.hid (by rw [HR.out]; rfl)
      clear H1 HR hd
      go_enter Tryz.func11, Tryz.ntmps11
      go_wp2_with fail
      refine (HI.out _).mono ?_; rintro e w1 ⟨rfl, rfl⟩
      go_wp2_with fail
      refine (H2.out _).mono ?_; rintro e w1 ⟨rfl, rfl⟩
      go_wp2_with fail
      go_ret
      exact ⟨ret_b HF.out, rfl⟩
  · have hr : nameB s.data.toList = false := by rw [h3]; rfl
    rw [hr]
    clear h0 h3 hr
    go_enter Tryz.func11, Tryz.ntmps11
    go_wp2_with fail
    go_ret
    exact ⟨rfl, rfl⟩
set_option maxRecDepth 100000 in
set_option maxHeartbeats 4000000 in
theorem rname_big (s : ByteArray) (hs : s.size ≤ 9223372036854775807) (w : World) :
    Calls Tryz.prog 44 #[.string s] w fun e w' => e = .returned (.bool (nameB s.data.toList)) ∧ w = w' := by
  obtain ⟨r, hr⟩ : ∃ r, nameB s.data.toList = r := ⟨_, rfl⟩
  have HR : Hid (nameAt s.data.toList 0 = r) := Lib.hid hr
  rw [hr]
  clear hr
  go_enter Tryz.func44, Tryz.ntmps44
  go_wp2_with fail
  go_loop [3] (fun i => ∃ k : Nat, k ≤ s.size ∧ i = .int .i64 k ∧ Hid (nameAt s.data.toList k = r)) (fun i => s.size - (intOf i).toNat)
  case atStart => exact ⟨0, Nat.zero_le _, rfl, HR⟩
  case round =>
    obtain ⟨k, hk, rfl, HK⟩ := hrel
    by_cases hlt : k < s.size
    · have hst := nameAt_step s k hlt
      rw [HK.out] at hst
      have hcls := nm_cls s[k]
      have hc8 : s[k].toNat < 256 := UInt8.toNat_lt _
      clear HK
      rcases hcls with ⟨a1, l1, d1⟩ | ⟨a1, a2, l1, d1⟩ | ⟨a1, a2, l1, d1⟩ | ⟨a1, a2, l1, d1⟩ | ⟨a1, a2, a3, l1, d1⟩ | ⟨a1, l1, d1⟩ | ⟨a1, a2, l1, d1⟩ | ⟨a1, l1, d1⟩
      all_goals rw [l1, d1] at hst; clear l1 d1
      · have HF : Hid (false = r) := Lib.hid (by rw [hst]; simp)
        have b1 : ((s[k].toNat : Int) == 95) = false := by rw [beq_eq_false_iff_ne]; omega
        have b2 : ¬ (97 : Int) ≤ s[k].toNat := by omega
        have b3 : ¬ (65 : Int) ≤ s[k].toNat := by omega
        have b4 : ¬ (48 : Int) ≤ s[k].toNat := by omega
        clear hst
        go_wp2_with fail
        go_ret
        exact ⟨ret_b HF.out, rfl⟩
      · have b1 : ((s[k].toNat : Int) == 95) = false := by rw [beq_eq_false_iff_ne]; omega
        have b2 : ¬ (97 : Int) ≤ s[k].toNat := by omega
        have b3 : ¬ (65 : Int) ≤ s[k].toNat := by omega
        by_cases hk0 : k = 0
        · have HF : Hid (false = r) := Lib.hid (by rw [hst, decide_eq_true hk0]; simp)
          subst hk0
          clear hst
          go_wp2_with fail
          go_ret
          exact ⟨ret_b HF.out, rfl⟩
        · have HK2 : Hid (nameAt s.data.toList (k + 1) = r) := Lib.hid (by rw [hst, decide_eq_false hk0]; simp)
          have hkb : ((k : Int) == 0) = false := by rw [beq_eq_false_iff_ne]; omega
          clear hst hk0
          go_wp2_with fail
          go_round
          case rel => exact ⟨k + 1, by omega, by go_num, HK2⟩
          case measure => simp [intOf]; omega
      · have HF : Hid (false = r) := Lib.hid (by rw [hst]; simp)
        have b1 : ((s[k].toNat : Int) == 95) = false := by rw [beq_eq_false_iff_ne]; omega
        have b2 : ¬ (97 : Int) ≤ s[k].toNat := by omega
        have b3 : ¬ (65 : Int) ≤ s[k].toNat := by omega
        have b4 : ¬ (s[k].toNat : Int) ≤ 57 := by omega
        clear hst
        go_wp2_with fail
        go_ret
        exact ⟨ret_b HF.out, rfl⟩
      · have HK2 : Hid (nameAt s.data.toList (k + 1) = r) := Lib.hid (by rw [hst]; simp)
        have b2 : ¬ (97 : Int) ≤ s[k].toNat := by omega
        have b3 : ¬ (s[k].toNat : Int) ≤ 57 := by omega
        clear hst
        go_wp2_with fail
        go_round
        case rel => exact ⟨k + 1, by omega, by go_num, HK2⟩
        case measure => simp [intOf]; omega
      · have HF : Hid (false = r) := Lib.hid (by rw [hst]; simp)
        have b1 : ((s[k].toNat : Int) == 95) = false := by rw [beq_eq_false_iff_ne]; omega
        have b2 : ¬ (97 : Int) ≤ s[k].toNat := by omega
        have b3 : ¬ (s[k].toNat : Int) ≤ 90 := by omega
        have b4 : ¬ (s[k].toNat : Int) ≤ 57 := by omega
        clear hst a3
        go_wp2_with fail
        go_ret
        exact ⟨ret_b HF.out, rfl⟩
      · have HK2 : Hid (nameAt s.data.toList (k + 1) = r) := Lib.hid (by rw [hst]; simp)
        have b1 : ((s[k].toNat : Int) == 95) = true := by rw [beq_iff_eq]; omega
        have b2 : ¬ (97 : Int) ≤ s[k].toNat := by omega
        have b3 : ¬ (s[k].toNat : Int) ≤ 90 := by omega
        have b4 : ¬ (s[k].toNat : Int) ≤ 57 := by omega
        clear hst a1
        go_wp2_with fail
        go_round
        case rel => exact ⟨k + 1, by omega, by go_num, HK2⟩
        case measure => simp [intOf]; omega
      · have HK2 : Hid (nameAt s.data.toList (k + 1) = r) := Lib.hid (by rw [hst]; simp)
        have b3 : ¬ (s[k].toNat : Int) ≤ 57 := by omega
        clear hst
        go_wp2_with fail
        go_round
        case rel => exact ⟨k + 1, by omega, by go_num, HK2⟩
        case measure => simp [intOf]; omega
      · have HF : Hid (false = r) := Lib.hid (by rw [hst]; simp)
        have b1 : ((s[k].toNat : Int) == 95) = false := by rw [beq_eq_false_iff_ne]; omega
        have b2 : ¬ (s[k].toNat : Int) ≤ 122 := by omega
        have b3 : ¬ (s[k].toNat : Int) ≤ 90 := by omega
        have b4 : ¬ (s[k].toNat : Int) ≤ 57 := by omega
        clear hst
        go_wp2_with fail
        go_ret
        exact ⟨ret_b HF.out, rfl⟩
    · have HF : Hid (decide (0 < s.size) = r) := Lib.hid (by
        have := HK.out
        rw [show k = s.size by omega, nameAt_end] at this
        exact this)
      go_wp2_with fail
      go_ret
      refine ⟨ret_b (Eq.trans ?_ HF.out), rfl⟩
      simp
theorem calls_below {f : Nat} {args : Array Value} {w : World} {b : Bool} (h : Calls Tryz.prog f args w fun e w' => e = .returned (.bool b) ∧ w = w') : Calls Tryz.prog f args w fun e w' => e = .returned (.bool b) ∧ Below w.heap.size w w' :=
  h.mono (by rintro e w' ⟨h1, rfl⟩; exact ⟨h1, Below.refl _ _⟩)
def isV (c : Cel) : Bool := c.kind == 5
end Go.Proofs.YtbejhdhhkpllfaaGreatDoor
namespace Go.Proofs.YtbejhdhhkpllfaaGreatDoor
open Go.RowKit Go.Shelf
attribute [local go_sem] Oper.semAt_some
def wo (x : UInt8) : List Tok := if x = 2 then [mkT [91]] else []
theorem wo_bits (bs : List Bool) : (bs.map wz).flatMap wo = bs.flatMap wop := by
  induction bs with
  | nil => rfl
  | cons b r ih =>
    rw [List.map_cons, List.flatMap_cons, List.flatMap_cons, ih]
    cases b <;> rfl
theorem postM_ret {F : Fence} {n : Nat} {P : Program} {fn : Func} {R : Ending → World → Prop} {a : Act} {w : World} {v : Value} (hr : (results fn a.tmps).run P w = .ok v w) (hd : a.defers = []) (h : R (.returned v) w) : bodyPostM F n P fn R .ret a w := by
  show LeavesInM F n P fn a.tmps R a.defers .returning w
  rw [hd]
  exact ⟨v, hr, h⟩
theorem OwnT.kept {B : Nat} {v : Value} {L : List Tok} {W W' : World} {row : Option Nat} (h : OwnT B v L W) (hg : W.grownBy W' row) (hr : ∀ r, row = some r → ∃ o : Obj, W.heap[r]? = some o ∧ o.isCells = false) : OwnT B v L W' := by
  obtain ⟨h1, h2⟩ := h
  refine ⟨h1, ?_⟩
  rcases h2 with h2 | ⟨g, cap, cur, hv, hB, hg', hrest⟩
  · exact Or.inl h2
  · exact Or.inr ⟨g, cap, cur, hv, hB, (grownBy_keeps_cells hg hr hg' rfl).trans hg', hrest⟩
theorem PutS.kept {p : Nat} {v : Value} {L : List Tok} {W W' : World} {row : Option Nat} (h : PutS p v L W) (hg : W.grownBy W' row) (hr : ∀ r, row = some r → ∃ o : Obj, W.heap[r]? = some o ∧ o.isCells = false) : PutS p v L W' :=
  ⟨(grownBy_keeps_cells hg hr h.1 rfl).trans h.1, h.2.kept hg hr⟩
/-- A range over a function of two loop variables, whose body goes on. -/
theorem rangeF2 {P : Program} {g : Operand} {p1 p2 ps : Tmp} {assign body : Code} {Q : Exit → Act → World → Prop} {a : Act} {w : World} {gf : Nat} {lb : Array Value} (hg : a.eval g = .func (.func gf) #[] lb) (eg : ∀ args w, (callFunc gf args).run P w = .ok (.enter gf args) w)
    {p : Nat} {S Sp : List (Nat × Bool) → Prop} {N : Nat} {w0 : World} (hseq : SeqStopsK Fence.wide (3 - 1) P gf lb (fun x : Nat × Bool => #[Value.int .i64 (x.1 : Int), Value.int .u8 ((wz x.2).toNat : Int)]) (KC p) S Sp N w0) (hb0 : Below w0.heap.size w0 w)
    (I : List (Nat × Bool) → World → Prop) (hI : OwnFrom w.heap.size I) (h0 : I [] w)
    (hassign : ∀ (l : Nat) (x : Nat × Bool) (W : World) (K : Act → World → Prop), K { tmps := ((a.tmps.setIfInBounds p1 (Value.int .i64 (x.1 : Int))).setIfInBounds p2 (Value.int .u8 ((wz x.2).toNat : Int))).setIfInBounds ps (Value.int .u8 ((wz x.2).toNat : Int)), defers := [] } W →
      assign.wpIn (Fence.wide.inRound l) (3 - 1 - 1) P (Exit.then K (fun _ _ _ => False)) { tmps := (a.tmps.setIfInBounds p1 (Value.int .i64 (x.1 : Int))).setIfInBounds p2 (Value.int .u8 ((wz x.2).toNat : Int)), defers := [] } W)
    (hbody : ∀ (l : Nat) (pre : List (Nat × Bool)) (x : Nat × Bool) (W : World), I pre W → pre.length < N → body.wpIn (Fence.wide.inRound l) (3 - 1 - 1) P (ownPostG w.heap.size (KC p) I (fun _ _ _ => False) (pre ++ [x]) W) { tmps := ((a.tmps.setIfInBounds p1 (Value.int .i64 (x.1 : Int))).setIfInBounds p2 (Value.int .u8 ((wz x.2).toNat : Int))).setIfInBounds ps (Value.int .u8 ((wz x.2).toNat : Int)), defers := [] } W)
    (hdone : ∀ (D : Nat) (xs : List (Nat × Bool)) (W : World), w.heap.size ≤ D → S xs → I xs W → W.heap[D]? = some (.deferred (some [])) → Q .normal { a with defers := { target := .collected D, args := #[] } :: a.defers } W) :
    (Code.rangeFunc g #[p1, p2] assign body).wp P Q a w := by
  refine wpIn_wide.1 (wpIn_rangeFunc_ownG (F := Fence.wide) (n := 3) rfl (by decide) hg trivial eg hseq (fun h k => KC.trans h k) (fun W l o o' _ h ho _ => KC.book W l o o' h ho) hb0 (fun _ => rfl) I (fun _ _ _ => False) hI (fun _ _ _ _ _ hs _ _ => hs) h0
    (fun x => { tmps := ((a.tmps.setIfInBounds p1 (Value.int .i64 (x.1 : Int))).setIfInBounds p2 (Value.int .u8 ((wz x.2).toNat : Int))).setIfInBounds ps (Value.int .u8 ((wz x.2).toNat : Int)), defers := [] }) ?_ ?_ ?_ ?_)
  · intro l x W K hK
    simpa using hassign l x W K hK
  · intro l pre x W hi hp
    exact hbody l pre x W hi hp
  · exact hdone
  · intro D c pre W _ _ h _
    exact h.elim
theorem typB_step {lst x : UInt8} {r : List UInt8} : typB lst (x :: r) = ((x == 1 || x == 2) && !(x == 1 && lst == 1) && typB x r) := rfl
set_option maxRecDepth 100000 in
set_option maxHeartbeats 8000000 in
theorem tt_go (nm : ByteArray) (hnm : nameB nm.data.toList = true) (hnz : nm.size ≤ 9223372036854775807) (ws : List UInt8) (hl : ws.length ≤ 8) (a : Option Addr) (c : Nat) (w : World) (hu : BSl (.slice a ws.length c) ws w) :
    Calls Tryz.prog 39 #[.agg #[.string nm, .slice a ws.length c]] w fun e w' => (∃ v, e = .returned (.tuple #[v, .int .i64 (ttE nm.data.toList ws)]) ∧ OwnT w.heap.size v (ttL nm.data.toList ws) w') ∧ Below w.heap.size w w' := by
  obtain ⟨ZE, hZE⟩ : ∃ ZE, ttE nm.data.toList ws = ZE := ⟨_, rfl⟩
  obtain ⟨ZL, hZL⟩ : ∃ ZL, ttL nm.data.toList ws = ZL := ⟨_, rfl⟩
  obtain ⟨Z, hZ⟩ : ∃ Z, typB 2 ws = Z := ⟨_, rfl⟩
  have htt : ttB nm.data.toList ws = Z := by unfold ttB; rw [hnm, hZ, decide_eq_true hl]; simp
  rw [hZE, hZL]
  have HQ : Hid (Z = true → ZE = 0 ∧ typK nm.data.toList ws = ZL) := Lib.hid fun h => by
    unfold ttE at hZE; unfold ttL at hZL; rw [htt, h] at hZE hZL; exact ⟨hZE.symm, hZL⟩
  have HNO : Hid (Z = false → ZE = 8 ∧ ZL = []) := Lib.hid fun h => by
    unfold ttE at hZE; unfold ttL at hZL; rw [htt, h] at hZE hZL; exact ⟨hZE.symm, hZL.symm⟩
  have HRW : Hid (0 < ws.length → ∃ b off, a = some ⟨b, off, none⟩ ∧ b < w.heap.size ∧ BRow b off ws w) := Lib.hid fun h => by
    rcases hu with ⟨a2, c2, e, rfl⟩ | ⟨b, off, cap, e, h2, h3⟩
    · simp at h
    · injection e with e1 e2 e3
      exact ⟨b, off, e1, lt_of_cell (h2 0 h3), h2⟩
  have HNM : Hid (∀ W, Calls Tryz.prog 11 #[.string nm] W fun e w' => e = .returned (.bool true) ∧ W = w') := Lib.hid fun W => by
    have := lname_big nm hnz W
    rw [hnm] at this
    exact this
  have HT0 : Hid (typB 2 (ws.drop 0) = Z) := Lib.hid hZ
  have HO0 : Hid (([] : List Tok) = (ws.take 0).flatMap wo) := Lib.hid rfl
  obtain ⟨n, hn⟩ : ∃ n, ws.length = n := ⟨_, rfl⟩
  have HN := Lib.hid hn
  rw [hn]
  rw [hn] at hl
  have hl8 : ¬ (8 : Int) < (n : Int) := by omega
  clear hZE hZL hZ htt hu hnm hnz hn
  refine (callsIn_wide (n := 3)).1 ?_
  refine callsIn_of_wp_marks Tryz.func39 rfl trivial ?_ rfl
  simp only [Tryz.ntmps39, List.size_toArray, List.length_cons, List.length_nil, Nat.reduceAdd, Nat.reduceSub, Array.replicate_succ, Array.replicate_zero, List.push_toArray, List.append_toArray, List.nil_append, List.cons_append]
  refine wpIn_wide.2 ?_
  go_upto_region 1 with fail
  obtain ⟨w1, hw1⟩ : ∃ w1, w.alloc (.cells #[.string nm, .slice a n c] 44 (0, 0)) = w1 := ⟨_, rfl⟩
  have hb1 : Below w.heap.size w w1 := by rw [← hw1]; exact (Below.refl _ _).alloc (Nat.le_refl _) _
  have hz1 : w1.heap.size = w.heap.size + 1 := by rw [← hw1]; simp
  have k1 : w1.heap[w.heap.size]? = some (.cells #[.string nm, .slice a n c] 44 (0, 0)) := by rw [← hw1]; exact heap_new _ _ _ rfl
  obtain ⟨d0, d1, _, _⟩ := ref_cells k1
  rw [hw1]
  go_wp2_with fail
  refine (HNM.out w1).mono ?_; rintro e w2 ⟨rfl, rfl⟩
  go_upto_region 4 with fail
  obtain ⟨w2, hw2⟩ : ∃ w2, (w1.alloc (.cells #[.slice none 0 0] 97)).alloc (.cells #[.pointer (some ⟨w.heap.size + 1, 0, none⟩)] 95) = w2 := ⟨_, rfl⟩
  have HB2 : Hid (Below w.heap.size w w2) := Lib.hid (by rw [← hw2]; exact (hb1.alloc (by omega) _).alloc (by simp; omega) _)
  have HP2 : Hid (PutS (w.heap.size + 1) (.slice none 0 0) [] w2) := Lib.hid ⟨by rw [← hw2]; exact heap_old (heap_new _ _ _ (by omega)), OwnT.nil _ _⟩
  have HX2 : Hid (w2.heap[w.heap.size]? = some (.cells #[.string nm, .slice a n c] 44 (0, 0)) ∧ w2.heap[w.heap.size + 1 + 1]? = some (.cells #[.pointer (some ⟨w.heap.size + 1, 0, none⟩)] 95 (0, 0))) := Lib.hid ⟨by rw [← hw2]; exact heap_old (heap_old k1), by rw [← hw2]; exact heap_new _ _ _ (by simp; omega)⟩
  rw [hw2]
  clear hw1 hw2 hb1 hz1 k1 d0 d1
  obtain ⟨d0, d1, _, _⟩ := ref_cells HX2.out.1
  go_wp2_with fail
  go_loopg [5, 25] n (fun gk lv iv wr => ∃ (i : Nat) (lst : UInt8) (li : Int) (L1 : List Tok) (pv : Value), lv = .int .u8 li ∧ iv = .int .i64 (i : Int) ∧ (gk + i ≤ n ∧ n ≤ gk + i) ∧ Hid ((lst.toNat : Int) = li) ∧ Hid (PutS (w.heap.size + 1) pv L1 wr) ∧ Hid (Below w.heap.size w wr) ∧ Hid (wr.heap[w.heap.size]? = some (.cells #[.string nm, .slice a n c] 44 (0, 0)) ∧ wr.heap[w.heap.size + 1 + 1]? = some (.cells #[.pointer (some ⟨w.heap.size + 1, 0, none⟩)] 95 (0, 0))) ∧ Hid (typB lst (ws.drop i) = Z) ∧ Hid (L1 = (ws.take i).flatMap wo))
  case atStart => exact ⟨0, 2, 2, [], _, rfl, by go_num, ⟨by omega, by omega⟩, Lib.hid rfl, HP2, HB2, HX2, HT0, HO0⟩
  case round =>
    clear HP2 HB2 HX2 HO0 d0 d1
    rename World => wr
    obtain ⟨i, lst, li, L1, pv, rfl, rfl, ⟨hj, hj'⟩, HLI, HP, HB, HX, HTB, HL1⟩ := hrel
    have hLL : L1.length ≤ 8 := by
      rw [HL1.out]
      have key : ∀ l : List UInt8, (l.flatMap wo).length ≤ l.length := by
        intro l
        induction l with
        | nil => simp
        | cons x r ih =>
          rw [List.flatMap_cons, List.length_append, List.length_cons]
          have : (wo x).length ≤ 1 := by unfold wo; split <;> simp
          omega
      have := key (ws.take i)
      have h2 : (ws.take i).length ≤ ws.length := by rw [List.length_take]; omega
      have := HN.out
      omega
    by_cases hg0 : gk = 0
    · subst hg0
      have hin : i = n := by omega
      subst hin
      have hlt : ¬ (i : Int) < (i : Int) := by omega
      have hz : Z = true := by
        have := HTB.out
        rw [List.drop_of_length_le (by have := HN.out; omega)] at this
        exact this.symm
      obtain ⟨hZE, hZL⟩ := HQ.out hz
      obtain ⟨bs, hbs⟩ := typB_bits ws 2 (by have := HT0.out; rw [List.drop_zero, hz] at this; exact this)
      have hbl : i = bs.length := by have := HN.out; rw [hbs, List.length_map] at this; exact this.symm
      have HLF : Hid (ZE = 0 ∧ ZL = (L1 ++ [⟨1, nm.data.toList, 0⟩]) ++ bs.reverse.map wmk) := Lib.hid ⟨hZE, by
        rw [← hZL, HL1.out, List.take_of_length_le (by have := HN.out; omega), hbs, typK_bits, wo_bits]
        simp [nmT]⟩
      have HAO : Hid (0 < i → ∃ b off, a = some ⟨b, off, none⟩ ∧ b < w.heap.size ∧ ∀ j, j < i → w.cell? ⟨b, off + j, none⟩ = some (.int .u8 ((wz (bs[j]?.getD false)).toNat : Int))) := Lib.hid fun h => by
        obtain ⟨b, off, h1, h2, h3⟩ := HRW.out (by have := HN.out; omega)
        refine ⟨b, off, h1, h2, fun j hj => ?_⟩
        have hjw : j < ws.length := by have := HN.out; omega
        rw [h3 j hjw]
        have : ws[j] = wz (bs[j]?.getD false) := by
          have hjb : j < bs.length := by omega
          subst hbs
          simp [hjb]
        rw [this]
      have HBL := Lib.hid hbl
      clear hj hj' hz hZE hZL hbs hbl HRW HQ HNO HT0 HTB HL1
      obtain ⟨d0, d1, _, _⟩ := ref_cells HX.out.1
      have c4 : wr.cell? ⟨w.heap.size + 1 + 1, 0, none⟩ = some (.pointer (some ⟨w.heap.size + 1, 0, none⟩)) := by rw [Lib.cell_of_heap HX.out.2]; rfl
      have hzr := HB.out.size
      have hqr := HP.out.lt
      have hb4 : Below wr.heap.size wr (wr.alloc (.cells #[.string nm] 9 (0, 0))) := (Below.refl _ _).alloc (Nat.le_refl _) _
      have HP4 := Lib.hid (HP.out.below hb4)
      have HB4 := Lib.hid (HB.out.trans (hb4.mono hzr))
      have HX4 := Lib.hid (And.intro ((hb4.block _ (heap_lt HX.out.1)).trans HX.out.1) ((hb4.block _ (heap_lt HX.out.2)).trans HX.out.2))
      have hne4 : wr.heap.size ≠ w.heap.size + 1 := by omega
      clear hb4
      go_wp2_with fail
      refine (put_add (w.heap.size + 1) pv L1 1 1 rfl nm _ 1 _ HP4.out (new_cell0 _ _ _) hne4 (by omega)).mono ?_; rintro e w5 ⟨rfl, ⟨pv5, hx1⟩, hx2⟩
      have HP5 : Hid (PutS (w.heap.size + 1) pv5 (L1 ++ [⟨1, nm.data.toList, 0⟩]) w5) := Lib.hid hx1
      have HB5 : Hid (Below w.heap.size w w5) := Lib.hid (HB4.out.trans (hx2.1.mono (by omega)))
      have HX5 := Lib.hid (And.intro (hx2.2 _ _ HX4.out.1 (by omega)) (hx2.2 _ _ HX4.out.2 (by omega)))
      clear hx1 hx2 HP4 HB4 HX4 hne4 d0 d1 c4 hzr hqr HP HB HX
      obtain ⟨d0, d1, _, _⟩ := ref_cells HX5.out.1
      go_wp2_with fail
      refine (backward_c a i c w5).mono ?_; rintro e w6 ⟨rfl, hw6⟩
      have hb6 : Below w5.heap.size w5 w6 := by rw [hw6]; exact (Below.refl _ _).alloc (Nat.le_refl _) _
      have HBS : Hid (w6.cell? ⟨w5.heap.size, 0, none⟩ = some (.slice a i c)) := Lib.hid (by rw [hw6]; exact new_cell0 _ _ _)
      have HB6 : Hid (Below w.heap.size w w6) := Lib.hid (HB5.out.trans (hb6.mono HB5.out.size))
      have HP6 := Lib.hid (HP5.out.below hb6)
      have HX6 := Lib.hid ((hb6.block _ (heap_lt HX5.out.2)).trans HX5.out.2)
      have hqr := HP5.out.lt
      have hzr := HB5.out.size
      have hz56 := hb6.size
      clear hw6 hb6
      go_wp2_with fail
      have hz6 := HB6.out.size
      have hiz : i ≤ 1000000 := by omega
      have hne6 : w5.heap.size ≠ w.heap.size + 1 := by omega
      have hlen5 : (L1 ++ [(Tok.mk 1 nm.data.toList 0)]).length ≤ 9 := by simp; omega
      generalize L1 ++ [(Tok.mk 1 nm.data.toList 0)] = L5 at *
      refine rangeF2 (gf := 72) (lb := #[.pointer (some ⟨w5.heap.size, 0, none⟩)]) (ps := 9) (p := w.heap.size + 1) rfl (enters_of Tryz.func72 (by kernel_rfl) rfl)
        (back_stops Fence.wide (3 - 1) trivial rfl (by decide) w5.heap.size (w.heap.size + 1) a i c bs HBL.out hiz hne6 w6 HBS.out (fun h => by
          obtain ⟨b, off, h1, h2, h3⟩ := HAO.out h
          exact ⟨b, off, h1, by omega, fun j hj => (HB6.out.cell (p := ⟨b, off + j, none⟩) h2).trans (h3 j hj)⟩)) (Below.refl _ _)
        (fun pre W => (∃ v, PutS (w.heap.size + 1) v (L5 ++ pre.map (fun x => wmk x.2)) W) ∧ W.heap[w.heap.size + 1 + 1]? = some (.cells #[.pointer (some ⟨w.heap.size + 1, 0, none⟩)] 95 (0, 0)) ∧ Below w.heap.size w W)
        (fun s A B row hs hg hr => ⟨by obtain ⟨v, hv⟩ := hs.1; exact ⟨v, hv.kept hg (fun r e => (hr r e).2)⟩, (grownBy_keeps_cells hg (fun r e => (hr r e).2) hs.2.1 rfl).trans hs.2.1, (ownFrom_below (β := List (Nat × Bool)) (Nat.le_refl _) hz6) s A B row hs.2.2 hg hr⟩)
        ⟨⟨pv5, by simpa using HP6.out⟩, HX6.out, HB6.out⟩ ?assign ?body ?done
      case assign =>
        intro l x W K hK
        simp only [List.setIfInBounds_toArray, List.set_cons_zero, List.set_cons_succ] at hK ⊢
        gi_wp2
        exact hK
      case body =>
        rintro l pre ⟨q, bb⟩ W ⟨⟨v, hP⟩, hc4, hB⟩ hpl
        have HA : ∀ s : ByteArray, Hid (∀ (X : World) (lb cl : Nat), Below W.heap.size W X → X.cell? ⟨lb, 0, none⟩ = some (.string s) → W.heap.size ≤ lb → Calls Tryz.prog 58 #[.pointer (some ⟨w.heap.size + 1, 0, none⟩), .int .u8 4, .slice (some ⟨lb, 0, none⟩) 1 cl] X fun e w' => e = .returned (.tuple #[]) ∧ (∃ v', PutS (w.heap.size + 1) v' ((L5 ++ pre.map (fun x => wmk x.2)) ++ [⟨4, s.data.toList, 0⟩]) w') ∧ RK (w.heap.size + 1) W w') := fun s => Lib.hid fun X lb cl hX hl hlb => by
          have hq := hP.lt
          refine (put_add (w.heap.size + 1) v _ 4 4 rfl s lb cl X (hP.below hX) hl (by omega) (by rw [List.length_append, List.length_map]; omega)).mono ?_
          rintro e w' ⟨rfl, h1, h2⟩
          exact ⟨rfl, h1, (RK.of_below hX hq).trans h2⟩
        have HF : Hid (∀ w' : World, (∃ v', PutS (w.heap.size + 1) v' ((L5 ++ pre.map (fun x => wmk x.2)) ++ [wmk bb]) w') → RK (w.heap.size + 1) W w' → ownPostG w6.heap.size (KC (w.heap.size + 1)) (fun pre W => (∃ v, PutS (w.heap.size + 1) v (L5 ++ pre.map (fun x => wmk x.2)) W) ∧ W.heap[w.heap.size + 1 + 1]? = some (.cells #[.pointer (some ⟨w.heap.size + 1, 0, none⟩)] 95 (0, 0)) ∧ Below w.heap.size w W) (fun _ _ _ => False) (pre ++ [(q, bb)]) W .normal { tmps := #[], defers := [] } w') := Lib.hid fun w' h1 h2 => by
          refine ⟨⟨h2.1.size, fun k o hk ho hc => h2.2 k o ho (by omega)⟩, KC.of_rk h2, ?_, h2.2 _ _ hc4 (by omega), hB.trans (h2.1.mono (by omega))⟩
          · obtain ⟨v', h⟩ := h1
            exact ⟨v', by simpa using h⟩
        have c4 : W.cell? ⟨w.heap.size + 1 + 1, 0, none⟩ = some (.pointer (some ⟨w.heap.size + 1, 0, none⟩)) := by rw [Lib.cell_of_heap hc4]; rfl
        have hlt4 : w.heap.size + 1 + 1 < W.heap.size := heap_lt hc4
        have c4a : ∀ o, (W.alloc o).cell? ⟨w.heap.size + 1 + 1, 0, none⟩ = some (.pointer (some ⟨w.heap.size + 1, 0, none⟩)) := fun o => by
          rw [World.cell?_alloc_lt _ _ _ (by exact hlt4)]; exact c4
        simp only [List.setIfInBounds_toArray, List.set_cons_zero, List.set_cons_succ]
        have hd : 1 ≤ 3 - 1 - 1 := by decide
        have hmx : Tryz.prog.follows .mixedOrders = true := by kernel_rfl
        cases bb
        · have e1 : ((wz false).toNat : Int) = 1 := rfl
          simp only [e1]
          have HB := HA ⟨#[33]⟩
          have ix := fun w : World => (show (Instr.index 102 (.agg #[.string ⟨#[]⟩, .string ⟨#[33]⟩, .string ⟨#[93]⟩]) (.int .u8 1)).run Tryz.prog w = .ok (.string ⟨#[33]⟩) w by kernel_rfl)
          clear HA hP hc4 hB
          gi_wp2
          gi_region_with_o (refine ⟨trivial, ?_⟩; gi_at_call 58; refine (CallsIn.inRound l (callsIn_wide.2 (HB.out _ _ _ (below_dN 1 ((Below.refl _ _).alloc (Nat.le_refl _) _)) (new_cell0 _ _ _) (Nat.le_refl _)))).mono ?_; rintro e w7 ⟨rfl, h1, h2⟩)
          all_goals gi_wp2
          all_goals exact HF.out _ h1 h2
        · have e1 : ((wz true).toNat : Int) = 2 := rfl
          simp only [e1]
          have HB := HA ⟨#[93]⟩
          have ix := fun w : World => (show (Instr.index 102 (.agg #[.string ⟨#[]⟩, .string ⟨#[33]⟩, .string ⟨#[93]⟩]) (.int .u8 2)).run Tryz.prog w = .ok (.string ⟨#[93]⟩) w by kernel_rfl)
          clear HA hP hc4 hB
          gi_wp2
          gi_region_with_o (refine ⟨trivial, ?_⟩; gi_at_call 58; refine (CallsIn.inRound l (callsIn_wide.2 (HB.out _ _ _ (below_dN 1 ((Below.refl _ _).alloc (Nat.le_refl _) _)) (new_cell0 _ _ _) (Nat.le_refl _)))).mono ?_; rintro e w7 ⟨rfl, h1, h2⟩)
          all_goals gi_wp2
          all_goals exact HF.out _ h1 h2
      case done =>
        rintro D xs W hD rfl ⟨⟨v, hP⟩, hc4, hB⟩ hKD
        obtain ⟨a3, n3, c3, rfl⟩ := hP.2.slf
        have c4 : W.cell? ⟨w.heap.size + 1 + 1, 0, none⟩ = some (.pointer (some ⟨w.heap.size + 1, 0, none⟩)) := by rw [Lib.cell_of_heap hc4]; rfl
        have c5 := hP.cell
        have HPD := Lib.hid hP
        have HBD := Lib.hid hB
        have HBK := Lib.hid (bk_all bs)
        clear hP hB hc4
        go_wp2_with fail
        refine ⟨by simp, .inl ⟨_, _, rfl, run_takeDeferred hKD, ?_⟩⟩
        refine ⟨_, results_tmp2 rfl _ _ _, ⟨.slice a3 n3 c3, by rw [HLF.out.1]; rfl, ?_⟩, ?_⟩
        · rw [HLF.out.2]
          have h := (HPD.out.2.kept (grownBy_putObj' W D (.deferred none)) (fun r e => by cases e; exact ⟨_, hKD, rfl⟩)).lessU (B' := w.heap.size) (by omega)
          have e : (bk bs i).map (fun x => wmk x.2) = bs.reverse.map wmk := by
            rw [← HBK.out, HBL.out, List.map_map]; rfl
          rw [e] at h
          exact h
        · exact HBD.out.trans (belowK_b (w := w6) hz6 W D _ _ hD hKD rfl rfl)
    · obtain ⟨g1, rfl⟩ : ∃ g1, gk = g1 + 1 := ⟨gk - 1, by omega⟩
      have hil : i < ws.length := by have := HN.out; omega
      obtain ⟨b, off, rfl, hbw, hrow⟩ := HRW.out (by omega)
      have hx := (HB.out.cell (p := ⟨b, off + i, none⟩) hbw).trans (hrow i hil)
      have htb := HTB.out
      have hli := HLI.out
      rw [List.drop_eq_getElem_cons hil, typB_step] at htb
      have hl1 : L1 ++ wo (ws[i]'hil) = (ws.take (i + 1)).flatMap wo := by
        rw [List.take_succ_eq_append_getElem hil, List.flatMap_append, ← HL1.out]; simp
      generalize ws[i]'hil = x at hx htb hl1
      obtain ⟨xi, hxi⟩ : ∃ xi : Int, (x.toNat : Int) = xi := ⟨_, rfl⟩
      rw [hxi] at hx
      have i1 : (i : Int).toNat = i := by omega
      have i2 : (0 : Int) ≤ (i : Int) := by omega
      have i3 : (i : Int) < (n : Int) := by omega
      have i4 : IntKind.i64.wrap ((i : Int) + 1) = ((i + 1 : Nat) : Int) := by rw [IntWalk.i64_in _ (by omega)]; omega
      have HJJ := Lib.hid (And.intro hj hj')
      have c4 : wr.cell? ⟨w.heap.size + 1 + 1, 0, none⟩ = some (.pointer (some ⟨w.heap.size + 1, 0, none⟩)) := by rw [Lib.cell_of_heap HX.out.2]; rfl
      have hzr := HB.out.size
      have hqr := HP.out.lt
      clear hg0 hj hj' hrow hbw hil HRW HTB HL1 HLI
      by_cases hx2 : x = 2
      · subst hx2
        have hx3 : xi = 2 := by rw [← hxi]; rfl
        subst hx3
        have HTN : Hid (typB 2 (ws.drop (i + 1)) = Z) := Lib.hid (by rw [← htb]; rfl)
        have HLN : Hid (L1 ++ [⟨4, (⟨#[91]⟩ : ByteArray).data.toList, 0⟩] = (ws.take (i + 1)).flatMap wo) := Lib.hid hl1
        have hb4 : Below wr.heap.size wr (wr.alloc (.cells #[.string ⟨#[91]⟩] 9 (0, 0))) := (Below.refl _ _).alloc (Nat.le_refl _) _
        have HP4 := Lib.hid (HP.out.below hb4)
        have HB4 := Lib.hid (HB.out.trans (hb4.mono hzr))
        have HX4 := Lib.hid (And.intro ((hb4.block _ (heap_lt HX.out.1)).trans HX.out.1) ((hb4.block _ (heap_lt HX.out.2)).trans HX.out.2))
        have hne4 : wr.heap.size ≠ w.heap.size + 1 := by omega
        clear hb4 htb hl1 hxi hli
        go_wp2_with fail
        refine (put_add (w.heap.size + 1) pv L1 4 4 rfl ⟨#[91]⟩ _ 1 _ HP4.out (new_cell0 _ _ _) hne4 (by omega)).mono ?_; rintro e w5 ⟨rfl, ⟨pv5, hx1⟩, hx2⟩
        have HP5 := Lib.hid hx1
        have HB5 : Hid (Below w.heap.size w w5) := Lib.hid (HB4.out.trans (hx2.1.mono (by omega)))
        have HX5 := Lib.hid (And.intro (hx2.2 _ _ HX4.out.1 (by omega)) (hx2.2 _ _ HX4.out.2 (by omega)))
        clear hx1 hx2 HP4 HB4 HX4 hne4 c4
        go_wp2_with fail
        obtain ⟨hj, hj'⟩ := HJJ.out
        go_roundg g1
        case measure => omega
        case rel => exact ⟨i + 1, 2, 2, _, pv5, rfl, by first | rfl | go_num, ⟨by omega, by omega⟩, Lib.hid rfl, HP5, HB5, HX5, HTN, HLN⟩
      · by_cases hx1 : x = 1
        · subst hx1
          have hx3 : xi = 1 := by rw [← hxi]; rfl
          subst hx3
          by_cases hls : lst = 1
          · subst hls
            have hl3 : li = 1 := by rw [← hli]; rfl
            subst hl3
            have HF : Hid (ZE = 8 ∧ ZL = []) := Lib.hid (HNO.out (by rw [← htb]; rfl))
            clear htb hl1 hxi hli
            go_wp2_with fail
            (try simp only [Exit.inBlock, Exit.then])
            refine postM_ret (results_tmp2 rfl _ _ _) rfl ?_
            exact ⟨⟨.slice none 0 0, by rw [HF.out.1]; rfl, by rw [HF.out.2]; exact OwnT.nil _ _⟩, HB.out⟩
          · have hl3 : ¬ li = 1 := fun h => hls (UInt8.toNat_inj.1 (by have : ((1 : UInt8).toNat : Int) = 1 := rfl; omega))
            have hl4 : (li == 1) = false := by simpa using hl3
            have hlb : (lst == 1) = false := by simpa using hls
            have HTN : Hid (typB 1 (ws.drop (i + 1)) = Z) := Lib.hid (by rw [← htb, hlb]; rfl)
            have HLN : Hid (L1 = (ws.take (i + 1)).flatMap wo) := Lib.hid (by rw [← hl1]; simp [wo])
            clear htb hl1 hxi hli hls hlb
            go_wp2_with fail
            obtain ⟨hj, hj'⟩ := HJJ.out
            go_roundg g1
            case measure => omega
            case rel => exact ⟨i + 1, 1, 1, _, pv, rfl, by first | rfl | go_num, ⟨by omega, by omega⟩, Lib.hid rfl, HP, HB, HX, HTN, HLN⟩
        · have h1 : ¬ xi = 1 := fun h => hx1 (UInt8.toNat_inj.1 (by have : ((1 : UInt8).toNat : Int) = 1 := rfl; omega))
          have h2 : ¬ xi = 2 := fun h => hx2 (UInt8.toNat_inj.1 (by have : ((2 : UInt8).toNat : Int) = 2 := rfl; omega))
          have h1b : (xi == 1) = false := by simpa using h1
          have h2b : (xi == 2) = false := by simpa using h2
          have HF : Hid (ZE = 8 ∧ ZL = []) := Lib.hid (HNO.out (by
            rw [← htb, (by simpa using hx1 : (x == 1) = false), (by simpa using hx2 : (x == 2) = false)]; rfl))
          clear htb hl1 hxi hli hx1 hx2
          go_wp2_with fail
          (try simp only [Exit.inBlock, Exit.then])
          refine postM_ret (results_tmp2 rfl _ _ _) rfl ?_
          exact ⟨⟨.slice none 0 0, by rw [HF.out.1]; rfl, by rw [HF.out.2]; exact OwnT.nil _ _⟩, HB.out⟩
set_option maxRecDepth 100000 in
theorem tt_name (nm : ByteArray) (u : Value) (w : World) (HNM : Hid (∀ W, Calls Tryz.prog 11 #[.string nm] W fun e w' => e = .returned (.bool false) ∧ W = w')) :
    Calls Tryz.prog 39 #[.agg #[.string nm, u]] w fun e w' => e = .returned (.tuple #[.slice none 0 0, .int .i64 8]) ∧ Below w.heap.size w w' := by
  have HB : Hid (Below w.heap.size w (w.alloc (.cells #[.string nm, u] 44 (0, 0)))) := Lib.hid ((Below.refl _ _).alloc (Nat.le_refl _) _)
  refine (callsIn_wide (n := 3)).1 ?_
  refine callsIn_of_wp_marks Tryz.func39 rfl trivial ?_ rfl
  simp only [Tryz.ntmps39, List.size_toArray, List.length_cons, List.length_nil, Nat.reduceAdd, Nat.reduceSub, Array.replicate_succ, Array.replicate_zero, List.push_toArray, List.append_toArray, List.nil_append, List.cons_append]
  refine wpIn_wide.2 ?_
  go_wp2_with fail
  refine (HNM.out _).mono ?_; rintro e w2 ⟨rfl, rfl⟩
  go_wp2_with fail
  (try simp only [Exit.inBlock, Exit.then])
  refine postM_ret (results_tmp2 rfl _ _ _) rfl ?_
  exact ⟨rfl, HB.out⟩
set_option maxRecDepth 100000 in
theorem tt_long (nm : ByteArray) (a : Option Addr) (n c : Nat) (hn : (8 : Int) < (n : Int)) (w : World) (HNM : Hid (∀ W, Calls Tryz.prog 11 #[.string nm] W fun e w' => e = .returned (.bool true) ∧ W = w')) :
    Calls Tryz.prog 39 #[.agg #[.string nm, .slice a n c]] w fun e w' => e = .returned (.tuple #[.slice none 0 0, .int .i64 8]) ∧ Below w.heap.size w w' := by
  have HB : Hid (Below w.heap.size w (w.alloc (.cells #[.string nm, .slice a n c] 44 (0, 0)))) := Lib.hid ((Below.refl _ _).alloc (Nat.le_refl _) _)
  refine (callsIn_wide (n := 3)).1 ?_
  refine callsIn_of_wp_marks Tryz.func39 rfl trivial ?_ rfl
  simp only [Tryz.ntmps39, List.size_toArray, List.length_cons, List.length_nil, Nat.reduceAdd, Nat.reduceSub, Array.replicate_succ, Array.replicate_zero, List.push_toArray, List.append_toArray, List.nil_append, List.cons_append]
  refine wpIn_wide.2 ?_
  go_wp2_with fail
  refine (HNM.out _).mono ?_; rintro e w2 ⟨rfl, rfl⟩
  go_wp2_with fail
  (try simp only [Exit.inBlock, Exit.then])
  refine postM_ret (results_tmp2 rfl _ _ _) rfl ?_
  exact ⟨rfl, HB.out⟩
theorem tt_any (nm : ByteArray) (ws : List UInt8) (u : Value) (w : World) (hu : BSl u ws w) (hn : nm.size ≤ 9223372036854775807) (hw : ws.length ≤ 1000000) :
    Calls Tryz.prog 39 #[.agg #[.string nm, u]] w fun e w' => (∃ v, e = .returned (.tuple #[v, .int .i64 (ttE nm.data.toList ws)]) ∧ OwnT w.heap.size v (ttL nm.data.toList ws) w') ∧ Below w.heap.size w w' := by
  obtain ⟨a, c, rfl⟩ := hu.form
  have no : ttB nm.data.toList ws = false → ∀ e w', (e = Ending.returned (.tuple #[.slice none 0 0, .int .i64 8]) ∧ Below w.heap.size w w') → (∃ v, e = .returned (.tuple #[v, .int .i64 (ttE nm.data.toList ws)]) ∧ OwnT w.heap.size v (ttL nm.data.toList ws) w') ∧ Below w.heap.size w w' := by
    rintro h e w' ⟨rfl, hb⟩
    unfold ttE ttL
    rw [h]
    exact ⟨⟨_, rfl, OwnT.nil _ _⟩, hb⟩
  cases hnb : nameB nm.data.toList with
  | false =>
    refine (tt_name nm _ w (Lib.hid fun W => ?_)).mono (no (by unfold ttB; rw [hnb]; rfl))
    have := lname_big nm hn W
    rw [hnb] at this
    exact this
  | true =>
    by_cases hl : ws.length ≤ 8
    · exact tt_go nm hnb hn ws hl a c w hu
    · refine (tt_long nm a _ c (by omega) w (Lib.hid fun W => ?_)).mono (no (by unfold ttB; rw [hnb, decide_eq_false hl]; rfl))
      have := lname_big nm hn W
      rw [hnb] at this
      exact this
end Go.Proofs.YtbejhdhhkpllfaaGreatDoor
namespace Go.Proofs.YtbejhdhhkpllfaaGreatDoor
open Go.RowKit
theorem args_sm {A : List (List UInt8 × List Cel)} (hA : ArgB A) (hg : greatAB A = false) : ArgsSm A ∧ roomA A ≤ 5000 ∧ A.length ≤ 20 ∧ (∀ x ∈ A, x.1.length ≤ 100000 ∧ CelS x.2 ∧ NumB x.2 ∧ x.2.length ≤ 60) := by
  obtain ⟨h1, h2⟩ := greatAB_parts hg
  have key : ∀ x ∈ A, x.1.length ≤ 300 ∧ x.2.length ≤ 60 ∧ ∀ c ∈ x.2, c.name.length ≤ 300 ∧ c.text.length ≤ 3000 ∧ R c.num ∧ R c.many := fun x hx => by
    obtain ⟨p1, p2⟩ := greatV_parts (h2 x hx).1
    refine ⟨(h2 x hx).2, p1, fun c hc => ?_⟩
    obtain ⟨q1, q2⟩ := p2 c hc
    obtain ⟨_, _, q3, q4⟩ := (hA.2 x hx).2.2 c hc
    exact ⟨q1, q2, q3, q4⟩
  refine ⟨⟨by omega, fun x hx => ?_⟩, ?_, h1, fun x hx => ?_⟩
  · obtain ⟨k1, k2, k3⟩ := key x hx
    refine ⟨by omega, by omega, fun c hc => ?_⟩
    obtain ⟨m1, m2, m3, m4⟩ := k3 c hc
    exact ⟨by omega, by omega, m3, m4⟩
  · have := roomA_le A fun x hx => (key x hx).2.1
    omega
  · obtain ⟨k1, k2, k3⟩ := key x hx
    refine ⟨by omega, fun c hc => ?_, fun c hc => ?_, k2⟩
    · obtain ⟨m1, m2, m3, m4⟩ := k3 c hc
      exact ⟨by omega, by omega, m3⟩
    · obtain ⟨m1, m2, m3, m4⟩ := k3 c hc
      exact ⟨m3.1, m3.2⟩
end Go.Proofs.YtbejhdhhkpllfaaGreatDoor
namespace Go.Proofs.YtbejhdhhkpllfaaGreatDoor
open Go.RowKit
theorem OwnI.form {B : Nat} {v : Value} {l : List Nat} {w : World} (h : OwnI B v l w) : ∃ a c, v = .slice a l.length c ∧ (0 < l.length → ∃ g, a = some ⟨g, 0, none⟩ ∧ ∀ (i : Nat) (hi : i < l.length), w.cell? ⟨g, 0 + i, none⟩ = some (.int .i64 (l[i] : Int))) := by
  obtain ⟨h1, h2⟩ := h
  rcases h2 with ⟨rfl, h3⟩ | ⟨g, cap, cur, hv, hB, hg, hn, hc, hcs, ht⟩
  · exact ⟨none, 0, by rw [h3], fun h => by omega⟩
  · refine ⟨_, cap, hv, fun _ => ⟨g, rfl, fun i hi => ?_⟩⟩
    rw [Nat.mul_one] at ht
    have e : cur.toList[i]? = some (.int .i64 (l[i] : Int)) := by
      have : (cur.toList.take l.length)[i]? = some (.int .i64 (l[i] : Int)) := by rw [ht]; unfold natCells; simp [hi]
      rw [List.getElem?_take] at this
      simpa [hi] using this
    rw [Nat.zero_add]
    refine (Lib.cell_of_heap hg i).trans ?_
    simpa using e
end Go.Proofs.YtbejhdhhkpllfaaGreatDoor
namespace Go.Proofs.YtbejhdhhkpllfaaGreatDoor
open Go.RowKit
/-- A row of places, in a block. -/
def PB (a : Option Addr) (P : List Nat) (W : World) : Prop := 0 < P.length → ∃ g cur, a = some ⟨g, 0, none⟩ ∧ W.heap[g]? = some (.cells cur 3 (0, 0)) ∧ ∀ (i : Nat) (hi : i < P.length), cur[i]? = some (.int .i64 (P[i] : Int))
theorem PB.below {a : Option Addr} {P : List Nat} {W W' : World} (h : PB a P W) (hb : Below W.heap.size W W') : PB a P W' := fun h0 => by
  obtain ⟨g, cur, h1, h2, h3⟩ := h h0
  exact ⟨g, cur, h1, (hb.block g (heap_lt h2)).trans h2, h3⟩
theorem PB.grown {a : Option Addr} {P : List Nat} {W W' : World} {B : Nat} {v : Value} {L : List Tok} (h : PB a P W) (ho : OwnT B v L W) (hg : W.grownBy W' v.ownBlock) : PB a P W' := fun h0 => by
  obtain ⟨g, cur, h1, h2, h3⟩ := h h0
  refine ⟨g, cur, h1, (hg.block g (heap_lt h2) ?_).trans h2, h3⟩
  intro e
  rcases ho.2 with ⟨e1, _⟩ | ⟨g2, cap2, cur2, e1, _, hg2, _⟩
  · rw [e1] at e; cases e
  · rw [e1] at e
    injection e with e
    have e3 : g = g2 := e
    rw [e3, hg2] at h2
    injection h2 with h2
    injection h2 with _ h4 _
    exact absurd h4 (by decide)
theorem PB.cell {a : Option Addr} {P : List Nat} {W : World} (h : PB a P W) (i : Nat) (hi : i < P.length) : ∃ g, a = some ⟨g, 0, none⟩ ∧ W.cell? ⟨g, i, none⟩ = some (.int .i64 (P[i] : Int)) := by
  obtain ⟨g, cur, h1, h2, h3⟩ := h (by omega)
  exact ⟨g, h1, (Lib.cell_of_heap h2 i).trans (h3 i hi)⟩
end Go.Proofs.YtbejhdhhkpllfaaGreatDoor
namespace Go.Proofs.YtbejhdhhkpllfaaGreatDoor
open Go.RowKit
def okC (c : Cel) : Bool := (c.name.isEmpty || nameB c.name) && !(c.kind == 4 && wordsK.contains c.text)
theorem litB_okC (V : List Cel) : litB V = (mayB V && V.all okC) := rfl
set_option maxRecDepth 100000 in
set_option maxHeartbeats 4000000 in
theorem mayval_go (V : List Cel) (b off cap : Nat) (hl : V.length ≤ 100000) (hs : ∀ c ∈ V, c.name.length ≤ 100000) (w : World) (hr : CelRow b off V w)
    (HM : Hid (∀ W, Below w.heap.size w W → Calls Tryz.prog 79 #[.slice (some ⟨b, off, none⟩) V.length cap] W fun e w' => e = .returned (.bool (mayB V)) ∧ Below W.heap.size W w')) :
    Calls Tryz.prog 67 #[.slice (some ⟨b, off, none⟩) V.length cap] w fun e w' => e = .returned (.bool (litB V)) ∧ Below w.heap.size w w' := by
  have HR := Lib.hid hr
  have HS := Lib.hid hs
  obtain ⟨Z, hZ⟩ : ∃ Z, litB V = Z := ⟨_, rfl⟩
  have HZ0 : Hid ((mayB V && (V.drop 0).all okC) = Z) := Lib.hid hZ
  rw [hZ]
  generalize mayB V = mb at *
  obtain ⟨n, hn⟩ : ∃ n, V.length = n := ⟨_, rfl⟩
  have HN := Lib.hid hn
  rw [hn] at HM hl ⊢
  clear hr hs hZ hn
  go_enter Tryz.func67, Tryz.ntmps67
  go_wp2_with fail
  go_loopg [3] n (fun gk iv wr => ∃ i : Nat, iv = .int .i64 (i : Int) ∧ (gk + i ≤ n ∧ n ≤ gk + i) ∧ Hid ((mb && (V.drop i).all okC) = Z) ∧ Hid (Below w.heap.size w wr))
  case atStart => exact ⟨0, by go_num, ⟨by omega, by omega⟩, HZ0, Lib.hid (Below.refl _ _)⟩
  case round =>
    clear HZ0
    rename World => wr
    obtain ⟨i, rfl, ⟨hj, hj'⟩, HQ, HB⟩ := hrel
    by_cases hg0 : gk = 0
    · subst hg0
      have hlt : ¬ (i : Int) < (n : Int) := by omega
      have HF : Hid (mb = Z) := Lib.hid (by
        have := HQ.out
        rw [List.drop_of_length_le (by have := HN.out; omega)] at this
        simpa using this)
      clear hj hj'
      go_wp2_with fail
      refine (HM.out wr HB.out).mono ?_; rintro e w2 ⟨rfl, hb⟩
      have HB2 : Hid (Below w.heap.size w w2) := Lib.hid (HB.out.trans (hb.mono HB.out.size))
      clear hb
      go_wp2_with fail
      go_ret
      exact ⟨ret_b HF.out, HB2.out⟩
    · obtain ⟨g1, rfl⟩ : ∃ g1, gk = g1 + 1 := ⟨gk - 1, by omega⟩
      have hil : i < V.length := by have := HN.out; omega
      obtain ⟨q0, q1, q2, q3, q4⟩ := HR.out i hil
      have hbl := lt_of_cell q0
      have hb' := HB.out
      have r0 := (hb'.cell (p := ⟨b, _, none⟩) hbl).trans q0
      have r1 := (hb'.cell (p := ⟨b, _, none⟩) hbl).trans q1
      have r2 := (hb'.cell (p := ⟨b, _, none⟩) hbl).trans q2
      have r3 := (hb'.cell (p := ⟨b, _, none⟩) hbl).trans q3
      have r4 := (hb'.cell (p := ⟨b, _, none⟩) hbl).trans q4
      have hsz := HS.out V[i] (List.getElem_mem hil)
      have hq := HQ.out
      rw [List.drop_eq_getElem_cons hil, List.all_cons] at hq
      obtain ⟨bad, hbad⟩ : ∃ bad, okC (V[i]'hil) = !bad := ⟨!okC (V[i]'hil), by simp⟩
      rw [hbad] at hq
      unfold okC at hbad
      generalize V[i]'hil = c at *
      obtain ⟨kd, hkd⟩ : ∃ kd : Int, (c.kind.toNat : Int) = kd := ⟨_, rfl⟩
      obtain ⟨nx, hnx⟩ : ∃ nx : ByteArray, (⟨c.name.toArray⟩ : ByteArray) = nx := ⟨_, rfl⟩
      obtain ⟨tx, htx⟩ : ∃ tx : ByteArray, (⟨c.text.toArray⟩ : ByteArray) = tx := ⟨_, rfl⟩
      have hnl : c.name = nx.data.toList := by rw [← hnx]
      have htl : c.text = tx.data.toList := by rw [← htx]
      have hnz : nx.size ≤ 1000000 := by rw [← bsz, ← hnl]; omega
      rw [hkd] at r0
      rw [hnx] at r1
      rw [htx] at r2
      rw [hnl, htl, ← ByteArray.toList_eq, ← ByteArray.toList_eq] at hbad
      obtain ⟨ne, hne⟩ : ∃ ne, nx.toList.isEmpty = ne := ⟨_, rfl⟩
      obtain ⟨nb, hnb⟩ : ∃ nb, nameB nx.data.toList = nb := ⟨_, rfl⟩
      obtain ⟨k4, hk4⟩ : ∃ k4, (c.kind == 4) = k4 := ⟨_, rfl⟩
      obtain ⟨s1, h1⟩ : ∃ s1, (tx.toList == [110, 117, 108, 108]) = s1 := ⟨_, rfl⟩
      obtain ⟨s2, h2⟩ : ∃ s2, (tx.toList == [116, 114, 117, 101]) = s2 := ⟨_, rfl⟩
      obtain ⟨s3, h3⟩ : ∃ s3, (tx.toList == [102, 97, 108, 115, 101]) = s3 := ⟨_, rfl⟩
      have HBAD : Hid ((!bad) = ((ne || nb) && !(k4 && (s1 || s2 || s3)))) := Lib.hid (by
        rw [← hbad, ← hne, ← hnb, ← hk4, ← h1, ← h2, ← h3]
        simp only [wordsK, List.contains_cons, List.contains_nil, Bool.or_false, ByteArray.toList_eq]
        simp [Bool.or_assoc])
      have HNM : Hid (∀ W, Calls Tryz.prog 44 #[.string nx] W fun e w' => e = .returned (.bool nb) ∧ W = w') := Lib.hid fun W => by
        have := rname_any nx hnz W
        rw [hnb] at this
        exact this
      have HQ2 := Lib.hid hq
      have HJJ := Lib.hid (And.intro hj hj')
      have hkq : (k4 = true → kd = 4) ∧ (k4 = false → ¬ kd = 4) := by
        refine ⟨fun h => ?_, fun h h' => ?_⟩
        · rw [h] at hk4
          rw [← hkd, beq_iff_eq.1 hk4]; rfl
        · rw [h] at hk4
          exact (beq_eq_false_iff_ne.1 hk4) (UInt8.toNat_inj.1 (by have : ((4 : UInt8).toNat : Int) = 4 := rfl; omega))
      have HKQ := Lib.hid hkq
      have hneq : (ne = true → nx.toList = []) ∧ (ne = false → ¬ nx.toList = []) := by
        rw [← hne]
        exact ⟨fun h => by simpa using h, fun h => by simpa using h⟩
      have HNEQ := Lib.hid hneq
      have i1 : (i : Int).toNat = i := by omega
      have i2 : (0 : Int) ≤ (i : Int) := by omega
      have i3 : (i : Int) < (n : Int) := by omega
      have i4 : IntKind.i64.wrap ((i : Int) + 1) = ((i + 1 : Nat) : Int) := by rw [IntWalk.i64_in _ (by omega)]; omega
      have l0 : (⟨#[]⟩ : ByteArray).toList = [] := by rw [ByteArray.toList_eq]
      clear q0 q1 q2 q3 q4 hbl hb' hq hbad hkd hnx htx hnl htl hnz hnb hk4 hkq hneq hj hj' hsz hil hg0
      go_upto_region 5 with fail
      obtain ⟨wc, hwc⟩ : ∃ wc, wr.alloc (.cells #[.int .u8 kd, .string nx, .string tx, .int .i64 c.num, .int .i64 c.many] 59) = wc := ⟨_, rfl⟩
      have HBC : Hid (Below w.heap.size w wc) := Lib.hid (by rw [← hwc]; exact HB.out.alloc HB.out.size _)
      have hh : wc.heap[wr.heap.size]? = some (.cells #[.int .u8 kd, .string nx, .string tx, .int .i64 c.num, .int .i64 c.many] 59 (0, 0)) := by rw [← hwc]; exact heap_new _ _ _ rfl
      have e0 : wc.cell? ⟨wr.heap.size, 0, none⟩ = some (.int .u8 kd) := Lib.cell_of_heap hh 0
      have e1 : wc.cell? ⟨wr.heap.size, 1, none⟩ = some (.string nx) := Lib.cell_of_heap hh 1
      have e2 : wc.cell? ⟨wr.heap.size, 2, none⟩ = some (.string tx) := Lib.cell_of_heap hh 2
      rw [hwc]
      clear hwc hh r0 r1 r2 r3 r4
      generalize wr.heap.size = cb at *
      go_cut [43] (fun s wx => s = .bool bad ∧ wx = wc)
      case first =>
        cases ne with
        | true =>
          have hnn := HNEQ.out.1 rfl
          cases k4 with
          | false =>
            have hkn := HKQ.out.2 rfl
            have hkb : (kd == 4) = false := by simpa using hkn
            go_wp2_with fail
            go_meet
            exact ⟨congrArg Value.bool (by have := HBAD.out; cases bad <;> first | rfl | simp at this), rfl⟩
          | true =>
            have hk := HKQ.out.1 rfl
            subst hk
            cases s1 with
            | true =>
              go_wp2_with fail
              go_meet
              exact ⟨congrArg Value.bool (by have := HBAD.out; cases bad <;> first | rfl | simp at this), rfl⟩
            | false =>
            cases s2 with
            | true =>
              go_wp2_with fail
              go_meet
              exact ⟨congrArg Value.bool (by have := HBAD.out; cases bad <;> first | rfl | simp at this), rfl⟩
            | false =>
            cases s3 with
            | true =>
              go_wp2_with fail
              go_meet
              exact ⟨congrArg Value.bool (by have := HBAD.out; cases bad <;> first | rfl | simp at this), rfl⟩
            | false =>
              go_wp2_with fail
              go_meet
              exact ⟨congrArg Value.bool (by have := HBAD.out; cases bad <;> first | rfl | simp at this), rfl⟩
        | false =>
          have hnn := HNEQ.out.2 rfl
          cases nb with
          | false =>
            go_wp2_with fail
            refine (HNM.out _).mono ?_; rintro e w2 ⟨rfl, rfl⟩
            go_wp2_with fail
            go_meet
            exact ⟨congrArg Value.bool (by have := HBAD.out; cases bad <;> first | rfl | simp at this), rfl⟩
          | true =>
            cases k4 with
            | false =>
              have hkn := HKQ.out.2 rfl
              have hkb : (kd == 4) = false := by simpa using hkn
              go_wp2_with fail
              refine (HNM.out _).mono ?_; rintro e w2 ⟨rfl, rfl⟩
              go_wp2_with fail
              go_meet
              exact ⟨congrArg Value.bool (by have := HBAD.out; cases bad <;> first | rfl | simp at this), rfl⟩
            | true =>
              have hk := HKQ.out.1 rfl
              subst hk
              cases s1 with
              | true =>
                go_wp2_with fail
                refine (HNM.out _).mono ?_; rintro e w2 ⟨rfl, rfl⟩
                go_wp2_with fail
                go_meet
                exact ⟨congrArg Value.bool (by have := HBAD.out; cases bad <;> first | rfl | simp at this), rfl⟩
              | false =>
              cases s2 with
              | true =>
                go_wp2_with fail
                refine (HNM.out _).mono ?_; rintro e w2 ⟨rfl, rfl⟩
                go_wp2_with fail
                go_meet
                exact ⟨congrArg Value.bool (by have := HBAD.out; cases bad <;> first | rfl | simp at this), rfl⟩
              | false =>
              cases s3 with
              | true =>
                go_wp2_with fail
                refine (HNM.out _).mono ?_; rintro e w2 ⟨rfl, rfl⟩
                go_wp2_with fail
                go_meet
                exact ⟨congrArg Value.bool (by have := HBAD.out; cases bad <;> first | rfl | simp at this), rfl⟩
              | false =>
                go_wp2_with fail
                refine (HNM.out _).mono ?_; rintro e w2 ⟨rfl, rfl⟩
                go_wp2_with fail
                go_meet
                exact ⟨congrArg Value.bool (by have := HBAD.out; cases bad <;> first | rfl | simp at this), rfl⟩
      case rest =>
        obtain ⟨rfl, hwe⟩ := hcut
        rw [hwe]
        clear hwe e0 e1 e2
        cases bad with
        | true =>
          have HF : Hid (false = Z) := Lib.hid (by rw [← HQ2.out]; simp)
          go_wp2_with fail
          go_ret
          exact ⟨ret_b HF.out, HBC.out⟩
        | false =>
          have HF : Hid ((mb && (V.drop (i + 1)).all okC) = Z) := Lib.hid (by rw [← HQ2.out]; simp)
          go_wp2_with fail
          obtain ⟨hj, hj'⟩ := HJJ.out
          go_roundg g1
          case measure => omega
          case rel => exact ⟨i + 1, by first | rfl | go_num, ⟨by omega, by omega⟩, HF, HBC⟩
set_option maxRecDepth 100000 in
theorem mayval_none (a : Option Addr) (c : Nat) (w : World) (HM : Hid (∀ W, Below w.heap.size w W → Calls Tryz.prog 79 #[.slice a 0 c] W fun e w' => e = .returned (.bool (mayB [])) ∧ Below W.heap.size W w')) :
    Calls Tryz.prog 67 #[.slice a 0 c] w fun e w' => e = .returned (.bool (litB [])) ∧ Below w.heap.size w w' := by
  go_enter Tryz.func67, Tryz.ntmps67
  go_wp2_with fail
  refine wp_loop_rounds 1 ?_; rw [rounds_succ]
  go_wp2_with fail
  refine (HM.out w (Below.refl _ _)).mono ?_; rintro e w2 ⟨rfl, hb⟩
  have HB := Lib.hid hb
  clear hb
  go_wp2_with fail
  go_ret
  exact ⟨rfl, HB.out⟩
theorem mayval_any (V : List Cel) (v : Value) (w : World) (hv : CelSl v V w) (hs : SmallV V) :
    Calls Tryz.prog 67 #[v] w fun e w' => e = .returned (.bool (litB V)) ∧ Below w.heap.size w w' := by
  have HM : Hid (∀ W, Below w.heap.size w W → Calls Tryz.prog 79 #[v] W fun e w' => e = .returned (.bool (mayB V)) ∧ Below W.heap.size W w') := Lib.hid fun W hW => rmay03_any V v W (hv.below hW) hs
  rcases hv with ⟨a, c, rfl, rfl, _⟩ | ⟨b, off, cap, rfl, hr, h0⟩
  · exact mayval_none a c w HM
  · exact mayval_go V b off cap hs.1 (fun c hc => (hs.2 c hc).1) w hr HM
end Go.Proofs.YtbejhdhhkpllfaaGreatDoor
namespace Go.Proofs.YtbejhdhhkpllfaaGreatDoor
open Go.RowKit
theorem namedB_step (nm : List (List UInt8)) (x : List UInt8 × List Cel) (r : List (List UInt8 × List Cel)) : namedB nm (x :: r) = (!nm.contains x.1 && nameB x.1 && litB x.2 && namedB (x.1 :: nm) r) := rfl
def nmsA (A : List (List UInt8 × List Cel)) (i : Nat) : List (List UInt8) := ((A.take i).map (·.1)).reverse
theorem nmsA_step (A : List (List UInt8 × List Cel)) (i : Nat) (h : i < A.length) : nmsA A (i + 1) = A[i].1 :: nmsA A i := by
  unfold nmsA
  rw [List.take_succ_eq_append_getElem h, List.map_append, List.reverse_append]
  rfl
theorem nmsA_mem (A : List (List UInt8 × List Cel)) (i : Nat) (hi : i ≤ A.length) (s : List UInt8) : (nmsA A i).contains s = true ↔ ∃ (j : Nat) (hj : j < A.length), j < i ∧ A[j].1 = s := by
  unfold nmsA
  rw [List.contains_iff_mem, List.mem_reverse, List.mem_map]
  constructor
  · rintro ⟨x, hx, rfl⟩
    obtain ⟨j, hj, e⟩ := List.mem_iff_getElem.1 hx
    rw [List.length_take] at hj
    refine ⟨j, by omega, by omega, ?_⟩
    rw [List.getElem_take] at e
    rw [e]
  · rintro ⟨j, hj, hji, rfl⟩
    exact ⟨A[j], List.mem_iff_getElem.2 ⟨j, by rw [List.length_take]; omega, by rw [List.getElem_take]⟩, rfl⟩
set_option maxRecDepth 100000 in
set_option maxHeartbeats 4000000 in
theorem rma_go (A : List (List UInt8 × List Cel)) (b off cap : Nat) (w : World) (hA : XRow CelSl b off A w) (hs : ArgsSm A) :
    Calls Tryz.prog 77 #[.slice (some ⟨b, off, none⟩) A.length cap] w fun e w' => e = .returned (.bool (namedB [] A)) ∧ Below w.heap.size w w' := by
  have HA := Lib.hid hA
  have HS := Lib.hid hs.2
  have hl := hs.1
  obtain ⟨Z, hZ⟩ : ∃ Z, namedB [] A = Z := ⟨_, rfl⟩
  have HZ0 : Hid (namedB (nmsA A 0) (A.drop 0) = Z) := Lib.hid hZ
  rw [hZ]
  obtain ⟨n, hn⟩ : ∃ n, A.length = n := ⟨_, rfl⟩
  have HN := Lib.hid hn
  rw [hn] at hl ⊢
  clear hA hs hZ hn
  go_enter Tryz.func77, Tryz.ntmps77
  go_wp2_with fail
  go_loopg [3] (n + 1) (fun gk iv wr => ∃ i : Nat, iv = .int .i64 (i : Int) ∧ (gk + i ≤ n + 1 ∧ n + 1 ≤ gk + i) ∧ i ≤ n ∧ Hid (namedB (nmsA A i) (A.drop i) = Z) ∧ Hid (Below w.heap.size w wr))
  case atStart => exact ⟨0, by go_num, ⟨by omega, by omega⟩, by omega, HZ0, Lib.hid (Below.refl _ _)⟩
  case round =>
    clear HZ0
    rename World => wr
    obtain ⟨i, rfl, ⟨hj, hj'⟩, hin, HQ, HB⟩ := hrel
    obtain ⟨g1, rfl⟩ : ∃ g1, gk = g1 + 1 := ⟨gk - 1, by omega⟩
    by_cases hge : i = n
    · subst hge
      have hlt : ¬ (i : Int) < (i : Int) := by omega
      have HF : Hid (true = Z) := Lib.hid (by
        have := HQ.out
        rw [List.drop_of_length_le (by have := HN.out; omega)] at this
        exact this)
      clear hj hj'
      go_wp2_with fail
      go_ret
      exact ⟨ret_b HF.out, HB.out⟩
    · have hil : i < A.length := by have := HN.out; omega
      have i1 : (i : Int).toNat = i := by omega
      have i2 : (0 : Int) ≤ (i : Int) := by omega
      have i3 : (i : Int) < (n : Int) := by omega
      have i4 : IntKind.i64.wrap ((i : Int) + 1) = ((i + 1 : Nat) : Int) := by rw [IntWalk.i64_in _ (by omega)]; omega
      have hin2 : i + 1 ≤ n := by omega
      have hbw := HB.out
      obtain ⟨e0, a, vn, c, e1, hy⟩ := HA.out i hil
      obtain ⟨hx1, hx2⟩ := HS.out A[i] (List.getElem_mem hil)
      have r0 : wr.cell? ⟨b, off + i * 2, none⟩ = some (.string ⟨(A[i]'hil).1.toArray⟩) := (hbw.cell (p := ⟨b, _, none⟩) (lt_of_cell e0)).trans e0
      have r1 : wr.cell? ⟨b, off + i * 2 + 1, none⟩ = some (.slice a vn c) := (hbw.cell (p := ⟨b, _, none⟩) (lt_of_cell e0)).trans e1
      have hq := HQ.out
      rw [List.drop_eq_getElem_cons hil, namedB_step] at hq
      have hns := nmsA_step A i hil
      have hmem := nmsA_mem A i (by omega) (A[i]'hil).1
      have HMV : Hid (∀ W, Below w.heap.size w W → Calls Tryz.prog 67 #[.slice a vn c] W fun e w' => e = .returned (.bool (litB (A[i]'hil).2)) ∧ Below W.heap.size W w') := Lib.hid fun W hW => mayval_any _ _ W (hy.below hW) hx2
      obtain ⟨nb, hnb⟩ : ∃ nb : ByteArray, (⟨(A[i]'hil).1.toArray⟩ : ByteArray) = nb := ⟨_, rfl⟩
      have hnd : (A[i]'hil).1 = nb.data.toList := by rw [← hnb]
      have hnz : nb.size ≤ 1000000 := by rw [← bsz, ← hnd]; exact hx1
      rw [hnb] at r0
      rw [hnd] at hq hns hmem
      have HNM : Hid (∀ W, Calls Tryz.prog 44 #[.string nb] W fun e w' => e = .returned (.bool (nameB nb.data.toList)) ∧ W = w') := Lib.hid fun W => rname_any nb hnz W
      have HCELL : Hid (∀ j, j < i → ∃ y : ByteArray, (∀ (h : j < A.length), A[j].1 = y.data.toList) ∧ ∀ W, Below w.heap.size w W → W.cell? ⟨b, off + j * 2, none⟩ = some (.string y)) := Lib.hid fun j hj => by
        have hjl : j < A.length := by omega
        obtain ⟨f0, _⟩ := HA.out j hjl
        exact ⟨⟨A[j].1.toArray⟩, fun h => by simp, fun W hW => (hW.cell (p := ⟨b, _, none⟩) (lt_of_cell f0)).trans f0⟩
      have HCI : Hid (∀ W, Below w.heap.size w W → W.cell? ⟨b, off + i * 2, none⟩ = some (.string nb)) := Lib.hid fun W hW => by
        rw [← hnb]
        exact (hW.cell (p := ⟨b, _, none⟩) (lt_of_cell e0)).trans e0
      have HAL : Hid (i < A.length) := Lib.hid hil
      generalize litB (A[i]'hil).2 = lb at *
      generalize nameB nb.data.toList = nbb at *
      obtain ⟨cn, hcn⟩ : ∃ cn, (nmsA A i).contains nb.data.toList = cn := ⟨_, rfl⟩
      rw [hcn] at hq hmem
      have HMEM := Lib.hid hmem
      have HQ2 : Hid ((!cn && nbb && lb && namedB (nmsA A (i + 1)) (A.drop (i + 1))) = Z) := Lib.hid (by rw [← hq, hns])
      have HJJ := Lib.hid (And.intro hj hj')
      clear hj hj' hq hns hmem hnb hnd hnz hy hx1 hx2 e0 e1 hbw hil hcn hge HQ
      cases nbb with
      | false =>
        have HF : Hid (false = Z) := Lib.hid (by rw [← HQ2.out]; simp)
        go_wp2_with fail
        refine (HNM.out _).mono ?_; rintro e w2 ⟨rfl, rfl⟩
        go_wp2_with fail
        go_ret
        exact ⟨ret_b HF.out, HB.out⟩
      | true =>
        cases lb with
        | false =>
          have HF : Hid (false = Z) := Lib.hid (by rw [← HQ2.out]; simp)
          go_wp2_with fail
          refine (HNM.out _).mono ?_; rintro e w2 ⟨rfl, rfl⟩
          go_wp2_with fail
          refine (HMV.out _ HB.out).mono ?_; rintro e w2 ⟨rfl, hb⟩
          have HB2 : Hid (Below w.heap.size w w2) := Lib.hid (HB.out.trans (hb.mono HB.out.size))
          clear hb
          go_wp2_with fail
          go_ret
          exact ⟨ret_b HF.out, HB2.out⟩
        | true =>
          go_wp2_with fail
          refine (HNM.out _).mono ?_; rintro e w2 ⟨rfl, rfl⟩
          go_wp2_with fail
          refine (HMV.out _ HB.out).mono ?_; rintro e w2 ⟨rfl, hb⟩
          have HB2 : Hid (Below w.heap.size w w2) := Lib.hid (HB.out.trans (hb.mono HB.out.size))
          clear hb r0 r1 HNM HMV
          go_wp2_with fail
          go_loopg [4] (i + 1) (fun gm kv wz => ∃ k : Nat, kv = .int .i64 (k : Int) ∧ (gm + k ≤ i + 1 ∧ i + 1 ≤ gm + k) ∧ k ≤ i ∧ Hid (∀ (j : Nat) (hj : j < A.length), j < k → A[j].1 ≠ nb.data.toList) ∧ Hid (Below w.heap.size w wz))
          case atStart => exact ⟨0, by go_num, ⟨by omega, by omega⟩, by omega, Lib.hid (fun j _ h => absurd h (by omega)), HB2⟩
          case round =>
            rename World => wz
            obtain ⟨k, rfl, ⟨hm, hm'⟩, hki, HNO, HB3⟩ := hrel
            have r2 := HCI.out wz HB3.out
            obtain ⟨gm1, rfl⟩ : ∃ gm1, gk = gm1 + 1 := ⟨gk - 1, by omega⟩
            by_cases hke : k = i
            · subst hke
              have hlt : ¬ (k : Int) < (k : Int) := by omega
              have HF : Hid (namedB (nmsA A (k + 1)) (A.drop (k + 1)) = Z) := Lib.hid (by
                have hc : cn = false := by
                  cases cn with
                  | false => rfl
                  | true =>
                    obtain ⟨j, hj, hjk, he⟩ := HMEM.out.1 rfl
                    exact absurd he (HNO.out j hj hjk)
                rw [← HQ2.out, hc]; rfl)
              clear hm hm'
              go_wp2_with fail
              obtain ⟨hj, hj'⟩ := HJJ.out
              go_roundg g1
              case measure => omega
              case rel => exact ⟨k + 1, by first | rfl | go_num, ⟨by omega, by omega⟩, hin2, HF, HB3⟩
            · have hkl : k < i := by omega
              obtain ⟨y, hy, hyc⟩ := HCELL.out k hkl
              have s0 := hyc _ HB3.out
              have k1 : (k : Int).toNat = k := by omega
              have k2 : (0 : Int) ≤ (k : Int) := by omega
              have k3 : (k : Int) < (n : Int) := by omega
              have k5 : (k : Int) < (i : Int) := by omega
              have k4 : IntKind.i64.wrap ((k : Int) + 1) = ((k + 1 : Nat) : Int) := by rw [IntWalk.i64_in _ (by omega)]; omega
              obtain ⟨eq, heq⟩ : ∃ eq, (y.toList == nb.toList) = eq := ⟨_, rfl⟩
              have HEQ : Hid ((eq = true → y.data.toList = nb.data.toList) ∧ (eq = false → y.data.toList ≠ nb.data.toList)) := Lib.hid (by
                rw [← heq, ByteArray.toList_eq, ByteArray.toList_eq]
                exact ⟨fun h => by simpa using h, fun h => by simpa using h⟩)
              have hkA : k < A.length := by have := HAL.out; omega
              have HYV : Hid ((A[k]'hkA).1 = y.data.toList) := Lib.hid (hy hkA)
              have HMM := Lib.hid (And.intro hm hm')
              clear hy hyc hm hm' hke
              cases eq with
              | true =>
                have HF : Hid (false = Z) := Lib.hid (by
                  have hc : cn = true := HMEM.out.2 ⟨k, hkA, hkl, by rw [HYV.out]; exact HEQ.out.1 rfl⟩
                  rw [← HQ2.out, hc]; rfl)
                go_wp2_with fail
                go_region
                all_goals
                  go_wp2_with fail
                  go_ret
                  exact ⟨ret_b HF.out, HB3.out.drew⟩
              | false =>
                have HNN : Hid (∀ (j : Nat) (hj : j < A.length), j < k + 1 → A[j].1 ≠ nb.data.toList) := Lib.hid fun j hj h => by
                  by_cases hjk : j = k
                  · subst hjk; rw [HYV.out]; exact HEQ.out.2 rfl
                  · exact HNO.out j hj (by omega)
                go_wp2_with fail
                go_region
                all_goals
                  go_wp2_with fail
                  obtain ⟨hm, hm'⟩ := HMM.out
                  go_roundg gm1
                  case measure => omega
                  case rel => exact ⟨k + 1, by first | rfl | go_num, ⟨by omega, by omega⟩, by omega, HNN, Lib.hid HB3.out.drew⟩
set_option maxRecDepth 100000 in
theorem rma_none (a : Option Addr) (c : Nat) (w : World) :
    Calls Tryz.prog 77 #[.slice a 0 c] w fun e w' => e = .returned (.bool true) ∧ Below w.heap.size w w' := by
  go_enter Tryz.func77, Tryz.ntmps77
  go_wp2_with fail
  refine wp_loop_rounds 1 ?_; rw [rounds_succ]
  go_wp2_with fail
  go_ret
  exact ⟨rfl, Below.refl _ _⟩
theorem rma_any (A : List (List UInt8 × List Cel)) (u : Value) (w : World) (hA : ArgSl u A w) (hs : ArgsSm A) :
    Calls Tryz.prog 77 #[u] w fun e w' => e = .returned (.bool (namedB [] A)) ∧ Below w.heap.size w w' := by
  rcases hA with ⟨a, c, rfl, rfl⟩ | ⟨b, off, cap, rfl, hrow, hpos⟩
  · exact rma_none a c w
  · exact rma_go A b off cap w hrow hs
end Go.Proofs.YtbejhdhhkpllfaaGreatDoor
namespace Go.Proofs.YtbejhdhhkpllfaaGreatDoor
open Go.RowKit
set_option maxRecDepth 100000 in
set_option maxHeartbeats 4000000 in
theorem rmd_go (D : List (List UInt8 × List (List UInt8 × List Cel))) (b off cap : Nat) (w : World) (hA : XRow ArgSl b off D w) (hs : DirsSm D) :
    Calls Tryz.prog 78 #[.slice (some ⟨b, off, none⟩) D.length cap] w fun e w' => e = .returned (.bool (D.all dirB)) ∧ Below w.heap.size w w' := by
  have HA := Lib.hid hA
  have HS := Lib.hid hs.2
  have hl := hs.1
  obtain ⟨Z, hZ⟩ : ∃ Z, D.all dirB = Z := ⟨_, rfl⟩
  have HZ0 : Hid ((D.drop 0).all dirB = Z) := Lib.hid hZ
  rw [hZ]
  obtain ⟨n, hn⟩ : ∃ n, D.length = n := ⟨_, rfl⟩
  have HN := Lib.hid hn
  rw [hn] at hl ⊢
  clear hA hs hZ hn
  go_enter Tryz.func78, Tryz.ntmps78
  go_wp2_with fail
  go_loopg [3] (n + 1) (fun gk iv wr => ∃ i : Nat, iv = .int .i64 (i : Int) ∧ (gk + i ≤ n + 1 ∧ n + 1 ≤ gk + i) ∧ i ≤ n ∧ Hid ((D.drop i).all dirB = Z) ∧ Hid (Below w.heap.size w wr))
  case atStart => exact ⟨0, by go_num, ⟨by omega, by omega⟩, by omega, HZ0, Lib.hid (Below.refl _ _)⟩
  case round =>
    clear HZ0
    rename World => wr
    obtain ⟨i, rfl, ⟨hj, hj'⟩, hin, HQ, HB⟩ := hrel
    obtain ⟨g1, rfl⟩ : ∃ g1, gk = g1 + 1 := ⟨gk - 1, by omega⟩
    by_cases hge : i = n
    · subst hge
      have hlt : ¬ (i : Int) < (i : Int) := by omega
      have HF : Hid (true = Z) := Lib.hid (by
        have := HQ.out
        rw [List.drop_of_length_le (by have := HN.out; omega)] at this
        exact this)
      clear hj hj'
      go_wp2_with fail
      go_ret
      exact ⟨ret_b HF.out, HB.out⟩
    · have hil : i < D.length := by have := HN.out; omega
      have i1 : (i : Int).toNat = i := by omega
      have i2 : (0 : Int) ≤ (i : Int) := by omega
      have i3 : (i : Int) < (n : Int) := by omega
      have i4 : IntKind.i64.wrap ((i : Int) + 1) = ((i + 1 : Nat) : Int) := by rw [IntWalk.i64_in _ (by omega)]; omega
      have hin2 : i + 1 ≤ n := by omega
      have hbw := HB.out
      obtain ⟨e0, a, vn, c, e1, hy⟩ := HA.out i hil
      obtain ⟨hx1, hx2⟩ := HS.out D[i] (List.getElem_mem hil)
      have r0 : wr.cell? ⟨b, off + i * 2, none⟩ = some (.string ⟨(D[i]'hil).1.toArray⟩) := (hbw.cell (p := ⟨b, _, none⟩) (lt_of_cell e0)).trans e0
      have r1 : wr.cell? ⟨b, off + i * 2 + 1, none⟩ = some (.slice a vn c) := (hbw.cell (p := ⟨b, _, none⟩) (lt_of_cell e0)).trans e1
      have hq := HQ.out
      rw [List.drop_eq_getElem_cons hil, List.all_cons] at hq
      have HMV : Hid (∀ W, Below w.heap.size w W → Calls Tryz.prog 77 #[.slice a vn c] W fun e w' => e = .returned (.bool (namedB [] (D[i]'hil).2)) ∧ Below W.heap.size W w') := Lib.hid fun W hW => rma_any _ _ W (ArgSl.below hy hW) hx2
      obtain ⟨nb, hnb⟩ : ∃ nb : ByteArray, (⟨(D[i]'hil).1.toArray⟩ : ByteArray) = nb := ⟨_, rfl⟩
      have hnd : (D[i]'hil).1 = nb.data.toList := by rw [← hnb]
      have hnz : nb.size ≤ 1000000 := by rw [← bsz, ← hnd]; exact hx1
      rw [hnb] at r0
      have hdb : dirB (D[i]'hil) = (nameB nb.data.toList && namedB [] (D[i]'hil).2) := by unfold dirB; rw [hnd]
      rw [hdb] at hq
      have HNM : Hid (∀ W, Calls Tryz.prog 44 #[.string nb] W fun e w' => e = .returned (.bool (nameB nb.data.toList)) ∧ W = w') := Lib.hid fun W => rname_any nb hnz W
      have HQ2 := Lib.hid hq
      have HJJ := Lib.hid (And.intro hj hj')
      clear hj hj' hq hdb hnb hnd hnz hy hx1 hx2 e0 e1 hbw hge HQ
      generalize namedB [] (D[i]'hil).2 = lb at *
      generalize nameB nb.data.toList = nbb at *
      clear hil
      cases nbb with
      | false =>
        have HF : Hid (false = Z) := Lib.hid (by rw [← HQ2.out]; simp)
        go_wp2_with fail
        refine (HNM.out _).mono ?_; rintro e w2 ⟨rfl, rfl⟩
        go_wp2_with fail
        go_ret
        exact ⟨ret_b HF.out, HB.out⟩
      | true =>
        cases lb with
        | false =>
          have HF : Hid (false = Z) := Lib.hid (by rw [← HQ2.out]; simp)
          go_wp2_with fail
          refine (HNM.out _).mono ?_; rintro e w2 ⟨rfl, rfl⟩
          go_wp2_with fail
          refine (HMV.out _ HB.out).mono ?_; rintro e w2 ⟨rfl, hb⟩
          have HB2 : Hid (Below w.heap.size w w2) := Lib.hid (HB.out.trans (hb.mono HB.out.size))
          clear hb
          go_wp2_with fail
          go_ret
          exact ⟨ret_b HF.out, HB2.out⟩
        | true =>
          have HF : Hid ((D.drop (i + 1)).all dirB = Z) := Lib.hid (by rw [← HQ2.out]; simp)
          go_wp2_with fail
          refine (HNM.out _).mono ?_; rintro e w2 ⟨rfl, rfl⟩
          go_wp2_with fail
          refine (HMV.out _ HB.out).mono ?_; rintro e w2 ⟨rfl, hb⟩
          have HB2 : Hid (Below w.heap.size w w2) := Lib.hid (HB.out.trans (hb.mono HB.out.size))
          clear hb
          go_wp2_with fail
          obtain ⟨hj, hj'⟩ := HJJ.out
          go_roundg g1
          case measure => omega
          case rel => exact ⟨i + 1, by first | rfl | go_num, ⟨by omega, by omega⟩, hin2, HF, HB2⟩
set_option maxRecDepth 100000 in
theorem rmd_none (a : Option Addr) (c : Nat) (w : World) :
    Calls Tryz.prog 78 #[.slice a 0 c] w fun e w' => e = .returned (.bool true) ∧ Below w.heap.size w w' := by
  go_enter Tryz.func78, Tryz.ntmps78
  go_wp2_with fail
  refine wp_loop_rounds 1 ?_; rw [rounds_succ]
  go_wp2_with fail
  go_ret
  exact ⟨rfl, Below.refl _ _⟩
theorem rmd_any (D : List (List UInt8 × List (List UInt8 × List Cel))) (u : Value) (w : World) (hA : DirSl u D w) (hs : DirsSm D) :
    Calls Tryz.prog 78 #[u] w fun e w' => e = .returned (.bool (D.all dirB)) ∧ Below w.heap.size w w' := by
  rcases hA with ⟨a, c, rfl, rfl⟩ | ⟨b, off, cap, rfl, hrow, hpos⟩
  · exact rmd_none a c w
  · exact rmd_go D b off cap w hrow hs
end Go.Proofs.YtbejhdhhkpllfaaGreatDoor
namespace Go.Proofs.YtbejhdhhkpllfaaGreatDoor
open Go.RowKit
def prvB (ws : List UInt8) (i : Nat) : UInt8 := if i = 0 then 2 else ws.getD (i - 1) 2
set_option maxRecDepth 100000 in
set_option maxHeartbeats 4000000 in
theorem rmt_go (nm : ByteArray) (nb : Bool) (a : Option Addr) (c : Nat) (ws : List UInt8) (hl : ws.length ≤ 8) (w : World) (hu : BSl (.slice a ws.length c) ws w)
    (HNM : Hid (∀ W, Calls Tryz.prog 44 #[.string nm] W fun e w' => e = .returned (.bool nb) ∧ W = w')) :
    Calls Tryz.prog 66 #[.agg #[.string nm, .slice a ws.length c]] w fun e w' => e = .returned (.bool (nb && typB 2 ws)) ∧ Below w.heap.size w w' := by
  obtain ⟨Z, hZ⟩ : ∃ Z, typB 2 ws = Z := ⟨_, rfl⟩
  have HT0 : Hid (typB (prvB ws 0) (ws.drop 0) = Z) := Lib.hid hZ
  rw [hZ]
  have HRW : Hid (0 < ws.length → ∃ b off, a = some ⟨b, off, none⟩ ∧ b < w.heap.size ∧ BRow b off ws w) := Lib.hid fun h => by
    rcases hu with ⟨a2, c2, e, rfl⟩ | ⟨b, off, cap, e, h2, h3⟩
    · simp at h
    · injection e with e1 e2 e3
      exact ⟨b, off, e1, lt_of_cell (h2 0 h3), h2⟩
  obtain ⟨n, hn⟩ : ∃ n, ws.length = n := ⟨_, rfl⟩
  have HN := Lib.hid hn
  rw [hn] at hl ⊢
  have hl8 : (n : Int) ≤ 8 := by omega
  clear hu hZ hn
  go_enter Tryz.func66, Tryz.ntmps66
  go_upto_region 1 with fail
  obtain ⟨w1, hw1⟩ : ∃ w1, w.alloc (.cells #[.string nm, .slice a n c] 44 (0, 0)) = w1 := ⟨_, rfl⟩
  have HB1 : Hid (Below w.heap.size w w1) := Lib.hid (by rw [← hw1]; exact (Below.refl _ _).alloc (Nat.le_refl _) _)
  have k1 : w1.heap[w.heap.size]? = some (.cells #[.string nm, .slice a n c] 44 (0, 0)) := by rw [← hw1]; exact heap_new _ _ _ rfl
  obtain ⟨d0, d1, _, _⟩ := ref_cells k1
  rw [hw1]
  clear hw1 k1
  go_wp2_with fail
  go_loopg [3] (n + 1) (fun gk iv wr => ∃ i : Nat, iv = .int .i64 (i : Int) ∧ (gk + i ≤ n + 1 ∧ n + 1 ≤ gk + i) ∧ i ≤ n ∧ Hid (typB (prvB ws i) (ws.drop i) = Z) ∧ wr = w1)
  case atStart => exact ⟨0, by go_num, ⟨by omega, by omega⟩, by omega, HT0, rfl⟩
  case round =>
    clear HT0
    rename World => wr
    obtain ⟨i, rfl, ⟨hj, hj'⟩, hin, HTB, rfl⟩ := hrel
    obtain ⟨g1, rfl⟩ : ∃ g1, gk = g1 + 1 := ⟨gk - 1, by omega⟩
    by_cases hge : i = n
    · subst hge
      have hlt : ¬ (i : Int) < (i : Int) := by omega
      have hz : Z = true := by
        have := HTB.out
        rw [List.drop_of_length_le (by have := HN.out; omega)] at this
        exact this.symm
      have HZ := Lib.hid hz
      clear hz hj hj'
      go_wp2_with fail
      refine (HNM.out _).mono ?_; rintro e w2 ⟨rfl, rfl⟩
      go_wp2_with fail
      go_ret
      exact ⟨ret_b (by rw [HZ.out, Bool.and_true]), HB1.out⟩
    · have hil : i < ws.length := by have := HN.out; omega
      obtain ⟨b, off, rfl, hbw, hrow⟩ := HRW.out (by omega)
      have hx := (HB1.out.cell (p := ⟨b, off + i, none⟩) hbw).trans (hrow i hil)
      have htb := HTB.out
      rw [List.drop_eq_getElem_cons hil, typB_step] at htb
      have hnx : prvB ws (i + 1) = ws[i]'hil := by
        unfold prvB
        rw [if_neg (by omega), Nat.add_sub_cancel, List.getD_eq_getElem?_getD, List.getElem?_eq_getElem hil]; rfl
      have HPV : Hid (∀ k, i = k + 1 → ∃ y : UInt8, prvB ws i = y ∧ wr.cell? ⟨b, off + k, none⟩ = some (.int .u8 (y.toNat : Int))) := Lib.hid fun k hk => by
        have hkl : k < ws.length := by omega
        refine ⟨ws[k], ?_, (HB1.out.cell (p := ⟨b, off + k, none⟩) hbw).trans (hrow k hkl)⟩
        unfold prvB
        rw [if_neg (by omega), show i - 1 = k by omega, List.getD_eq_getElem?_getD, List.getElem?_eq_getElem hkl]; rfl
      have hp0 : i = 0 → prvB ws i = 2 := fun h => by unfold prvB; rw [if_pos h]
      have HP0 := Lib.hid hp0
      generalize ws[i]'hil = x at hx htb hnx
      obtain ⟨xi, hxi⟩ : ∃ xi : Int, (x.toNat : Int) = xi := ⟨_, rfl⟩
      rw [hxi] at hx
      have i1 : (i : Int).toNat = i := by omega
      have i2 : (0 : Int) ≤ (i : Int) := by omega
      have i3 : (i : Int) < (n : Int) := by omega
      have i4 : IntKind.i64.wrap ((i : Int) + 1) = ((i + 1 : Nat) : Int) := by rw [IntWalk.i64_in _ (by omega)]; omega
      have HJJ := Lib.hid (And.intro hj hj')
      have HNX := Lib.hid hnx
      have hin2 : i + 1 ≤ n := by omega
      clear hj hj' hrow hbw hil HRW HTB hp0 hnx hge
      generalize prvB ws i = lst at *
      have HON : (typB x (ws.drop (i + 1)) = Z) → Hid (typB (prvB ws (i + 1)) (ws.drop (i + 1)) = Z) := fun h => Lib.hid (by rw [HNX.out]; exact h)
      by_cases hx2 : x = 2
      · subst hx2
        have hx3 : xi = 2 := by rw [← hxi]; rfl
        subst hx3
        have HTN := HON (by rw [← htb]; rfl)
        clear htb hxi HON
        by_cases hi0 : i = 0
        · have h00 : ¬ (0 : Int) < (i : Int) := by omega
          clear hi0
          go_wp2_with fail
          obtain ⟨hj, hj'⟩ := HJJ.out
          go_roundg g1
          case measure => omega
          case rel => exact ⟨i + 1, by first | rfl | go_num, ⟨by omega, by omega⟩, hin2, HTN, rfl⟩
        · have h00 : (0 : Int) < (i : Int) := by omega
          go_wp2_with fail
          obtain ⟨hj, hj'⟩ := HJJ.out
          go_roundg g1
          case measure => omega
          case rel => exact ⟨i + 1, by first | rfl | go_num, ⟨by omega, by omega⟩, hin2, HTN, rfl⟩
      · by_cases hx1 : x = 1
        · subst hx1
          have hx3 : xi = 1 := by rw [← hxi]; rfl
          subst hx3
          by_cases hi0 : i = 0
          · have h00 : ¬ (0 : Int) < (i : Int) := by omega
            have hl2 := HP0.out hi0
            have HTN := HON (by rw [← htb, hl2]; rfl)
            clear htb hxi HON hl2 hi0
            go_wp2_with fail
            obtain ⟨hj, hj'⟩ := HJJ.out
            go_roundg g1
            case measure => omega
            case rel => exact ⟨i + 1, by first | rfl | go_num, ⟨by omega, by omega⟩, hin2, HTN, rfl⟩
          · have h00 : (0 : Int) < (i : Int) := by omega
            obtain ⟨k, hk⟩ : ∃ k, i = k + 1 := ⟨i - 1, by omega⟩
            obtain ⟨y, hy, hyc⟩ := HPV.out k hk
            obtain ⟨yi, hyi⟩ : ∃ yi : Int, (y.toNat : Int) = yi := ⟨_, rfl⟩
            rw [hyi] at hyc
            subst hy
            have j1 : IntKind.i64.wrap ((i : Int) - 1) = (k : Int) := by rw [IntWalk.i64_in _ (by omega)]; omega
            have j2 : (k : Int).toNat = k := by omega
            have j3 : (0 : Int) ≤ (k : Int) := by omega
            have j4 : (k : Int) < (n : Int) := by omega
            by_cases hls : lst = 1
            · subst hls
              have hy1 : yi = 1 := by rw [← hyi]; rfl
              subst hy1
              have HF : Hid (Z = false) := Lib.hid (by rw [← htb]; rfl)
              clear htb hxi HON hyi hk hi0
              go_wp2_with fail
              go_ret
              exact ⟨ret_b (by rw [HF.out, Bool.and_false]), HB1.out⟩
            · have hy1 : ¬ yi = 1 := fun h => hls (UInt8.toNat_inj.1 (by have : ((1 : UInt8).toNat : Int) = 1 := rfl; omega))
              have hyb : (yi == 1) = false := by simpa using hy1
              have hlb : (lst == 1) = false := by simpa using hls
              have HTN := HON (by rw [← htb, hlb]; rfl)
              clear htb hxi HON hyi hls hlb hk hi0
              go_wp2_with fail
              obtain ⟨hj, hj'⟩ := HJJ.out
              go_roundg g1
              case measure => omega
              case rel => exact ⟨i + 1, by first | rfl | go_num, ⟨by omega, by omega⟩, hin2, HTN, rfl⟩
        · have h1 : ¬ xi = 1 := fun h => hx1 (UInt8.toNat_inj.1 (by have : ((1 : UInt8).toNat : Int) = 1 := rfl; omega))
          have h2 : ¬ xi = 2 := fun h => hx2 (UInt8.toNat_inj.1 (by have : ((2 : UInt8).toNat : Int) = 2 := rfl; omega))
          have h1b : (xi == 1) = false := by simpa using h1
          have h2b : (xi == 2) = false := by simpa using h2
          have HF : Hid (Z = false) := Lib.hid (by
            rw [← htb, (by simpa using hx1 : (x == 1) = false), (by simpa using hx2 : (x == 2) = false)]; rfl)
          clear htb hxi HON hx1 hx2
          go_wp2_with fail
          go_ret
          exact ⟨ret_b (by rw [HF.out, Bool.and_false]), HB1.out⟩
set_option maxRecDepth 100000 in
theorem rmt_long (nm : ByteArray) (a : Option Addr) (n c : Nat) (hn : ¬ (n : Int) ≤ 8) (w : World) :
    Calls Tryz.prog 66 #[.agg #[.string nm, .slice a n c]] w fun e w' => e = .returned (.bool false) ∧ Below w.heap.size w w' := by
  have h0 : (0 : Int) < (n : Int) := by omega
  have HB : Hid (Below w.heap.size w (w.alloc (.cells #[.string nm, .slice a n c] 44 (0, 0)))) := Lib.hid ((Below.refl _ _).alloc (Nat.le_refl _) _)
  go_enter Tryz.func66, Tryz.ntmps66
  go_wp2_with fail
  refine wp_loop_rounds 1 ?_; rw [rounds_succ]
  go_wp2_with fail
  go_ret
  exact ⟨rfl, HB.out⟩
end Go.Proofs.YtbejhdhhkpllfaaGreatDoor
namespace Go.Proofs.YtbejhdhhkpllfaaGreatDoor
open Go.RowKit
theorem rmt_big (nm : ByteArray) (ws : List UInt8) (u : Value) (w : World) (hu : BSl u ws w) (hn : nm.size ≤ 9223372036854775807) :
    Calls Tryz.prog 66 #[.agg #[.string nm, u]] w fun e w' => e = .returned (.bool (ttB nm.data.toList ws)) ∧ Below w.heap.size w w' := by
  obtain ⟨a, c, rfl⟩ := hu.form
  unfold ttB
  by_cases hl : ws.length ≤ 8
  · rw [decide_eq_true hl, Bool.true_and]
    exact rmt_go nm _ a c ws hl w hu (Lib.hid fun W => rname_big nm hn W)
  · rw [decide_eq_false hl, Bool.false_and, Bool.and_false]
    exact rmt_long nm a _ c (by omega) w
end Go.Proofs.YtbejhdhhkpllfaaGreatDoor
