/- Walks and plain laws of this proof, joined from smaller texts (3). -/
import Derived.Lib.AppendZerosOnto
import Derived.Laws.IdiomCopy
import Derived.Laws.AppendOwnNone
import Derived.Deep.LoopGhost
import Derived.RangeFuncNested
import Derived.RangeFuncBound
import Derived.RangeFuncCalls
import Derived.RangeFuncLeaves
import Derived.Shelf.Abstract
import Derived.Shelf.RegionOpen
import Derived.WalkKit
import Derived.OwnWalkIn
import Derived.TacticsInMore
import Derived.LoopNIn
import Derived.LoopIn
import Derived.Test.YtgacpmdebjndkaaGreatDoorRows
import Derived.WalkSpells
import Derived.Handy
import Derived.Lib.Hide
import Derived.Deep.Light
import Derived.Lib.ItoaLen
import Derived.Test.YtgacpmdebjndkaaGreatDoorShelf
import Derived.ProofKit
import Derived.OpenShut
import Derived.Lib.SmallJoins
import Derived.Deep.Slices
import Derived.Deep.Fields
import Derived.ChangeSame
import Derived.Deep.SlicePairs
import Derived.Deep.DeepCutAuto
import Derived.Test.YtgacpmdebjndkaaGreatDoorRo2
set_option linter.unusedSimpArgs false
set_option linter.unusedVariables false
namespace Go.Proofs.YtgacpmdebjndkaaGreatDoor
open Go.RowKit Go.Lib
/-- The cells of names with slices behind them. -/
def xFlat {α : Type} : List (List UInt8 × α) → List Value → List Value
  | (n, _) :: r, u :: us => .string ⟨n.toArray⟩ :: u :: xFlat r us
  | _, _ => []
theorem xFlat_len {α : Type} : ∀ (L : List (List UInt8 × α)) (U : List Value), U.length = L.length → (xFlat L U).length = L.length * 2
  | [], U, h => by cases U <;> simp [xFlat]
  | (n, x) :: r, [], h => by simp at h
  | (n, x) :: r, u :: us, h => by
    have := xFlat_len r us (by simpa using h)
    simp only [xFlat, List.length_cons, this]; omega
/-- A row of names with slices behind them, the call's own; whatever is behind each is meant by Own. -/
def OwnX {α : Type} (T : TypeId) (Own : Value → α → World → Prop) (B : Nat) (v : Value) (L : List (List UInt8 × α)) (W : World) : Prop :=
  ∃ U : List Value, U.length = L.length ∧ W.ownsRow B T 2 v L.length (xFlat L U) ∧ ∀ (i : Nat) (h : i < L.length) (h' : i < U.length), (∃ a n c, U[i] = .slice a n c) ∧ Own U[i] L[i].2 W
section
variable {α : Type} {T : TypeId} {Own : Value → α → World → Prop} {B : Nat} {v : Value} {L : List (List UInt8 × α)} {W W' : World}
theorem OwnX.nil (W : World) : OwnX T Own B (.slice none 0 0) [] W := ⟨[], rfl, World.ownsRow_nil W B T 2, fun i h => by simp at h⟩
theorem OwnX.form (h : OwnX T Own B v L W) : ∃ a c, v = .slice a L.length c := by
  obtain ⟨U, h1, h2, h3⟩ := h
  rcases h2.2 with ⟨e, e2⟩ | ⟨g, cap, cur, e, _⟩
  · exact ⟨none, 0, by rw [e, e2]⟩
  · exact ⟨_, _, e⟩
/-- What is kept where all blocks from B on stay that were there. -/
def Kp (B : Nat) (W W' : World) : Prop := ∀ (k : Nat) (o : Obj), B ≤ k → W.heap[k]? = some o → W'.heap[k]? = some o
theorem Kp.mk {p m : Nat} (h : MK p m W W') (hp : p < B) (hm : m < B) : Kp B W W' := fun k o hk ho => h.2 k o ho (by omega) (by omega)
theorem Kp.below (h : Below W.heap.size W W') : Kp B W W' := fun k o hk ho => (h.block k (heap_lt ho)).trans ho
theorem Kp.trans {W'' : World} (h : Kp B W W') (h' : Kp B W' W'') : Kp B W W'' := fun k o hk ho => h' k o hk (h k o hk ho)
end
abbrev OwnA (B : Nat) : Value → List (List UInt8 × List Cel) → World → Prop := OwnX 82 (OwnC B) B
abbrev OwnD (B : Nat) : Value → List (List UInt8 × List (List UInt8 × List Cel)) → World → Prop := OwnX 61 (OwnA B) B
end Go.Proofs.YtgacpmdebjndkaaGreatDoor
namespace Go.Proofs.YtgacpmdebjndkaaGreatDoor
open Go.RowKit Go.Lib
/-- Bytes in a row that the call made; none are in no row. -/
def BytW (B : Nat) (u : Value) (ws : List UInt8) (W : World) : Prop := Own B u ws W ∧ (ws = [] → u = .slice none 0 0)
theorem BytW.nil (B : Nat) (W : World) : BytW B (.slice none 0 0) [] W := ⟨Own.nil _ _, fun _ => rfl⟩
theorem BytW.form {B : Nat} {v : Value} {l : List UInt8} {W : World} (h : BytW B v l W) : ∃ a n c, v = .slice a n c := by
  rcases h.1.2 with ⟨e1, _⟩ | ⟨g, cap, cur, e1, _⟩
  · exact ⟨_, _, _, e1⟩
  · exact ⟨_, _, _, e1⟩
theorem ref_cells {A : Nat} {W : World} {x y : Value} (h : W.heap[A]? = some (.cells #[x, y] 38 (0, 0))) : W.cell? ⟨A, 0, none⟩ = some x ∧ W.cell? ⟨A, 1, none⟩ = some y ∧ W.frozen? ⟨A, 0, none⟩ = false ∧ W.frozen? ⟨A, 1, none⟩ = false := by
  refine ⟨?_, ?_, Lib.frozen_of_heap h 0, Lib.frozen_of_heap h 1⟩
  all_goals (rw [Lib.cell_of_heap h]; rfl)
end Go.Proofs.YtgacpmdebjndkaaGreatDoor
namespace Go.Proofs.YtgacpmdebjndkaaGreatDoor
open Go.RowKit Go.Lib
/-- A row of names with slices behind them, read. -/
def XRow {α : Type} (Sl : Value → α → World → Prop) (b off : Nat) (L : List (List UInt8 × α)) (W : World) : Prop := ∀ (i : Nat) (h : i < L.length), W.cell? ⟨b, off + i * 2, none⟩ = some (.string ⟨L[i].1.toArray⟩) ∧ ∃ a n c, W.cell? ⟨b, off + i * 2 + 1, none⟩ = some (.slice a n c) ∧ Sl (.slice a n c) L[i].2 W
theorem XRow.below {α : Type} {Sl : Value → α → World → Prop} {b off : Nat} {L : List (List UInt8 × α)} {w w' : World} (h : XRow Sl b off L w) (hS : ∀ u x, Sl u x w → Sl u x w') (hb : Below w.heap.size w w') : XRow Sl b off L w' := by
  intro i hi
  obtain ⟨h0, a, n, c, h1, h2⟩ := h i hi
  have hlt := lt_of_cell h0
  exact ⟨(hb.cell (p := ⟨b, _, none⟩) hlt).trans h0, a, n, c, (hb.cell (p := ⟨b, _, none⟩) hlt).trans h1, hS _ _ h2⟩
def XSl {α : Type} (Sl : Value → α → World → Prop) (v : Value) (L : List (List UInt8 × α)) (W : World) : Prop := (∃ a cap, v = .slice a 0 cap ∧ L = []) ∨ ∃ b off cap, v = .slice (some ⟨b, off, none⟩) L.length cap ∧ XRow Sl b off L W ∧ 0 < L.length
theorem XSl.below {α : Type} {Sl : Value → α → World → Prop} {v : Value} {L : List (List UInt8 × α)} {w w' : World} (h : XSl Sl v L w) (hS : ∀ u x, Sl u x w → Sl u x w') (hb : Below w.heap.size w w') : XSl Sl v L w' := by
  rcases h with h | ⟨b, off, cap, h1, h2, h3⟩
  · exact Or.inl h
  · exact Or.inr ⟨b, off, cap, h1, h2.below hS hb, h3⟩
abbrev ArgSl : Value → List (List UInt8 × List Cel) → World → Prop := XSl CelSl
abbrev DirSl : Value → List (List UInt8 × List (List UInt8 × List Cel)) → World → Prop := XSl ArgSl
theorem ArgSl.below {v : Value} {L : List (List UInt8 × List Cel)} {w w' : World} (h : ArgSl v L w) (hb : Below w.heap.size w w') : ArgSl v L w' := XSl.below h (fun _ _ h => h.below hb) hb
theorem DirSl.below {v : Value} {L : List (List UInt8 × List (List UInt8 × List Cel))} {w w' : World} (h : DirSl v L w) (hb : Below w.heap.size w w') : DirSl v L w' := XSl.below h (fun _ _ h => ArgSl.below h hb) hb
theorem xFlat_get {α : Type} : ∀ (L : List (List UInt8 × α)) (U : List Value) (i : Nat) (h : i < L.length) (h' : i < U.length), U.length = L.length → (xFlat L U)[i * 2]? = some (.string ⟨L[i].1.toArray⟩) ∧ (xFlat L U)[i * 2 + 1]? = some U[i]
  | [], U, i, h, h', _ => by simp at h
  | (n, x) :: r, [], i, h, h', _ => by simp at h'
  | (n, x) :: r, u :: us, 0, h, h', _ => by simp [xFlat]
  | (n, x) :: r, u :: us, i + 1, h, h', hl => by
    have ih := xFlat_get r us i (by simpa using h) (by simpa using h') (by simpa using hl)
    rw [show (i + 1) * 2 = i * 2 + 1 + 1 from by omega]
    simp only [xFlat, List.getElem?_cons_succ, List.getElem_cons_succ]
    exact ih
theorem OwnX.xsl {α : Type} {T : TypeId} {Own Sl : Value → α → World → Prop} {B : Nat} {v : Value} {L : List (List UInt8 × α)} {W : World} (h : OwnX T Own B v L W) (hS : ∀ u x, Own u x W → Sl u x W) : XSl Sl v L W := by
  obtain ⟨U, hU, h2, h3⟩ := h
  rcases h2.2 with ⟨rfl, hz⟩ | ⟨g, cap, cur, rfl, hB, hg, hn, hc, hcs, ht⟩
  · exact Or.inl ⟨_, _, rfl, List.eq_nil_of_length_eq_zero hz⟩
  · by_cases h0 : L = []
    · subst h0
      exact Or.inl ⟨_, _, rfl, rfl⟩
    refine Or.inr ⟨g, 0, cap, rfl, ?_, List.length_pos_iff.2 h0⟩
    intro i hi
    obtain ⟨g0, g1⟩ := xFlat_get L U i hi (by omega) hU
    have F : ∀ j u, (xFlat L U)[j]? = some u → W.cell? ⟨g, 0 + j, none⟩ = some u := by
      intro j u hj
      have hjl : j < L.length * 2 := by rw [← xFlat_len L U hU]; exact (List.getElem?_eq_some_iff.1 hj).1
      rw [← ht, List.getElem?_take, if_pos hjl] at hj
      rw [Nat.zero_add]
      refine (Lib.cell_of_heap hg j).trans ?_
      simpa using hj
    obtain ⟨⟨a, n, c, e⟩, hx⟩ := h3 i hi (by omega)
    have e1 := F _ _ g1
    rw [e] at e1 hx
    exact ⟨F _ _ g0, a, n, c, e1, hS _ _ hx⟩
theorem OwnA.sl {B : Nat} {v : Value} {L : List (List UInt8 × List Cel)} {W : World} (h : OwnA B v L W) : ArgSl v L W := OwnX.xsl h fun u x hx => hx.sl
theorem OwnD.sl {B : Nat} {v : Value} {L : List (List UInt8 × List (List UInt8 × List Cel))} {W : World} (h : OwnD B v L W) : DirSl v L W := OwnX.xsl h fun u x hx => OwnA.sl hx
end Go.Proofs.YtgacpmdebjndkaaGreatDoor
namespace Go.Proofs.YtgacpmdebjndkaaGreatDoor
open Go.RowKit
def roomA : List (List UInt8 × List Cel) → Nat
  | [] => 0
  | x :: r => 4 * (x.2.length + 1) + 2 + roomA r
end Go.Proofs.YtgacpmdebjndkaaGreatDoor
namespace Go.Proofs.YtgacpmdebjndkaaGreatDoor
open Go.RowKit
/-- Arguments that may be, behind names. -/
def namedB : List (List UInt8) → List (List UInt8 × List Cel) → Bool
  | _, [] => true
  | nm, x :: r => !nm.contains x.1 && nameB x.1 && litB x.2 && namedB (x.1 :: nm) r
def ArgsSm (A : List (List UInt8 × List Cel)) : Prop := A.length ≤ 100000 ∧ ∀ x ∈ A, x.1.length ≤ 1000000 ∧ SmallV x.2
end Go.Proofs.YtgacpmdebjndkaaGreatDoor
namespace Go.Proofs.YtgacpmdebjndkaaGreatDoor
open Go.RowKit
def dirB (x : List UInt8 × List (List UInt8 × List Cel)) : Bool := nameB x.1 && namedB [] x.2
def DirsSm (D : List (List UInt8 × List (List UInt8 × List Cel))) : Prop := D.length ≤ 100000 ∧ ∀ x ∈ D, x.1.length ≤ 1000000 ∧ ArgsSm x.2
end Go.Proofs.YtgacpmdebjndkaaGreatDoor
namespace Go.Proofs.YtgacpmdebjndkaaGreatDoor
open Go.RowKit
def gaG : Nat → Nat → List (List UInt8 × List Cel) → Option Nat
  | 0, n, _ => some n
  | _ + 1, n, [] => some n
  | f + 1, n, x :: r => if greatV x.2 60 || decide (300 < x.1.length) then none else gaG f (n + x.2.length) r
def greatAB (A : List (List UInt8 × List Cel)) : Bool := match gaG 30 0 A with
  | none => true
  | some n => decide (20 < A.length) || decide (100 < n)
theorem great_len {V : List Cel} {m : Nat} (h : greatV V m = false) : V.length ≤ m := by
  unfold greatV at h
  rw [Bool.or_eq_false_iff] at h
  have := h.2
  simp at this
  exact this
set_option maxRecDepth 100000 in
set_option maxHeartbeats 4000000 in
theorem greatargs_row (A : List (List UInt8 × List Cel)) (b off cap : Nat) (hl : A.length ≤ 9223372036854775807) (w : World) (hr : XRow CelSl b off A w) (hsz : ∀ x ∈ A, x.1.length ≤ 9223372036854775807 ∧ x.2.length ≤ 9223372036854775807 ∧ ∀ c ∈ x.2, c.name.length ≤ 9223372036854775807 ∧ c.text.length ≤ 9223372036854775807) :
    Calls Tryz.prog 36 #[.slice (some ⟨b, off, none⟩) A.length cap] w fun e w' => e = .returned (.bool (greatAB A)) ∧ w = w' := by
  have HA := Lib.hid hr
  have HS := Lib.hid hsz
  obtain ⟨Z, hZ⟩ : ∃ Z, gaG 30 0 A = Z := ⟨_, rfl⟩
  have HZ0 : Hid (gaG (30 - 0) 0 (A.drop 0) = Z) := Lib.hid hZ
  have HG : Hid ((Z = none → greatAB A = true) ∧ ∀ n, Z = some n → greatAB A = (decide (20 < A.length) || decide (100 < n))) := Lib.hid (by
    unfold greatAB
    rw [hZ]
    exact ⟨fun h => by rw [h], fun n h => by rw [h]⟩)
  generalize greatAB A = G at HG ⊢
  obtain ⟨n, hn⟩ : ∃ n, A.length = n := ⟨_, rfl⟩
  have HN := Lib.hid hn
  rw [hn] at HG ⊢
  rw [hn] at hl
  clear hr hsz hZ hn
  go_enter Tryz.func36, Tryz.ntmps36
  go_wp2_with fail
  go_loopg [3, 4] 31 (fun gk nv iv wr => ∃ (i s : Nat), iv = .int .i64 (i : Int) ∧ nv = .int .i64 (s : Int) ∧ (gk + i ≤ 31 ∧ 31 ≤ gk + i) ∧ i ≤ 30 ∧ s ≤ 60 * i ∧ Hid (gaG (30 - i) s (A.drop i) = Z) ∧ w = wr)
  case atStart => exact ⟨0, 0, by go_num, by go_num, ⟨by omega, by omega⟩, by omega, by omega, HZ0, rfl⟩
  case round =>
    clear HZ0
    rename World => wr
    obtain ⟨i, s, rfl, rfl, ⟨hj, hj'⟩, hi, hs, HQ, rfl⟩ := hrel
    obtain ⟨g, rfl⟩ : ∃ g, gk = g + 1 := ⟨gk - 1, by omega⟩
    have HJJ := Lib.hid (And.intro hj hj')
    clear hj hj'
    by_cases hin : (i : Int) < (n : Int)
    · by_cases h30 : (i : Int) < 30
      · have hil : i < A.length := by have := HN.out; omega
        obtain ⟨e0, a, vn, c, e1, hy⟩ := HA.out i hil
        obtain ⟨z1, z2, z3⟩ := HS.out A[i] (List.getElem_mem hil)
        have hq := HQ.out
        obtain ⟨f, hf⟩ : ∃ f, 30 - i = f + 1 := ⟨30 - i - 1, by omega⟩
        rw [hf, List.drop_eq_getElem_cons hil, gaG] at hq
        have hf2 : 30 - (i + 1) = f := by omega
        have hvn : vn = (A[i]'hil).2.length := by
          rcases hy with ⟨a2, c2, e2, e3, _⟩ | ⟨b2, o2, c2, e2, e3, e4⟩
          · injection e2 with _ e2 _; rw [e2, e3]; rfl
          · injection e2
        have HC := Lib.hid (rgreat03_any _ _ 60 (by exact z2) (by decide) w hy z3)
        obtain ⟨nb, hnb⟩ : ∃ nb : ByteArray, (⟨(A[i]'hil).1.toArray⟩ : ByteArray) = nb := ⟨_, rfl⟩
        have hnl : (A[i]'hil).1.length = nb.size := by rw [← hnb]; simp [ByteArray.size]
        rw [hnb] at e0
        rw [hnl] at hq z1
        have hgl := fun h => great_len (V := (A[i]'hil).2) (m := 60) h
        rw [← hvn] at hq hgl z2
        have HQ2 := Lib.hid hq
        clear hq hy hnb hnl hvn z3
        generalize greatV (A[i]'hil).2 60 = gv at *
        have i1 : (i : Int).toNat = i := by omega
        have i2 : (0 : Int) ≤ (i : Int) := by omega
        have i4 : IntKind.i64.wrap ((i : Int) + 1) = ((i + 1 : Nat) : Int) := by rw [IntWalk.i64_in _ (by omega)]; omega
        cases gv with
        | true =>
          have HF : Hid (true = G) := Lib.hid (HG.out.1 (by rw [← HQ2.out]; rfl)).symm
          go_wp2_with fail
          refine HC.out.mono ?_; rintro e w2 ⟨rfl, rfl⟩
          go_wp2_with fail
          go_ret
          exact ⟨ret_b HF.out, rfl⟩
        | false =>
          have hv60 := hgl rfl
          by_cases h3 : (300 : Int) < (nb.size : Int)
          · have HF : Hid (true = G) := Lib.hid (HG.out.1 (by rw [← HQ2.out, decide_eq_true (by omega : 300 < nb.size)]; rfl)).symm
            clear hgl
            go_wp2_with fail
            refine HC.out.mono ?_; rintro e w2 ⟨rfl, rfl⟩
            go_wp2_with fail
            go_ret
            exact ⟨ret_b HF.out, rfl⟩
          · have HF : Hid (gaG (30 - (i + 1)) (s + vn) (A.drop (i + 1)) = Z) := Lib.hid (by rw [hf2, ← HQ2.out, decide_eq_false (by omega : ¬ 300 < nb.size)]; rfl)
            have i5 : IntKind.i64.wrap ((s : Int) + (vn : Int)) = ((s + vn : Nat) : Int) := by rw [IntWalk.i64_in _ (by omega)]; omega
            clear hgl
            go_wp2_with fail
            refine HC.out.mono ?_; rintro e w2 ⟨rfl, rfl⟩
            go_wp2_with fail
            obtain ⟨hj, hj'⟩ := HJJ.out
            go_roundg g
            case measure => omega
            case rel => exact ⟨i + 1, s + vn, rfl, rfl, ⟨by omega, by omega⟩, by omega, by omega, HF, rfl⟩
      · have HF : Hid (Z = some s) := Lib.hid (by rw [← HQ.out, show 30 - i = 0 by omega, gaG])
        have HF2 := Lib.hid (HG.out.2 s HF.out)
        go_wp2_with fail
        go_ret
        refine ⟨ret_b ?_, rfl⟩
        rw [HF2.out]
        by_cases c1 : 20 < n <;> by_cases c2 : 100 < s <;> simp [c1, c2] <;> omega
    · have HF : Hid (Z = some s) := Lib.hid (by
        rw [← HQ.out, List.drop_of_length_le (by have := HN.out; omega)]
        cases 30 - i <;> rfl)
      have HF2 := Lib.hid (HG.out.2 s HF.out)
      by_cases c1 : (20 : Int) < (n : Int)
      · go_wp2_with fail
        go_ret
        refine ⟨ret_b ?_, rfl⟩
        rw [HF2.out]
        have : 20 < n := by omega
        simp [this]
      · by_cases c2 : (100 : Int) < (s : Int)
        · go_wp2_with fail
          go_ret
          refine ⟨ret_b ?_, rfl⟩
          rw [HF2.out]
          have : 100 < s := by omega
          simp [this]
        · go_wp2_with fail
          go_ret
          refine ⟨ret_b ?_, rfl⟩
          rw [HF2.out]
          have h1 : ¬ 20 < n := by omega
          have h2 : ¬ 100 < s := by omega
          simp [h1, h2]
end Go.Proofs.YtgacpmdebjndkaaGreatDoor
namespace Go.Proofs.YtgacpmdebjndkaaGreatDoor
open Go.RowKit
set_option maxRecDepth 100000 in
theorem greatargs_none (a : Option Addr) (c : Nat) (w : World) :
    Calls Tryz.prog 36 #[.slice a 0 c] w fun e w' => e = .returned (.bool false) ∧ w = w' := by
  go_enter Tryz.func36, Tryz.ntmps36
  go_wp2_with fail
  refine wp_loop_rounds 1 ?_; rw [rounds_succ]
  go_wp2_with fail
  go_ret
  exact ⟨rfl, rfl⟩
theorem greatargs_any (A : List (List UInt8 × List Cel)) (u : Value) (hl : A.length ≤ 9223372036854775807) (w : World) (hr : ArgSl u A w) (hsz : ∀ x ∈ A, x.1.length ≤ 9223372036854775807 ∧ x.2.length ≤ 9223372036854775807 ∧ ∀ c ∈ x.2, c.name.length ≤ 9223372036854775807 ∧ c.text.length ≤ 9223372036854775807) :
    Calls Tryz.prog 36 #[u] w fun e w' => e = .returned (.bool (greatAB A)) ∧ w = w' := by
  rcases hr with ⟨a, c, rfl, rfl⟩ | ⟨b, off, cap, rfl, hrow, hpos⟩
  · exact greatargs_none a c w
  · exact greatargs_row A b off cap hl w hrow hsz
end Go.Proofs.YtgacpmdebjndkaaGreatDoor
namespace Go.Proofs.YtgacpmdebjndkaaGreatDoor
open Go.RowKit
def gdG : Nat → List (List UInt8 × List (List UInt8 × List Cel)) → Bool
  | 0, _ => false
  | _ + 1, [] => false
  | f + 1, x :: r => greatAB x.2 || decide (300 < x.1.length) || gdG f r
def greatDB (D : List (List UInt8 × List (List UInt8 × List Cel))) : Bool := gdG 30 D || decide (10 < D.length)
def ArgsZ (A : List (List UInt8 × List Cel)) : Prop := A.length ≤ 9223372036854775807 ∧ ∀ x ∈ A, x.1.length ≤ 9223372036854775807 ∧ x.2.length ≤ 9223372036854775807 ∧ ∀ c ∈ x.2, c.name.length ≤ 9223372036854775807 ∧ c.text.length ≤ 9223372036854775807
set_option maxRecDepth 100000 in
set_option maxHeartbeats 4000000 in
theorem greatdirs_row (A : List (List UInt8 × List (List UInt8 × List Cel))) (b off cap : Nat) (hl : A.length ≤ 9223372036854775807) (w : World) (hr : XRow ArgSl b off A w) (hsz : ∀ x ∈ A, x.1.length ≤ 9223372036854775807 ∧ ArgsZ x.2) :
    Calls Tryz.prog 9 #[.slice (some ⟨b, off, none⟩) A.length cap] w fun e w' => e = .returned (.bool (greatDB A)) ∧ w = w' := by
  have HA := Lib.hid hr
  have HS := Lib.hid hsz
  obtain ⟨Z, hZ⟩ : ∃ Z, gdG 30 A = Z := ⟨_, rfl⟩
  have HZ0 : Hid (gdG (30 - 0) (A.drop 0) = Z) := Lib.hid hZ
  have HG : Hid (greatDB A = (Z || decide (10 < A.length))) := Lib.hid (by unfold greatDB; rw [hZ])
  generalize greatDB A = G at HG ⊢
  obtain ⟨n, hn⟩ : ∃ n, A.length = n := ⟨_, rfl⟩
  have HN := Lib.hid hn
  rw [hn] at HG ⊢
  rw [hn] at hl
  clear hr hsz hZ hn
  go_enter Tryz.func9, Tryz.ntmps9
  go_wp2_with fail
  go_loopg [3] 31 (fun gk iv wr => ∃ i : Nat, iv = .int .i64 (i : Int) ∧ (gk + i ≤ 31 ∧ 31 ≤ gk + i) ∧ i ≤ 30 ∧ Hid (gdG (30 - i) (A.drop i) = Z) ∧ w = wr)
  case atStart => exact ⟨0, by go_num, ⟨by omega, by omega⟩, by omega, HZ0, rfl⟩
  case round =>
    clear HZ0
    rename World => wr
    obtain ⟨i, rfl, ⟨hj, hj'⟩, hi, HQ, rfl⟩ := hrel
    obtain ⟨g, rfl⟩ : ∃ g, gk = g + 1 := ⟨gk - 1, by omega⟩
    have HJJ := Lib.hid (And.intro hj hj')
    clear hj hj'
    by_cases hin : (i : Int) < (n : Int)
    · by_cases h30 : (i : Int) < 30
      · have hil : i < A.length := by have := HN.out; omega
        obtain ⟨e0, a, vn, c, e1, hy⟩ := HA.out i hil
        obtain ⟨z1, z2⟩ := HS.out A[i] (List.getElem_mem hil)
        have hq := HQ.out
        obtain ⟨f, hf⟩ : ∃ f, 30 - i = f + 1 := ⟨30 - i - 1, by omega⟩
        rw [hf, List.drop_eq_getElem_cons hil, gdG] at hq
        have hf2 : 30 - (i + 1) = f := by omega
        have HC := Lib.hid (greatargs_any _ _ z2.1 w hy z2.2)
        obtain ⟨nb, hnb⟩ : ∃ nb : ByteArray, (⟨(A[i]'hil).1.toArray⟩ : ByteArray) = nb := ⟨_, rfl⟩
        have hnl : (A[i]'hil).1.length = nb.size := by rw [← hnb]; simp [ByteArray.size]
        rw [hnb] at e0
        rw [hnl] at hq z1
        have HQ2 := Lib.hid hq
        clear hq hy hnb hnl z2
        generalize greatAB (A[i]'hil).2 = gv at *
        have i1 : (i : Int).toNat = i := by omega
        have i2 : (0 : Int) ≤ (i : Int) := by omega
        have i4 : IntKind.i64.wrap ((i : Int) + 1) = ((i + 1 : Nat) : Int) := by rw [IntWalk.i64_in _ (by omega)]; omega
        cases gv with
        | true =>
          have HF : Hid (true = G) := Lib.hid (by rw [HG.out, ← HQ2.out]; simp)
          go_wp2_with fail
          refine HC.out.mono ?_; rintro e w2 ⟨rfl, rfl⟩
          go_wp2_with fail
          go_ret
          exact ⟨ret_b HF.out, rfl⟩
        | false =>
          by_cases h3 : (300 : Int) < (nb.size : Int)
          · have HF : Hid (true = G) := Lib.hid (by rw [HG.out, ← HQ2.out, decide_eq_true (by omega : 300 < nb.size)]; simp)
            go_wp2_with fail
            refine HC.out.mono ?_; rintro e w2 ⟨rfl, rfl⟩
            go_wp2_with fail
            go_ret
            exact ⟨ret_b HF.out, rfl⟩
          · have HF : Hid (gdG (30 - (i + 1)) (A.drop (i + 1)) = Z) := Lib.hid (by rw [hf2, ← HQ2.out, decide_eq_false (by omega : ¬ 300 < nb.size)]; rfl)
            go_wp2_with fail
            refine HC.out.mono ?_; rintro e w2 ⟨rfl, rfl⟩
            go_wp2_with fail
            obtain ⟨hj, hj'⟩ := HJJ.out
            go_roundg g
            case measure => omega
            case rel => exact ⟨i + 1, rfl, ⟨by omega, by omega⟩, by omega, HF, rfl⟩
      · have HF : Hid (Z = false) := Lib.hid (by rw [← HQ.out, show 30 - i = 0 by omega, gdG])
        go_wp2_with fail
        go_ret
        refine ⟨ret_b ?_, rfl⟩
        rw [HG.out, HF.out]
        by_cases c1 : 10 < n <;> simp [c1] <;> omega
    · have HF : Hid (Z = false) := Lib.hid (by
        rw [← HQ.out, List.drop_of_length_le (by have := HN.out; omega)]
        cases 30 - i <;> rfl)
      go_wp2_with fail
      go_ret
      refine ⟨ret_b ?_, rfl⟩
      rw [HG.out, HF.out]
      by_cases c1 : 10 < n <;> simp [c1] <;> omega
set_option maxRecDepth 100000 in
theorem greatdirs_none (a : Option Addr) (c : Nat) (w : World) :
    Calls Tryz.prog 9 #[.slice a 0 c] w fun e w' => e = .returned (.bool false) ∧ w = w' := by
  go_enter Tryz.func9, Tryz.ntmps9
  go_wp2_with fail
  refine wp_loop_rounds 1 ?_; rw [rounds_succ]
  go_wp2_with fail
  go_ret
  exact ⟨rfl, rfl⟩
theorem greatdirs_any (A : List (List UInt8 × List (List UInt8 × List Cel))) (u : Value) (hl : A.length ≤ 9223372036854775807) (w : World) (hr : DirSl u A w) (hsz : ∀ x ∈ A, x.1.length ≤ 9223372036854775807 ∧ ArgsZ x.2) :
    Calls Tryz.prog 9 #[u] w fun e w' => e = .returned (.bool (greatDB A)) ∧ w = w' := by
  rcases hr with ⟨a, c, rfl, rfl⟩ | ⟨b, off, cap, rfl, hrow, hpos⟩
  · exact greatdirs_none a c w
  · exact greatdirs_row A b off cap hl w hrow hsz
end Go.Proofs.YtgacpmdebjndkaaGreatDoor
namespace Go.Proofs.YtgacpmdebjndkaaGreatDoor
open Go.Lib
def NumB (V : List Cel) : Prop := ∀ c ∈ V, -9223372036854775808 ≤ c.num ∧ c.num ≤ 9223372036854775807
end Go.Proofs.YtgacpmdebjndkaaGreatDoor
namespace Go.Proofs.YtgacpmdebjndkaaGreatDoor
open Go.Lib
/-- May wrappers be, behind one? -/
def typB : UInt8 → List UInt8 → Bool
  | _, [] => true
  | last, w :: r => (w == 1 || w == 2) && !(w == 1 && last == 1) && typB w r
end Go.Proofs.YtgacpmdebjndkaaGreatDoor
namespace Go.Proofs.YtgacpmdebjndkaaGreatDoor
open Go.RowKit Go.Shelf
attribute [local go_sem] Oper.semAt_some
/-- Wrappers as bits. -/
def wz (b : Bool) : UInt8 := if b then 2 else 1
/-- Every cell but one block's is kept. -/
def KC (p : Nat) (W W' : World) : Prop := ∀ (a : Addr) (v : Value), a.block ≠ p → W.cell? a = some v → W'.cell? a = some v
theorem KC.refl (p : Nat) (W : World) : KC p W W := fun _ _ _ h => h
theorem KC.trans {p : Nat} {A B C : World} (h : KC p A B) (k : KC p B C) : KC p A C := fun a v ha hc => k a v ha (h a v ha hc)
end Go.Proofs.YtgacpmdebjndkaaGreatDoor
namespace Go.Proofs.YtgacpmdebjndkaaGreatDoor
/-- What TypeTokens answers. -/
def ttB (nm ws : List UInt8) : Bool := nameB nm && (decide (ws.length ≤ 8) && typB 2 ws)
end Go.Proofs.YtgacpmdebjndkaaGreatDoor
namespace Go.Proofs.YtgacpmdebjndkaaGreatDoor
open Go.RowKit
def TxS (L : List Tok) : Prop := ∀ t ∈ L, t.text.length ≤ 100000
theorem TxS.nil : TxS [] := fun t h => by cases h
theorem TxS.cons {t : Tok} {L : List Tok} (h : t.text.length ≤ 100000) (hL : TxS L) : TxS (t :: L) := fun x hx => by
  rcases List.mem_cons.1 hx with rfl | hx
  · exact h
  · exact hL x hx
def CelS (V : List Cel) : Prop := ∀ c ∈ V, c.name.length ≤ 100000 ∧ c.text.length ≤ 100000 ∧ R c.num
theorem greatV_parts {V : List Cel} {m : Nat} (h : greatV V m = false) : V.length ≤ m ∧ ∀ c ∈ V, c.name.length ≤ 300 ∧ c.text.length ≤ 3000 := by
  have hl := great_len h
  refine ⟨hl, ?_⟩
  unfold greatV at h
  rw [Bool.or_eq_false_iff, List.take_of_length_le hl, List.any_eq_false] at h
  intro c hc
  have := h.1 c hc
  simp only [Bool.or_eq_true, decide_eq_true_eq, not_or, Nat.not_lt] at this
  exact this
theorem gaG_parts : ∀ (f n : Nat) (A : List (List UInt8 × List Cel)) (m : Nat), gaG f n A = some m → A.length ≤ f → ∀ x ∈ A, greatV x.2 60 = false ∧ x.1.length ≤ 300
  | _, _, [], _, _, _ => fun x h => by cases h
  | 0, _, x :: r, _, _, hl => by simp at hl
  | f + 1, n, x :: r, m, h, hl => by
    rw [gaG] at h
    split at h
    · cases h
    · rename_i hc
      simp only [Bool.or_eq_true, decide_eq_true_eq, not_or, Nat.not_lt, Bool.not_eq_true] at hc
      intro y hy
      rcases List.mem_cons.1 hy with rfl | hy
      · exact hc
      · exact gaG_parts f _ r m h (by simp at hl; omega) y hy
theorem greatAB_parts {A : List (List UInt8 × List Cel)} (h : greatAB A = false) : A.length ≤ 20 ∧ ∀ x ∈ A, greatV x.2 60 = false ∧ x.1.length ≤ 300 := by
  unfold greatAB at h
  cases hg : gaG 30 0 A with
  | none => rw [hg] at h; cases h
  | some n =>
    rw [hg] at h
    simp only [Bool.or_eq_false_iff, decide_eq_false_iff_not, Nat.not_lt] at h
    exact ⟨h.1, gaG_parts 30 0 A n hg (by omega)⟩
theorem gdG_parts : ∀ (f : Nat) (D : List (List UInt8 × List (List UInt8 × List Cel))), gdG f D = false → D.length ≤ f → ∀ x ∈ D, greatAB x.2 = false ∧ x.1.length ≤ 300
  | _, [], _, _ => fun x h => by cases h
  | 0, x :: r, _, hl => by simp at hl
  | f + 1, x :: r, h, hl => by
    rw [gdG] at h
    simp only [Bool.or_eq_false_iff, decide_eq_false_iff_not, Nat.not_lt] at h
    intro y hy
    rcases List.mem_cons.1 hy with rfl | hy
    · exact h.1
    · exact gdG_parts f r h.2 (by simp at hl; omega) y hy
theorem greatDB_parts {D : List (List UInt8 × List (List UInt8 × List Cel))} (h : greatDB D = false) : D.length ≤ 10 ∧ ∀ x ∈ D, greatAB x.2 = false ∧ x.1.length ≤ 300 := by
  unfold greatDB at h
  simp only [Bool.or_eq_false_iff, decide_eq_false_iff_not, Nat.not_lt] at h
  exact ⟨h.2, gdG_parts 30 D h.1 (by omega)⟩
theorem roomA_le : ∀ (A : List (List UInt8 × List Cel)), (∀ x ∈ A, x.2.length ≤ 60) → roomA A ≤ 246 * A.length
  | [], _ => by simp [roomA]
  | x :: r, h => by
    have h1 := h x (by simp)
    have h2 := roomA_le r fun y hy => h y (by simp [hy])
    rw [roomA, List.length_cons]
    omega
end Go.Proofs.YtgacpmdebjndkaaGreatDoor
namespace Go.Proofs.YtgacpmdebjndkaaGreatDoor
open Go.RowKit Go.WideShapes Go.ChangeShapes Go.Joins Go.Deep
theorem cells_cell : Tryz.prog.cellsOf 78 = 5 := by kernel_rfl
section
variable {H : Type} {enc : TypeId × Value → H} {w : World} {base : Nat} {spare : Nat → Bool} {held : Bool}
theorem cels_of (w : World) (a : Addr) : ∀ n : Nat, (∀ i, i < n → ∃ (k : UInt8) (s t : ByteArray) (p q : Int), w.cell? (a.add (i * 5)) = some (.int .u8 (k.toNat : Int)) ∧ w.cell? (a.add (i * 5 + 1)) = some (.string s) ∧ w.cell? (a.add (i * 5 + 2)) = some (.string t) ∧ w.cell? (a.add (i * 5 + 3)) = some (.int .i64 p) ∧ w.cell? (a.add (i * 5 + 4)) = some (.int .i64 q) ∧ s.size ≤ maxLen ∧ t.size ≤ maxLen ∧ R p ∧ R q) →
    ∃ L : List Cel, L.length = n ∧ (∀ t ∈ L, t.name.length ≤ maxLen ∧ t.text.length ≤ maxLen ∧ R t.num ∧ R t.many) ∧ ∀ (i : Nat) (h : i < L.length), w.cell? (a.add (i * 5)) = some (.int .u8 (L[i].kind.toNat : Int)) ∧ w.cell? (a.add (i * 5 + 1)) = some (.string ⟨L[i].name.toArray⟩) ∧ w.cell? (a.add (i * 5 + 2)) = some (.string ⟨L[i].text.toArray⟩) ∧ w.cell? (a.add (i * 5 + 3)) = some (.int .i64 L[i].num) ∧ w.cell? (a.add (i * 5 + 4)) = some (.int .i64 L[i].many)
  | 0, _ => ⟨[], rfl, (fun t h => by cases h), (fun i h => absurd h (by simp))⟩
  | n + 1, h => by
    obtain ⟨L, hl, hz, hc⟩ := cels_of w a n fun i hi => h i (by omega)
    obtain ⟨k, s, t, p, q, c0, c1, c2, c3, c4, hs, ht, hp, hq⟩ := h n (by omega)
    refine ⟨L ++ [⟨k, s.data.toList, t.data.toList, p, q⟩], by simp [hl], ?_, ?_⟩
    · intro x hx
      rcases List.mem_append.1 hx with hx | hx
      · exact hz x hx
      · rw [List.mem_singleton] at hx
        rw [hx]
        refine ⟨?_, ?_, hp, hq⟩
        · show s.data.toList.length ≤ maxLen
          rw [Array.length_toList]
          exact hs
        · show t.data.toList.length ≤ maxLen
          rw [Array.length_toList]
          exact ht
    · intro i hi
      by_cases hin : i < L.length
      · rw [List.getElem_append_left hin]
        exact hc i hin
      · have hin' : i = L.length := by
          rw [List.length_append] at hi
          simp at hi
          omega
        subst hin'
        rw [List.getElem_append_right (Nat.le_refl _)]
        simp only [Nat.sub_self, List.getElem_cons_zero]
        rw [hl]
        refine ⟨c0, ?_, ?_, c3, c4⟩
        · rw [c1]
        · rw [c2]
/-- An element of a slice of structs, whose fields have one cell each: each field's cell, and its reading. -/
theorem elem_fields {P : Program} {H : Type} {enc : TypeId × Value → H} {w : World} {base : Nat} {spare : Nat → Bool} {held : Bool} {e : TypeId} {fs : Array Field} (he : P.underlying e = some (.struct fs)) (hone : oneCellFields P fs = true) {a : Addr} {k n : Nat} {cs : List Value} {x : DataW H × List MemPlace}
    (hk : k = P.cellsOf e) (hk2 : k = fs.size) (hc : w.cells? base a k = some cs) (ht : DataW.trod enc P w base spare held n e cs = some x) (j : Nat) (f : Field) (hj : fs[j]? = some f) :
    ∃ (v : Value) (y : DataW H × List MemPlace) (n' : Nat), w.cell? (a.add j) = some v ∧ DataW.trod enc P w base spare held n' f.type [v] = some y := by
  obtain ⟨ys, n', hn', hy, hlen, hyl, hf⟩ := DataW.trod_struct he ht
  obtain ⟨_, hcl, hat⟩ := World.cells?_some hc
  obtain ⟨ho, h1⟩ := hone_of hone j f hj
  have hjl : j < fs.size := (Array.getElem?_eq_some_iff.1 hj).1
  have hjc : j < cs.length := by omega
  have hcell := hat j (by omega)
  have g := hf j f hj
  rw [ho, h1, List.drop_eq_getElem_cons hjc] at g
  have hys : ys[j]? = some (ys[j]'(by omega)) := List.getElem?_eq_getElem (by omega)
  refine ⟨cs[j], ys[j]'(by omega), n', ?_, ?_⟩
  · rw [hcell]; exact List.getElem?_eq_getElem hjc
  · exact g.trans hys
theorem open_cells {v : Value} {d : DataW H} {p : List MemPlace} (hv : ∃ a l c, v = .slice a l c) (h : DataW.Trod enc Tryz.prog w base spare held 69 v d p) :
    ∃ L : List Cel, CelSl v L w ∧ L.length ≤ maxLen ∧ ∀ t ∈ L, t.name.length ≤ maxLen ∧ t.text.length ≤ maxLen ∧ R t.num ∧ R t.many := by
  obtain ⟨fuel, hf⟩ := h
  obtain ⟨sa, sl, sc, rfl⟩ := hv
  have hcs : (Value.slice sa sl sc).cells.toList = [.slice sa sl sc] := rfl
  rw [hcs] at hf
  rcases open_slice Tryz.underlying69 hf with ⟨h0, _⟩ | ⟨a, len, cap, m, n, D, Pl, h0, hb, hl, hm, hmm, hx, hi⟩
  · injection h0 with h0
    exact ⟨[], Or.inl ⟨_, _, h0, rfl, fun _ => rfl⟩, by decide, fun t h => by cases h⟩
  · injection h0 with h0
    have hlm : len ≤ m := by rw [hmm]; split <;> omega
    obtain ⟨L, hL, hz, hc⟩ := cels_of w a len (fun i hil => by
      obtain ⟨cs', hc, ht⟩ := hi i (by omega)
      rw [cells_cell] at hc
      have F := fun j f hj => elem_fields Tryz.underlying78 (by kernel_rfl) cells_cell.symm rfl hc ht j f hj
      obtain ⟨v0, y0, n0, g0, t0⟩ := F 0 _ rfl
      obtain ⟨v1, y1, n1, g1, t1⟩ := F 1 _ rfl
      obtain ⟨v2, y2, n2, g2, t2⟩ := F 2 _ rfl
      obtain ⟨v3, y3, n3, g3, t3⟩ := F 3 _ rfl
      obtain ⟨v4, y4, n4, g4, t4⟩ := F 4 _ rfl
      obtain ⟨k, e0, _, wk⟩ := DataW.trod_int Tryz.underlying5 t0
      obtain ⟨s, e1, _, ws⟩ := DataW.trod_string Tryz.underlying9 t1
      obtain ⟨t, e2, _, wt⟩ := DataW.trod_string Tryz.underlying9 t2
      obtain ⟨p, e3, _, wp⟩ := DataW.trod_int Tryz.underlying2 t3
      obtain ⟨q, e4, _, wq⟩ := DataW.trod_int Tryz.underlying3 t4
      injection e0 with e0
      injection e1 with e1
      injection e2 with e2
      injection e3 with e3
      injection e4 with e4
      subst e0 e1 e2 e3 e4
      obtain ⟨k1, k2⟩ := Go.bounds_u8 wk
      have hk : ((UInt8.ofNat k.toNat).toNat : Int) = k := by
        rw [UInt8.toNat_ofNat']
        omega
      refine ⟨UInt8.ofNat k.toNat, s, t, p, q, ?_, ?_, ?_, ?_, ?_, ws, wt, Go.bounds_i64 wp, Go.bounds_i64 wq⟩
      · rw [hk, ← g0]
        rw [Go.Deep.add_add]; rfl
      · rw [← g1, Go.Deep.add_add]
      · rw [← g2, Go.Deep.add_add]
      · rw [← g3, Go.Deep.add_add]
      · rw [← g4, Go.Deep.add_add])
    refine ⟨L, ?_, by omega, hz⟩
    by_cases h0l : L = []
    · rw [h0l] at hL
      refine Or.inl ⟨some a, cap, ?_, h0l, fun h => by cases h⟩
      rw [h0, ← hL]; rfl
    · have hpos : 0 < L.length := List.length_pos_iff.2 h0l
      obtain ⟨ab, ao, asp⟩ := a
      have hspot : asp = none := by simpa [Addr.add] using World.cell?_spot (hc 0 hpos).1
      subst hspot
      have hadd : ∀ j, (⟨ab, ao, none⟩ : Addr).add j = ⟨ab, ao + j, none⟩ := by
        intro j
        unfold Addr.add
        split
        · rename_i hz; rw [hz]; rfl
        · rfl
      refine Or.inr ⟨ab, ao, cap, by rw [h0, hL], ?_, hpos⟩
      intro k hk
      obtain ⟨q0, q1, q2, q3, q4⟩ := hc k hk
      rw [hadd] at q0 q1 q2 q3 q4
      exact ⟨q0, q1, q2, q3, q4⟩
end
end Go.Proofs.YtgacpmdebjndkaaGreatDoor
namespace Go.Proofs.YtgacpmdebjndkaaGreatDoor
open Go.RowKit Go.WideShapes Go.ChangeShapes Go.Joins Go.Deep
section
variable {H : Type} {enc : TypeId × Value → H} {w : World} {base : Nat} {spare : Nat → Bool} {held : Bool}
theorem xs_of {α : Type} {Sl : Value → α → World → Prop} {Pr : α → Prop} (w : World) (a : Addr) : ∀ n : Nat, (∀ i, i < n → ∃ (s : ByteArray) (b : Option Addr) (l c : Nat) (y : α), w.cell? (a.add (i * 2)) = some (.string s) ∧ w.cell? (a.add (i * 2 + 1)) = some (.slice b l c) ∧ Sl (.slice b l c) y w ∧ s.size ≤ maxLen ∧ Pr y) →
    ∃ L : List (List UInt8 × α), L.length = n ∧ (∀ t ∈ L, t.1.length ≤ maxLen ∧ Pr t.2) ∧ ∀ (i : Nat) (h : i < L.length), w.cell? (a.add (i * 2)) = some (.string ⟨L[i].1.toArray⟩) ∧ ∃ b l c, w.cell? (a.add (i * 2 + 1)) = some (.slice b l c) ∧ Sl (.slice b l c) L[i].2 w
  | 0, _ => ⟨[], rfl, (fun t h => by cases h), (fun i h => absurd h (by simp))⟩
  | n + 1, h => by
    obtain ⟨L, hl, hz, hc⟩ := xs_of w a n fun i hi => h i (by omega)
    obtain ⟨s, b, l, c, y, c0, c1, hs, hz1, hy⟩ := h n (by omega)
    refine ⟨L ++ [(s.data.toList, y)], by simp [hl], ?_, ?_⟩
    · intro x hx
      rcases List.mem_append.1 hx with hx | hx
      · exact hz x hx
      · rw [List.mem_singleton] at hx
        rw [hx]
        refine ⟨?_, hy⟩
        show s.data.toList.length ≤ maxLen
        rw [Array.length_toList]
        exact hz1
    · intro i hi
      by_cases hin : i < L.length
      · rw [List.getElem_append_left hin]
        exact hc i hin
      · have hin' : i = L.length := by
          rw [List.length_append] at hi
          simp at hi
          omega
        subst hin'
        rw [List.getElem_append_right (Nat.le_refl _)]
        simp only [Nat.sub_self, List.getElem_cons_zero]
        rw [hl]
        exact ⟨c0, b, l, c, c1, hs⟩
theorem open_xs {P : Program} {α : Type} {Sl : Value → α → World → Prop} {Pr : α → Prop} {t e : TypeId} {f0 f1 : Field} {fuel : Nat} {v : Value} {x : DataW H × List MemPlace} (ht : P.underlying t = some (.slice e)) (he : P.underlying e = some (.struct #[f0, f1]))
    (ce : P.cellsOf e = 2) (o0 : f0.offset = 0) (o1 : f1.offset = 1) (c0 : P.cellsOf f0.type = 1) (c1 : P.cellsOf f1.type = 1) (hs : P.underlying f0.type = some .string)
    (hop : ∀ n u y, DataW.trod enc P w base spare held n f1.type [u] = some y → ∃ (b : Option Addr) (l c : Nat) (z : α), u = .slice b l c ∧ Sl u z w ∧ Pr z)
    (h : DataW.trod enc P w base spare held fuel t [v] = some x) :
    ∃ L : List (List UInt8 × α), XSl Sl v L w ∧ L.length ≤ maxLen ∧ ∀ t ∈ L, t.1.length ≤ maxLen ∧ Pr t.2 := by
  rcases open_slice_pairs ht he ce o0 o1 c0 c1 h with ⟨h0, _⟩ | ⟨a, len, cap, m, n, V0, V1, D0, D1, P0, P1, h0, hb, hl, hm, hmm, hx, hi⟩
  · injection h0 with h0
    exact ⟨[], Or.inl ⟨_, _, h0, rfl⟩, Nat.zero_le _, fun t h => by cases h⟩
  · injection h0 with h0
    have hlm : len ≤ m := by rw [hmm]; split <;> omega
    obtain ⟨L, hL, hz, hc⟩ := xs_of (Sl := Sl) (Pr := Pr) w a len (fun i hil => by
      obtain ⟨g0, g1, t0, t1⟩ := hi i (by omega)
      obtain ⟨s, e0, _, ws⟩ := DataW.trod_string hs t0
      obtain ⟨b, l, c, z, e1, hz, hp⟩ := hop _ _ _ t1
      injection e0 with e0
      rw [e0] at g0
      rw [e1] at g1 hz
      exact ⟨s, b, l, c, z, g0, g1, hz, ws, hp⟩)
    refine ⟨L, ?_, by omega, hz⟩
    by_cases h0l : L = []
    · rw [h0l] at hL
      refine Or.inl ⟨some a, cap, ?_, h0l⟩
      rw [h0, ← hL]; rfl
    · have hpos : 0 < L.length := List.length_pos_iff.2 h0l
      obtain ⟨ab, ao, asp⟩ := a
      have hspot : asp = none := by simpa [Addr.add] using World.cell?_spot (hc 0 hpos).1
      subst hspot
      have hadd : ∀ j, (⟨ab, ao, none⟩ : Addr).add j = ⟨ab, ao + j, none⟩ := by
        intro j
        unfold Addr.add
        split
        · rename_i hz; rw [hz]; rfl
        · rfl
      refine Or.inr ⟨ab, ao, cap, by rw [h0, hL], ?_, hpos⟩
      intro k hk
      obtain ⟨q0, b, l, c, q1, q2⟩ := hc k hk
      rw [hadd] at q0 q1
      exact ⟨q0, b, l, c, q1, q2⟩
theorem slice_form {P : Program} {t e : TypeId} {fuel : Nat} {u : Value} {x : DataW H × List MemPlace} (ht : P.underlying t = some (.slice e)) (h : DataW.trod enc P w base spare held fuel t [u] = some x) : ∃ (b : Option Addr) (l c : Nat), u = .slice b l c := by
  rcases open_slice ht h with ⟨h0, _⟩ | ⟨a, len, cap, m, n, D, Pl, h0, _⟩
  · injection h0 with h0
    exact ⟨_, _, _, h0⟩
  · injection h0 with h0
    exact ⟨_, _, _, h0⟩
/-- Cells' bounds. -/
def CelB (M : List Cel) : Prop := M.length ≤ maxLen ∧ ∀ t ∈ M, t.name.length ≤ maxLen ∧ t.text.length ≤ maxLen ∧ R t.num ∧ R t.many
def ArgB (A : List (List UInt8 × List Cel)) : Prop := A.length ≤ maxLen ∧ ∀ t ∈ A, t.1.length ≤ maxLen ∧ CelB t.2
theorem args_trod {fuel : Nat} {v : Value} {x : DataW H × List MemPlace} (h : DataW.trod enc Tryz.prog w base spare held fuel 59 [v] = some x) :
    ∃ L : List (List UInt8 × List Cel), ArgSl v L w ∧ ArgB L := by
  obtain ⟨L, h1, h2, h3⟩ := open_xs (Sl := CelSl) (Pr := CelB) Tryz.underlying59 Tryz.underlying82 (by kernel_rfl) rfl rfl (by kernel_rfl) (by kernel_rfl) Tryz.underlying9 (fun n u y hu => by
    obtain ⟨b, l, c, e⟩ := slice_form Tryz.underlying69 hu
    subst e
    obtain ⟨M, m1, m2⟩ := open_cells (v := .slice b l c) (d := y.1) (p := y.2) ⟨b, l, c, rfl⟩ ⟨n, hu⟩
    exact ⟨b, l, c, M, rfl, m1, m2⟩) h
  exact ⟨L, h1, h2, h3⟩
end
end Go.Proofs.YtgacpmdebjndkaaGreatDoor
namespace Go.Proofs.YtgacpmdebjndkaaGreatDoor
open Go.RowKit Go.WideShapes Go.ChangeShapes Go.Joins Go.Deep
/-- Bytes in a row, read. -/
def BRow (b off : Nat) (L : List UInt8) (W : World) : Prop := ∀ (i : Nat) (h : i < L.length), W.cell? ⟨b, off + i, none⟩ = some (.int .u8 (L[i].toNat : Int))
def BSl (v : Value) (L : List UInt8) (W : World) : Prop := (∃ a cap, v = .slice a 0 cap ∧ L = []) ∨ ∃ b off cap, v = .slice (some ⟨b, off, none⟩) L.length cap ∧ BRow b off L W ∧ 0 < L.length
theorem BRow.below {b off : Nat} {L : List UInt8} {w w' : World} (h : BRow b off L w) (hb : Below w.heap.size w w') : BRow b off L w' := fun i hi => (hb.cell (p := ⟨b, _, none⟩) (lt_of_cell (h i hi))).trans (h i hi)
theorem addr_addB (b off j : Nat) : (⟨b, off, none⟩ : Addr).add j = ⟨b, off + j, none⟩ := by
  unfold Addr.add
  split
  · rename_i hz; rw [hz]; rfl
  · rfl
theorem BSl.below {v : Value} {L : List UInt8} {w w' : World} (h : BSl v L w) (hb : Below w.heap.size w w') : BSl v L w' := by
  rcases h with h | ⟨b, off, cap, h1, h2, h3⟩
  · exact Or.inl h
  · exact Or.inr ⟨b, off, cap, h1, h2.below hb, h3⟩
theorem BSl.convert {v : Value} {L : List UInt8} {w : World} (h : BSl v L w) : (convert 36 9 v).run Tryz.prog w = .ok (.string ⟨L.toArray⟩) w := by
  rcases h with ⟨a, cap, rfl, rfl⟩ | ⟨b, off, cap, rfl, h2, h3⟩
  · cases a with
    | none => exact Lib.run_convert_nil_bytes w 36 9 5 cap Tryz.underlying36 Tryz.underlying5 Tryz.underlying9
    | some a => exact Go.run_convert_bytes_back w 36 9 5 a cap [] Tryz.underlying36 Tryz.underlying5 Tryz.underlying9 (fun j hj => absurd hj (by simp))
  · exact Go.run_convert_bytes_back w 36 9 5 _ cap L Tryz.underlying36 Tryz.underlying5 Tryz.underlying9 (fun j hj => by rw [addr_addB]; exact h2 j hj)
theorem BSl.form {v : Value} {L : List UInt8} {w : World} (h : BSl v L w) : ∃ a c, v = .slice a L.length c := by
  rcases h with ⟨a, cap, rfl, rfl⟩ | ⟨b, off, cap, rfl, h2, h3⟩
  · exact ⟨_, _, rfl⟩
  · exact ⟨_, _, rfl⟩
section
variable {H : Type} {enc : TypeId × Value → H} {w : World} {base : Nat} {spare : Nat → Bool} {held : Bool}
theorem bytes_of (w : World) (a : Addr) : ∀ n : Nat, (∀ i, i < n → ∃ k : UInt8, w.cell? (a.add i) = some (.int .u8 (k.toNat : Int))) →
    ∃ L : List UInt8, L.length = n ∧ ∀ (i : Nat) (h : i < L.length), w.cell? (a.add i) = some (.int .u8 (L[i].toNat : Int))
  | 0, _ => ⟨[], rfl, (fun i h => absurd h (by simp))⟩
  | n + 1, h => by
    obtain ⟨L, hl, hc⟩ := bytes_of w a n fun i hi => h i (by omega)
    obtain ⟨k, c0⟩ := h n (by omega)
    refine ⟨L ++ [k], by simp [hl], ?_⟩
    intro i hi
    by_cases hin : i < L.length
    · rw [List.getElem_append_left hin]
      exact hc i hin
    · have hin' : i = L.length := by
        rw [List.length_append] at hi
        simp at hi
        omega
      subst hin'
      rw [List.getElem_append_right (Nat.le_refl _)]
      simp only [Nat.sub_self, List.getElem_cons_zero]
      rw [hl]
      exact c0
theorem bytes_trod {fuel : Nat} {v : Value} {x : DataW H × List MemPlace} (h : DataW.trod enc Tryz.prog w base spare held fuel 36 [v] = some x) :
    ∃ L : List UInt8, BSl v L w ∧ L.length ≤ maxLen := by
  rcases open_slice1 Tryz.underlying36 (by kernel_rfl) h with ⟨h0, _⟩ | ⟨a, len, cap, m, n, V, D, Pl, h0, hb, hl, hm, hmm, hx, hi⟩
  · injection h0 with h0
    exact ⟨[], Or.inl ⟨_, _, h0, rfl⟩, Nat.zero_le _⟩
  · injection h0 with h0
    have hlm : len ≤ m := by rw [hmm]; split <;> omega
    obtain ⟨L, hL, hc⟩ := bytes_of w a len (fun i hil => by
      obtain ⟨g0, t0⟩ := hi i (by omega)
      obtain ⟨k, e0, _, wk⟩ := DataW.trod_int Tryz.underlying5 t0
      injection e0 with e0
      obtain ⟨k1, k2⟩ := Go.bounds_u8 wk
      have hk : ((UInt8.ofNat k.toNat).toNat : Int) = k := by
        rw [UInt8.toNat_ofNat']
        omega
      exact ⟨UInt8.ofNat k.toNat, by rw [g0, e0, hk]⟩)
    refine ⟨L, ?_, by omega⟩
    by_cases h0l : L = []
    · rw [h0l] at hL
      refine Or.inl ⟨some a, cap, ?_, h0l⟩
      rw [h0, ← hL]; rfl
    · have hpos : 0 < L.length := List.length_pos_iff.2 h0l
      obtain ⟨ab, ao, asp⟩ := a
      have hspot : asp = none := by simpa [Addr.add] using World.cell?_spot (hc 0 hpos)
      subst hspot
      exact Or.inr ⟨ab, ao, cap, by rw [h0, hL], fun i hi => by rw [← addr_addB]; exact hc i hi, hpos⟩
theorem cells_ref : Tryz.prog.cellsOf 38 = 2 := by kernel_rfl
end
end Go.Proofs.YtgacpmdebjndkaaGreatDoor
namespace Go.Proofs.YtgacpmdebjndkaaGreatDoor
open Go.RowKit Go.Shelf
attribute [local go_sem] Oper.semAt_some
def wo (x : UInt8) : List Tok := if x = 2 then [mkT [91]] else []
theorem typB_step {lst x : UInt8} {r : List UInt8} : typB lst (x :: r) = ((x == 1 || x == 2) && !(x == 1 && lst == 1) && typB x r) := rfl
end Go.Proofs.YtgacpmdebjndkaaGreatDoor
namespace Go.Proofs.YtgacpmdebjndkaaGreatDoor
open Go.RowKit
theorem args_sm {A : List (List UInt8 × List Cel)} (hA : ArgB A) (hg : greatAB A = false) : ArgsSm A ∧ roomA A ≤ 5000 ∧ A.length ≤ 20 ∧ (∀ x ∈ A, x.1.length ≤ 100000 ∧ CelS x.2 ∧ NumB x.2 ∧ x.2.length ≤ 60) := by
  obtain ⟨h1, h2⟩ := greatAB_parts hg
  have key : ∀ x ∈ A, x.1.length ≤ 300 ∧ x.2.length ≤ 60 ∧ ∀ c ∈ x.2, c.name.length ≤ 300 ∧ c.text.length ≤ 3000 ∧ R c.num ∧ R c.many := fun x hx => by
    obtain ⟨p1, p2⟩ := greatV_parts (h2 x hx).1
    refine ⟨(h2 x hx).2, p1, fun c hc => ?_⟩
    obtain ⟨q1, q2⟩ := p2 c hc
    obtain ⟨_, _, q3, q4⟩ := (hA.2 x hx).2.2 c hc
    exact ⟨q1, q2, q3, q4⟩
  refine ⟨⟨by omega, fun x hx => ?_⟩, ?_, h1, fun x hx => ?_⟩
  · obtain ⟨k1, k2, k3⟩ := key x hx
    refine ⟨by omega, by omega, fun c hc => ?_⟩
    obtain ⟨m1, m2, m3, m4⟩ := k3 c hc
    exact ⟨by omega, by omega, m3, m4⟩
  · have := roomA_le A fun x hx => (key x hx).2.1
    omega
  · obtain ⟨k1, k2, k3⟩ := key x hx
    refine ⟨by omega, fun c hc => ?_, fun c hc => ?_, k2⟩
    · obtain ⟨m1, m2, m3, m4⟩ := k3 c hc
      exact ⟨by omega, by omega, m3⟩
    · obtain ⟨m1, m2, m3, m4⟩ := k3 c hc
      exact ⟨m3.1, m3.2⟩
end Go.Proofs.YtgacpmdebjndkaaGreatDoor
namespace Go.Proofs.YtgacpmdebjndkaaGreatDoor
open Go.RowKit
theorem OwnI.form {B : Nat} {v : Value} {l : List Nat} {w : World} (h : OwnI B v l w) : ∃ a c, v = .slice a l.length c ∧ (0 < l.length → ∃ g, a = some ⟨g, 0, none⟩ ∧ ∀ (i : Nat) (hi : i < l.length), w.cell? ⟨g, 0 + i, none⟩ = some (.int .i64 (l[i] : Int))) := by
  obtain ⟨h1, h2⟩ := h
  rcases h2 with ⟨rfl, h3⟩ | ⟨g, cap, cur, hv, hB, hg, hn, hc, hcs, ht⟩
  · exact ⟨none, 0, by rw [h3], fun h => by omega⟩
  · refine ⟨_, cap, hv, fun _ => ⟨g, rfl, fun i hi => ?_⟩⟩
    rw [Nat.mul_one] at ht
    have e : cur.toList[i]? = some (.int .i64 (l[i] : Int)) := by
      have : (cur.toList.take l.length)[i]? = some (.int .i64 (l[i] : Int)) := by rw [ht]; unfold natCells; simp [hi]
      rw [List.getElem?_take] at this
      simpa [hi] using this
    rw [Nat.zero_add]
    refine (Lib.cell_of_heap hg i).trans ?_
    simpa using e
end Go.Proofs.YtgacpmdebjndkaaGreatDoor
namespace Go.Proofs.YtgacpmdebjndkaaGreatDoor
open Go.RowKit
/-- A row of places, in a block. -/
def PB (a : Option Addr) (P : List Nat) (W : World) : Prop := 0 < P.length → ∃ g cur, a = some ⟨g, 0, none⟩ ∧ W.heap[g]? = some (.cells cur 3 (0, 0)) ∧ ∀ (i : Nat) (hi : i < P.length), cur[i]? = some (.int .i64 (P[i] : Int))
theorem PB.below {a : Option Addr} {P : List Nat} {W W' : World} (h : PB a P W) (hb : Below W.heap.size W W') : PB a P W' := fun h0 => by
  obtain ⟨g, cur, h1, h2, h3⟩ := h h0
  exact ⟨g, cur, h1, (hb.block g (heap_lt h2)).trans h2, h3⟩
theorem PB.cell {a : Option Addr} {P : List Nat} {W : World} (h : PB a P W) (i : Nat) (hi : i < P.length) : ∃ g, a = some ⟨g, 0, none⟩ ∧ W.cell? ⟨g, i, none⟩ = some (.int .i64 (P[i] : Int)) := by
  obtain ⟨g, cur, h1, h2, h3⟩ := h (by omega)
  exact ⟨g, h1, (Lib.cell_of_heap h2 i).trans (h3 i hi)⟩
end Go.Proofs.YtgacpmdebjndkaaGreatDoor
namespace Go.Proofs.YtgacpmdebjndkaaGreatDoor
open Go.RowKit
def okC (c : Cel) : Bool := (c.name.isEmpty || nameB c.name) && !(c.kind == 4 && wordsK.contains c.text)
theorem litB_okC (V : List Cel) : litB V = (mayB V && V.all okC) := rfl
set_option maxRecDepth 100000 in
set_option maxHeartbeats 4000000 in
theorem mayval_go (V : List Cel) (b off cap : Nat) (hl : V.length ≤ 100000) (hs : ∀ c ∈ V, c.name.length ≤ 100000) (w : World) (hr : CelRow b off V w)
    (HM : Hid (∀ W, Below w.heap.size w W → Calls Tryz.prog 94 #[.slice (some ⟨b, off, none⟩) V.length cap] W fun e w' => e = .returned (.bool (mayB V)) ∧ Below W.heap.size W w')) :
    Calls Tryz.prog 85 #[.slice (some ⟨b, off, none⟩) V.length cap] w fun e w' => e = .returned (.bool (litB V)) ∧ Below w.heap.size w w' := by
  have HR := Lib.hid hr
  have HS := Lib.hid hs
  obtain ⟨Z, hZ⟩ : ∃ Z, litB V = Z := ⟨_, rfl⟩
  have HZ0 : Hid ((mayB V && (V.drop 0).all okC) = Z) := Lib.hid hZ
  rw [hZ]
  generalize mayB V = mb at *
  obtain ⟨n, hn⟩ : ∃ n, V.length = n := ⟨_, rfl⟩
  have HN := Lib.hid hn
  rw [hn] at HM hl ⊢
  clear hr hs hZ hn
  go_enter Tryz.func85, Tryz.ntmps85
  go_wp2_with fail
  go_loopg [3] n (fun gk iv wr => ∃ i : Nat, iv = .int .i64 (i : Int) ∧ (gk + i ≤ n ∧ n ≤ gk + i) ∧ Hid ((mb && (V.drop i).all okC) = Z) ∧ Hid (Below w.heap.size w wr))
  case atStart => exact ⟨0, by go_num, ⟨by omega, by omega⟩, HZ0, Lib.hid (Below.refl _ _)⟩
  case round =>
    clear HZ0
    rename World => wr
    obtain ⟨i, rfl, ⟨hj, hj'⟩, HQ, HB⟩ := hrel
    by_cases hg0 : gk = 0
    · subst hg0
      have hlt : ¬ (i : Int) < (n : Int) := by omega
      have HF : Hid (mb = Z) := Lib.hid (by
        have := HQ.out
        rw [List.drop_of_length_le (by have := HN.out; omega)] at this
        simpa using this)
      clear hj hj'
      go_wp2_with fail
      refine (HM.out wr HB.out).mono ?_; rintro e w2 ⟨rfl, hb⟩
      have HB2 : Hid (Below w.heap.size w w2) := Lib.hid (HB.out.trans (hb.mono HB.out.size))
      clear hb
      go_wp2_with fail
      go_ret
      exact ⟨ret_b HF.out, HB2.out⟩
    · obtain ⟨g1, rfl⟩ : ∃ g1, gk = g1 + 1 := ⟨gk - 1, by omega⟩
      have hil : i < V.length := by have := HN.out; omega
      obtain ⟨q0, q1, q2, q3, q4⟩ := HR.out i hil
      have hbl := lt_of_cell q0
      have hb' := HB.out
      have r0 := (hb'.cell (p := ⟨b, _, none⟩) hbl).trans q0
      have r1 := (hb'.cell (p := ⟨b, _, none⟩) hbl).trans q1
      have r2 := (hb'.cell (p := ⟨b, _, none⟩) hbl).trans q2
      have r3 := (hb'.cell (p := ⟨b, _, none⟩) hbl).trans q3
      have r4 := (hb'.cell (p := ⟨b, _, none⟩) hbl).trans q4
      have hsz := HS.out V[i] (List.getElem_mem hil)
      have hq := HQ.out
      rw [List.drop_eq_getElem_cons hil, List.all_cons] at hq
      obtain ⟨bad, hbad⟩ : ∃ bad, okC (V[i]'hil) = !bad := ⟨!okC (V[i]'hil), by simp⟩
      rw [hbad] at hq
      unfold okC at hbad
      generalize V[i]'hil = c at *
      obtain ⟨kd, hkd⟩ : ∃ kd : Int, (c.kind.toNat : Int) = kd := ⟨_, rfl⟩
      obtain ⟨nx, hnx⟩ : ∃ nx : ByteArray, (⟨c.name.toArray⟩ : ByteArray) = nx := ⟨_, rfl⟩
      obtain ⟨tx, htx⟩ : ∃ tx : ByteArray, (⟨c.text.toArray⟩ : ByteArray) = tx := ⟨_, rfl⟩
      have hnl : c.name = nx.data.toList := by rw [← hnx]
      have htl : c.text = tx.data.toList := by rw [← htx]
      have hnz : nx.size ≤ 1000000 := by rw [← bsz, ← hnl]; omega
      rw [hkd] at r0
      rw [hnx] at r1
      rw [htx] at r2
      rw [hnl, htl, ← ByteArray.toList_eq, ← ByteArray.toList_eq] at hbad
      obtain ⟨ne, hne⟩ : ∃ ne, nx.toList.isEmpty = ne := ⟨_, rfl⟩
      obtain ⟨nb, hnb⟩ : ∃ nb, nameB nx.data.toList = nb := ⟨_, rfl⟩
      obtain ⟨k4, hk4⟩ : ∃ k4, (c.kind == 4) = k4 := ⟨_, rfl⟩
      obtain ⟨s1, h1⟩ : ∃ s1, (tx.toList == [110, 117, 108, 108]) = s1 := ⟨_, rfl⟩
      obtain ⟨s2, h2⟩ : ∃ s2, (tx.toList == [116, 114, 117, 101]) = s2 := ⟨_, rfl⟩
      obtain ⟨s3, h3⟩ : ∃ s3, (tx.toList == [102, 97, 108, 115, 101]) = s3 := ⟨_, rfl⟩
      have HBAD : Hid ((!bad) = ((ne || nb) && !(k4 && (s1 || s2 || s3)))) := Lib.hid (by
        rw [← hbad, ← hne, ← hnb, ← hk4, ← h1, ← h2, ← h3]
        simp only [wordsK, List.contains_cons, List.contains_nil, Bool.or_false, ByteArray.toList_eq]
        simp [Bool.or_assoc])
      have HNM : Hid (∀ W, Calls Tryz.prog 70 #[.string nx] W fun e w' => e = .returned (.bool nb) ∧ W = w') := Lib.hid fun W => by
        have := rname_any nx hnz W
        rw [hnb] at this
        exact this
      have HQ2 := Lib.hid hq
      have HJJ := Lib.hid (And.intro hj hj')
      have hkq : (k4 = true → kd = 4) ∧ (k4 = false → ¬ kd = 4) := by
        refine ⟨fun h => ?_, fun h h' => ?_⟩
        · rw [h] at hk4
          rw [← hkd, beq_iff_eq.1 hk4]; rfl
        · rw [h] at hk4
          exact (beq_eq_false_iff_ne.1 hk4) (UInt8.toNat_inj.1 (by have : ((4 : UInt8).toNat : Int) = 4 := rfl; omega))
      have HKQ := Lib.hid hkq
      have hneq : (ne = true → nx.toList = []) ∧ (ne = false → ¬ nx.toList = []) := by
        rw [← hne]
        exact ⟨fun h => by simpa using h, fun h => by simpa using h⟩
      have HNEQ := Lib.hid hneq
      have i1 : (i : Int).toNat = i := by omega
      have i2 : (0 : Int) ≤ (i : Int) := by omega
      have i3 : (i : Int) < (n : Int) := by omega
      have i4 : IntKind.i64.wrap ((i : Int) + 1) = ((i + 1 : Nat) : Int) := by rw [IntWalk.i64_in _ (by omega)]; omega
      have l0 : (⟨#[]⟩ : ByteArray).toList = [] := by rw [ByteArray.toList_eq]
      clear q0 q1 q2 q3 q4 hbl hb' hq hbad hkd hnx htx hnl htl hnz hnb hk4 hkq hneq hj hj' hsz hil hg0
      go_upto_region 5 with fail
      obtain ⟨wc, hwc⟩ : ∃ wc, wr.alloc (.cells #[.int .u8 kd, .string nx, .string tx, .int .i64 c.num, .int .i64 c.many] 78) = wc := ⟨_, rfl⟩
      have HBC : Hid (Below w.heap.size w wc) := Lib.hid (by rw [← hwc]; exact HB.out.alloc HB.out.size _)
      have hh : wc.heap[wr.heap.size]? = some (.cells #[.int .u8 kd, .string nx, .string tx, .int .i64 c.num, .int .i64 c.many] 78 (0, 0)) := by rw [← hwc]; exact heap_new _ _ _ rfl
      have e0 : wc.cell? ⟨wr.heap.size, 0, none⟩ = some (.int .u8 kd) := Lib.cell_of_heap hh 0
      have e1 : wc.cell? ⟨wr.heap.size, 1, none⟩ = some (.string nx) := Lib.cell_of_heap hh 1
      have e2 : wc.cell? ⟨wr.heap.size, 2, none⟩ = some (.string tx) := Lib.cell_of_heap hh 2
      rw [hwc]
      clear hwc hh r0 r1 r2 r3 r4
      generalize wr.heap.size = cb at *
      go_cut [43] (fun s wx => s = .bool bad ∧ wx = wc)
      case first =>
        cases ne with
        | true =>
          have hnn := HNEQ.out.1 rfl
          cases k4 with
          | false =>
            have hkn := HKQ.out.2 rfl
            have hkb : (kd == 4) = false := by simpa using hkn
            go_wp2_with fail
            go_meet
            exact ⟨congrArg Value.bool (by have := HBAD.out; cases bad <;> first | rfl | simp at this), rfl⟩
          | true =>
            have hk := HKQ.out.1 rfl
            subst hk
            cases s1 with
            | true =>
              go_wp2_with fail
              go_meet
              exact ⟨congrArg Value.bool (by have := HBAD.out; cases bad <;> first | rfl | simp at this), rfl⟩
            | false =>
            cases s2 with
            | true =>
              go_wp2_with fail
              go_meet
              exact ⟨congrArg Value.bool (by have := HBAD.out; cases bad <;> first | rfl | simp at this), rfl⟩
            | false =>
            cases s3 with
            | true =>
              go_wp2_with fail
              go_meet
              exact ⟨congrArg Value.bool (by have := HBAD.out; cases bad <;> first | rfl | simp at this), rfl⟩
            | false =>
              go_wp2_with fail
              go_meet
              exact ⟨congrArg Value.bool (by have := HBAD.out; cases bad <;> first | rfl | simp at this), rfl⟩
        | false =>
          have hnn := HNEQ.out.2 rfl
          cases nb with
          | false =>
            go_wp2_with fail
            refine (HNM.out _).mono ?_; rintro e w2 ⟨rfl, rfl⟩
            go_wp2_with fail
            go_meet
            exact ⟨congrArg Value.bool (by have := HBAD.out; cases bad <;> first | rfl | simp at this), rfl⟩
          | true =>
            cases k4 with
            | false =>
              have hkn := HKQ.out.2 rfl
              have hkb : (kd == 4) = false := by simpa using hkn
              go_wp2_with fail
              refine (HNM.out _).mono ?_; rintro e w2 ⟨rfl, rfl⟩
              go_wp2_with fail
              go_meet
              exact ⟨congrArg Value.bool (by have := HBAD.out; cases bad <;> first | rfl | simp at this), rfl⟩
            | true =>
              have hk := HKQ.out.1 rfl
              subst hk
              cases s1 with
              | true =>
                go_wp2_with fail
                refine (HNM.out _).mono ?_; rintro e w2 ⟨rfl, rfl⟩
                go_wp2_with fail
                go_meet
                exact ⟨congrArg Value.bool (by have := HBAD.out; cases bad <;> first | rfl | simp at this), rfl⟩
              | false =>
              cases s2 with
              | true =>
                go_wp2_with fail
                refine (HNM.out _).mono ?_; rintro e w2 ⟨rfl, rfl⟩
                go_wp2_with fail
                go_meet
                exact ⟨congrArg Value.bool (by have := HBAD.out; cases bad <;> first | rfl | simp at this), rfl⟩
              | false =>
              cases s3 with
              | true =>
                go_wp2_with fail
                refine (HNM.out _).mono ?_; rintro e w2 ⟨rfl, rfl⟩
                go_wp2_with fail
                go_meet
                exact ⟨congrArg Value.bool (by have := HBAD.out; cases bad <;> first | rfl | simp at this), rfl⟩
              | false =>
                go_wp2_with fail
                refine (HNM.out _).mono ?_; rintro e w2 ⟨rfl, rfl⟩
                go_wp2_with fail
                go_meet
                exact ⟨congrArg Value.bool (by have := HBAD.out; cases bad <;> first | rfl | simp at this), rfl⟩
      case rest =>
        obtain ⟨rfl, hwe⟩ := hcut
        rw [hwe]
        clear hwe e0 e1 e2
        cases bad with
        | true =>
          have HF : Hid (false = Z) := Lib.hid (by rw [← HQ2.out]; simp)
          go_wp2_with fail
          go_ret
          exact ⟨ret_b HF.out, HBC.out⟩
        | false =>
          have HF : Hid ((mb && (V.drop (i + 1)).all okC) = Z) := Lib.hid (by rw [← HQ2.out]; simp)
          go_wp2_with fail
          obtain ⟨hj, hj'⟩ := HJJ.out
          go_roundg g1
          case measure => omega
          case rel => exact ⟨i + 1, by first | rfl | go_num, ⟨by omega, by omega⟩, HF, HBC⟩
set_option maxRecDepth 100000 in
theorem mayval_none (a : Option Addr) (c : Nat) (w : World) (HM : Hid (∀ W, Below w.heap.size w W → Calls Tryz.prog 94 #[.slice a 0 c] W fun e w' => e = .returned (.bool (mayB [])) ∧ Below W.heap.size W w')) :
    Calls Tryz.prog 85 #[.slice a 0 c] w fun e w' => e = .returned (.bool (litB [])) ∧ Below w.heap.size w w' := by
  go_enter Tryz.func85, Tryz.ntmps85
  go_wp2_with fail
  refine wp_loop_rounds 1 ?_; rw [rounds_succ]
  go_wp2_with fail
  refine (HM.out w (Below.refl _ _)).mono ?_; rintro e w2 ⟨rfl, hb⟩
  have HB := Lib.hid hb
  clear hb
  go_wp2_with fail
  go_ret
  exact ⟨rfl, HB.out⟩
theorem mayval_any (V : List Cel) (v : Value) (w : World) (hv : CelSl v V w) (hs : SmallV V) :
    Calls Tryz.prog 85 #[v] w fun e w' => e = .returned (.bool (litB V)) ∧ Below w.heap.size w w' := by
  have HM : Hid (∀ W, Below w.heap.size w W → Calls Tryz.prog 94 #[v] W fun e w' => e = .returned (.bool (mayB V)) ∧ Below W.heap.size W w') := Lib.hid fun W hW => rmay03_any V v W (hv.below hW) hs
  rcases hv with ⟨a, c, rfl, rfl, _⟩ | ⟨b, off, cap, rfl, hr, h0⟩
  · exact mayval_none a c w HM
  · exact mayval_go V b off cap hs.1 (fun c hc => (hs.2 c hc).1) w hr HM
end Go.Proofs.YtgacpmdebjndkaaGreatDoor
namespace Go.Proofs.YtgacpmdebjndkaaGreatDoor
open Go.RowKit
theorem namedB_step (nm : List (List UInt8)) (x : List UInt8 × List Cel) (r : List (List UInt8 × List Cel)) : namedB nm (x :: r) = (!nm.contains x.1 && nameB x.1 && litB x.2 && namedB (x.1 :: nm) r) := rfl
def nmsA (A : List (List UInt8 × List Cel)) (i : Nat) : List (List UInt8) := ((A.take i).map (·.1)).reverse
theorem nmsA_step (A : List (List UInt8 × List Cel)) (i : Nat) (h : i < A.length) : nmsA A (i + 1) = A[i].1 :: nmsA A i := by
  unfold nmsA
  rw [List.take_succ_eq_append_getElem h, List.map_append, List.reverse_append]
  rfl
theorem nmsA_mem (A : List (List UInt8 × List Cel)) (i : Nat) (hi : i ≤ A.length) (s : List UInt8) : (nmsA A i).contains s = true ↔ ∃ (j : Nat) (hj : j < A.length), j < i ∧ A[j].1 = s := by
  unfold nmsA
  rw [List.contains_iff_mem, List.mem_reverse, List.mem_map]
  constructor
  · rintro ⟨x, hx, rfl⟩
    obtain ⟨j, hj, e⟩ := List.mem_iff_getElem.1 hx
    rw [List.length_take] at hj
    refine ⟨j, by omega, by omega, ?_⟩
    rw [List.getElem_take] at e
    rw [e]
  · rintro ⟨j, hj, hji, rfl⟩
    exact ⟨A[j], List.mem_iff_getElem.2 ⟨j, by rw [List.length_take]; omega, by rw [List.getElem_take]⟩, rfl⟩
set_option maxRecDepth 100000 in
set_option maxHeartbeats 4000000 in
theorem rma_go (A : List (List UInt8 × List Cel)) (b off cap : Nat) (w : World) (hA : XRow CelSl b off A w) (hs : ArgsSm A) :
    Calls Tryz.prog 84 #[.slice (some ⟨b, off, none⟩) A.length cap] w fun e w' => e = .returned (.bool (namedB [] A)) ∧ Below w.heap.size w w' := by
  have HA := Lib.hid hA
  have HS := Lib.hid hs.2
  have hl := hs.1
  obtain ⟨Z, hZ⟩ : ∃ Z, namedB [] A = Z := ⟨_, rfl⟩
  have HZ0 : Hid (namedB (nmsA A 0) (A.drop 0) = Z) := Lib.hid hZ
  rw [hZ]
  obtain ⟨n, hn⟩ : ∃ n, A.length = n := ⟨_, rfl⟩
  have HN := Lib.hid hn
  rw [hn] at hl ⊢
  clear hA hs hZ hn
  go_enter Tryz.func84, Tryz.ntmps84
  go_wp2_with fail
  go_loopg [3] (n + 1) (fun gk iv wr => ∃ i : Nat, iv = .int .i64 (i : Int) ∧ (gk + i ≤ n + 1 ∧ n + 1 ≤ gk + i) ∧ i ≤ n ∧ Hid (namedB (nmsA A i) (A.drop i) = Z) ∧ Hid (Below w.heap.size w wr))
  case atStart => exact ⟨0, by go_num, ⟨by omega, by omega⟩, by omega, HZ0, Lib.hid (Below.refl _ _)⟩
  case round =>
    clear HZ0
    rename World => wr
    obtain ⟨i, rfl, ⟨hj, hj'⟩, hin, HQ, HB⟩ := hrel
    obtain ⟨g1, rfl⟩ : ∃ g1, gk = g1 + 1 := ⟨gk - 1, by omega⟩
    by_cases hge : i = n
    · subst hge
      have hlt : ¬ (i : Int) < (i : Int) := by omega
      have HF : Hid (true = Z) := Lib.hid (by
        have := HQ.out
        rw [List.drop_of_length_le (by have := HN.out; omega)] at this
        exact this)
      clear hj hj'
      go_wp2_with fail
      go_ret
      exact ⟨ret_b HF.out, HB.out⟩
    · have hil : i < A.length := by have := HN.out; omega
      have i1 : (i : Int).toNat = i := by omega
      have i2 : (0 : Int) ≤ (i : Int) := by omega
      have i3 : (i : Int) < (n : Int) := by omega
      have i4 : IntKind.i64.wrap ((i : Int) + 1) = ((i + 1 : Nat) : Int) := by rw [IntWalk.i64_in _ (by omega)]; omega
      have hin2 : i + 1 ≤ n := by omega
      have hbw := HB.out
      obtain ⟨e0, a, vn, c, e1, hy⟩ := HA.out i hil
      obtain ⟨hx1, hx2⟩ := HS.out A[i] (List.getElem_mem hil)
      have r0 : wr.cell? ⟨b, off + i * 2, none⟩ = some (.string ⟨(A[i]'hil).1.toArray⟩) := (hbw.cell (p := ⟨b, _, none⟩) (lt_of_cell e0)).trans e0
      have r1 : wr.cell? ⟨b, off + i * 2 + 1, none⟩ = some (.slice a vn c) := (hbw.cell (p := ⟨b, _, none⟩) (lt_of_cell e0)).trans e1
      have hq := HQ.out
      rw [List.drop_eq_getElem_cons hil, namedB_step] at hq
      have hns := nmsA_step A i hil
      have hmem := nmsA_mem A i (by omega) (A[i]'hil).1
      have HMV : Hid (∀ W, Below w.heap.size w W → Calls Tryz.prog 85 #[.slice a vn c] W fun e w' => e = .returned (.bool (litB (A[i]'hil).2)) ∧ Below W.heap.size W w') := Lib.hid fun W hW => mayval_any _ _ W (hy.below hW) hx2
      obtain ⟨nb, hnb⟩ : ∃ nb : ByteArray, (⟨(A[i]'hil).1.toArray⟩ : ByteArray) = nb := ⟨_, rfl⟩
      have hnd : (A[i]'hil).1 = nb.data.toList := by rw [← hnb]
      have hnz : nb.size ≤ 1000000 := by rw [← bsz, ← hnd]; exact hx1
      rw [hnb] at r0
      rw [hnd] at hq hns hmem
      have HNM : Hid (∀ W, Calls Tryz.prog 70 #[.string nb] W fun e w' => e = .returned (.bool (nameB nb.data.toList)) ∧ W = w') := Lib.hid fun W => rname_any nb hnz W
      have HCELL : Hid (∀ j, j < i → ∃ y : ByteArray, (∀ (h : j < A.length), A[j].1 = y.data.toList) ∧ ∀ W, Below w.heap.size w W → W.cell? ⟨b, off + j * 2, none⟩ = some (.string y)) := Lib.hid fun j hj => by
        have hjl : j < A.length := by omega
        obtain ⟨f0, _⟩ := HA.out j hjl
        exact ⟨⟨A[j].1.toArray⟩, fun h => by simp, fun W hW => (hW.cell (p := ⟨b, _, none⟩) (lt_of_cell f0)).trans f0⟩
      have HCI : Hid (∀ W, Below w.heap.size w W → W.cell? ⟨b, off + i * 2, none⟩ = some (.string nb)) := Lib.hid fun W hW => by
        rw [← hnb]
        exact (hW.cell (p := ⟨b, _, none⟩) (lt_of_cell e0)).trans e0
      have HAL : Hid (i < A.length) := Lib.hid hil
      generalize litB (A[i]'hil).2 = lb at *
      generalize nameB nb.data.toList = nbb at *
      obtain ⟨cn, hcn⟩ : ∃ cn, (nmsA A i).contains nb.data.toList = cn := ⟨_, rfl⟩
      rw [hcn] at hq hmem
      have HMEM := Lib.hid hmem
      have HQ2 : Hid ((!cn && nbb && lb && namedB (nmsA A (i + 1)) (A.drop (i + 1))) = Z) := Lib.hid (by rw [← hq, hns])
      have HJJ := Lib.hid (And.intro hj hj')
      clear hj hj' hq hns hmem hnb hnd hnz hy hx1 hx2 e0 e1 hbw hil hcn hge HQ
      cases nbb with
      | false =>
        have HF : Hid (false = Z) := Lib.hid (by rw [← HQ2.out]; simp)
        go_wp2_with fail
        refine (HNM.out _).mono ?_; rintro e w2 ⟨rfl, rfl⟩
        go_wp2_with fail
        go_ret
        exact ⟨ret_b HF.out, HB.out⟩
      | true =>
        cases lb with
        | false =>
          have HF : Hid (false = Z) := Lib.hid (by rw [← HQ2.out]; simp)
          go_wp2_with fail
          refine (HNM.out _).mono ?_; rintro e w2 ⟨rfl, rfl⟩
          go_wp2_with fail
          refine (HMV.out _ HB.out).mono ?_; rintro e w2 ⟨rfl, hb⟩
          have HB2 : Hid (Below w.heap.size w w2) := Lib.hid (HB.out.trans (hb.mono HB.out.size))
          clear hb
          go_wp2_with fail
          go_ret
          exact ⟨ret_b HF.out, HB2.out⟩
        | true =>
          go_wp2_with fail
          refine (HNM.out _).mono ?_; rintro e w2 ⟨rfl, rfl⟩
          go_wp2_with fail
          refine (HMV.out _ HB.out).mono ?_; rintro e w2 ⟨rfl, hb⟩
          have HB2 : Hid (Below w.heap.size w w2) := Lib.hid (HB.out.trans (hb.mono HB.out.size))
          clear hb r0 r1 HNM HMV
          go_wp2_with fail
          go_loopg [4] (i + 1) (fun gm kv wz => ∃ k : Nat, kv = .int .i64 (k : Int) ∧ (gm + k ≤ i + 1 ∧ i + 1 ≤ gm + k) ∧ k ≤ i ∧ Hid (∀ (j : Nat) (hj : j < A.length), j < k → A[j].1 ≠ nb.data.toList) ∧ Hid (Below w.heap.size w wz))
          case atStart => exact ⟨0, by go_num, ⟨by omega, by omega⟩, by omega, Lib.hid (fun j _ h => absurd h (by omega)), HB2⟩
          case round =>
            rename World => wz
            obtain ⟨k, rfl, ⟨hm, hm'⟩, hki, HNO, HB3⟩ := hrel
            have r2 := HCI.out wz HB3.out
            obtain ⟨gm1, rfl⟩ : ∃ gm1, gk = gm1 + 1 := ⟨gk - 1, by omega⟩
            by_cases hke : k = i
            · subst hke
              have hlt : ¬ (k : Int) < (k : Int) := by omega
              have HF : Hid (namedB (nmsA A (k + 1)) (A.drop (k + 1)) = Z) := Lib.hid (by
                have hc : cn = false := by
                  cases cn with
                  | false => rfl
                  | true =>
                    obtain ⟨j, hj, hjk, he⟩ := HMEM.out.1 rfl
                    exact absurd he (HNO.out j hj hjk)
                rw [← HQ2.out, hc]; rfl)
              clear hm hm'
              go_wp2_with fail
              obtain ⟨hj, hj'⟩ := HJJ.out
              go_roundg g1
              case measure => omega
              case rel => exact ⟨k + 1, by first | rfl | go_num, ⟨by omega, by omega⟩, hin2, HF, HB3⟩
            · have hkl : k < i := by omega
              obtain ⟨y, hy, hyc⟩ := HCELL.out k hkl
              have s0 := hyc _ HB3.out
              have k1 : (k : Int).toNat = k := by omega
              have k2 : (0 : Int) ≤ (k : Int) := by omega
              have k3 : (k : Int) < (n : Int) := by omega
              have k5 : (k : Int) < (i : Int) := by omega
              have k4 : IntKind.i64.wrap ((k : Int) + 1) = ((k + 1 : Nat) : Int) := by rw [IntWalk.i64_in _ (by omega)]; omega
              obtain ⟨eq, heq⟩ : ∃ eq, (y.toList == nb.toList) = eq := ⟨_, rfl⟩
              have HEQ : Hid ((eq = true → y.data.toList = nb.data.toList) ∧ (eq = false → y.data.toList ≠ nb.data.toList)) := Lib.hid (by
                rw [← heq, ByteArray.toList_eq, ByteArray.toList_eq]
                exact ⟨fun h => by simpa using h, fun h => by simpa using h⟩)
              have hkA : k < A.length := by have := HAL.out; omega
              have HYV : Hid ((A[k]'hkA).1 = y.data.toList) := Lib.hid (hy hkA)
              have HMM := Lib.hid (And.intro hm hm')
              clear hy hyc hm hm' hke
              cases eq with
              | true =>
                have HF : Hid (false = Z) := Lib.hid (by
                  have hc : cn = true := HMEM.out.2 ⟨k, hkA, hkl, by rw [HYV.out]; exact HEQ.out.1 rfl⟩
                  rw [← HQ2.out, hc]; rfl)
                go_wp2_with fail
                go_region
                all_goals
                  go_wp2_with fail
                  go_ret
                  exact ⟨ret_b HF.out, HB3.out.drew⟩
              | false =>
                have HNN : Hid (∀ (j : Nat) (hj : j < A.length), j < k + 1 → A[j].1 ≠ nb.data.toList) := Lib.hid fun j hj h => by
                  by_cases hjk : j = k
                  · subst hjk; rw [HYV.out]; exact HEQ.out.2 rfl
                  · exact HNO.out j hj (by omega)
                go_wp2_with fail
                go_region
                all_goals
                  go_wp2_with fail
                  obtain ⟨hm, hm'⟩ := HMM.out
                  go_roundg gm1
                  case measure => omega
                  case rel => exact ⟨k + 1, by first | rfl | go_num, ⟨by omega, by omega⟩, by omega, HNN, Lib.hid HB3.out.drew⟩
set_option maxRecDepth 100000 in
theorem rma_none (a : Option Addr) (c : Nat) (w : World) :
    Calls Tryz.prog 84 #[.slice a 0 c] w fun e w' => e = .returned (.bool true) ∧ Below w.heap.size w w' := by
  go_enter Tryz.func84, Tryz.ntmps84
  go_wp2_with fail
  refine wp_loop_rounds 1 ?_; rw [rounds_succ]
  go_wp2_with fail
  go_ret
  exact ⟨rfl, Below.refl _ _⟩
theorem rma_any (A : List (List UInt8 × List Cel)) (u : Value) (w : World) (hA : ArgSl u A w) (hs : ArgsSm A) :
    Calls Tryz.prog 84 #[u] w fun e w' => e = .returned (.bool (namedB [] A)) ∧ Below w.heap.size w w' := by
  rcases hA with ⟨a, c, rfl, rfl⟩ | ⟨b, off, cap, rfl, hrow, hpos⟩
  · exact rma_none a c w
  · exact rma_go A b off cap w hrow hs
end Go.Proofs.YtgacpmdebjndkaaGreatDoor
namespace Go.Proofs.YtgacpmdebjndkaaGreatDoor
open Go.RowKit
set_option maxRecDepth 100000 in
set_option maxHeartbeats 4000000 in
theorem rmd_go (D : List (List UInt8 × List (List UInt8 × List Cel))) (b off cap : Nat) (w : World) (hA : XRow ArgSl b off D w) (hs : DirsSm D) :
    Calls Tryz.prog 79 #[.slice (some ⟨b, off, none⟩) D.length cap] w fun e w' => e = .returned (.bool (D.all dirB)) ∧ Below w.heap.size w w' := by
  have HA := Lib.hid hA
  have HS := Lib.hid hs.2
  have hl := hs.1
  obtain ⟨Z, hZ⟩ : ∃ Z, D.all dirB = Z := ⟨_, rfl⟩
  have HZ0 : Hid ((D.drop 0).all dirB = Z) := Lib.hid hZ
  rw [hZ]
  obtain ⟨n, hn⟩ : ∃ n, D.length = n := ⟨_, rfl⟩
  have HN := Lib.hid hn
  rw [hn] at hl ⊢
  clear hA hs hZ hn
  go_enter Tryz.func79, Tryz.ntmps79
  go_wp2_with fail
  go_loopg [3] (n + 1) (fun gk iv wr => ∃ i : Nat, iv = .int .i64 (i : Int) ∧ (gk + i ≤ n + 1 ∧ n + 1 ≤ gk + i) ∧ i ≤ n ∧ Hid ((D.drop i).all dirB = Z) ∧ Hid (Below w.heap.size w wr))
  case atStart => exact ⟨0, by go_num, ⟨by omega, by omega⟩, by omega, HZ0, Lib.hid (Below.refl _ _)⟩
  case round =>
    clear HZ0
    rename World => wr
    obtain ⟨i, rfl, ⟨hj, hj'⟩, hin, HQ, HB⟩ := hrel
    obtain ⟨g1, rfl⟩ : ∃ g1, gk = g1 + 1 := ⟨gk - 1, by omega⟩
    by_cases hge : i = n
    · subst hge
      have hlt : ¬ (i : Int) < (i : Int) := by omega
      have HF : Hid (true = Z) := Lib.hid (by
        have := HQ.out
        rw [List.drop_of_length_le (by have := HN.out; omega)] at this
        exact this)
      clear hj hj'
      go_wp2_with fail
      go_ret
      exact ⟨ret_b HF.out, HB.out⟩
    · have hil : i < D.length := by have := HN.out; omega
      have i1 : (i : Int).toNat = i := by omega
      have i2 : (0 : Int) ≤ (i : Int) := by omega
      have i3 : (i : Int) < (n : Int) := by omega
      have i4 : IntKind.i64.wrap ((i : Int) + 1) = ((i + 1 : Nat) : Int) := by rw [IntWalk.i64_in _ (by omega)]; omega
      have hin2 : i + 1 ≤ n := by omega
      have hbw := HB.out
      obtain ⟨e0, a, vn, c, e1, hy⟩ := HA.out i hil
      obtain ⟨hx1, hx2⟩ := HS.out D[i] (List.getElem_mem hil)
      have r0 : wr.cell? ⟨b, off + i * 2, none⟩ = some (.string ⟨(D[i]'hil).1.toArray⟩) := (hbw.cell (p := ⟨b, _, none⟩) (lt_of_cell e0)).trans e0
      have r1 : wr.cell? ⟨b, off + i * 2 + 1, none⟩ = some (.slice a vn c) := (hbw.cell (p := ⟨b, _, none⟩) (lt_of_cell e0)).trans e1
      have hq := HQ.out
      rw [List.drop_eq_getElem_cons hil, List.all_cons] at hq
      have HMV : Hid (∀ W, Below w.heap.size w W → Calls Tryz.prog 84 #[.slice a vn c] W fun e w' => e = .returned (.bool (namedB [] (D[i]'hil).2)) ∧ Below W.heap.size W w') := Lib.hid fun W hW => rma_any _ _ W (ArgSl.below hy hW) hx2
      obtain ⟨nb, hnb⟩ : ∃ nb : ByteArray, (⟨(D[i]'hil).1.toArray⟩ : ByteArray) = nb := ⟨_, rfl⟩
      have hnd : (D[i]'hil).1 = nb.data.toList := by rw [← hnb]
      have hnz : nb.size ≤ 1000000 := by rw [← bsz, ← hnd]; exact hx1
      rw [hnb] at r0
      have hdb : dirB (D[i]'hil) = (nameB nb.data.toList && namedB [] (D[i]'hil).2) := by unfold dirB; rw [hnd]
      rw [hdb] at hq
      have HNM : Hid (∀ W, Calls Tryz.prog 70 #[.string nb] W fun e w' => e = .returned (.bool (nameB nb.data.toList)) ∧ W = w') := Lib.hid fun W => rname_any nb hnz W
      have HQ2 := Lib.hid hq
      have HJJ := Lib.hid (And.intro hj hj')
      clear hj hj' hq hdb hnb hnd hnz hy hx1 hx2 e0 e1 hbw hge HQ
      generalize namedB [] (D[i]'hil).2 = lb at *
      generalize nameB nb.data.toList = nbb at *
      clear hil
      cases nbb with
      | false =>
        have HF : Hid (false = Z) := Lib.hid (by rw [← HQ2.out]; simp)
        go_wp2_with fail
        refine (HNM.out _).mono ?_; rintro e w2 ⟨rfl, rfl⟩
        go_wp2_with fail
        go_ret
        exact ⟨ret_b HF.out, HB.out⟩
      | true =>
        cases lb with
        | false =>
          have HF : Hid (false = Z) := Lib.hid (by rw [← HQ2.out]; simp)
          go_wp2_with fail
          refine (HNM.out _).mono ?_; rintro e w2 ⟨rfl, rfl⟩
          go_wp2_with fail
          refine (HMV.out _ HB.out).mono ?_; rintro e w2 ⟨rfl, hb⟩
          have HB2 : Hid (Below w.heap.size w w2) := Lib.hid (HB.out.trans (hb.mono HB.out.size))
          clear hb
          go_wp2_with fail
          go_ret
          exact ⟨ret_b HF.out, HB2.out⟩
        | true =>
          have HF : Hid ((D.drop (i + 1)).all dirB = Z) := Lib.hid (by rw [← HQ2.out]; simp)
          go_wp2_with fail
          refine (HNM.out _).mono ?_; rintro e w2 ⟨rfl, rfl⟩
          go_wp2_with fail
          refine (HMV.out _ HB.out).mono ?_; rintro e w2 ⟨rfl, hb⟩
          have HB2 : Hid (Below w.heap.size w w2) := Lib.hid (HB.out.trans (hb.mono HB.out.size))
          clear hb
          go_wp2_with fail
          obtain ⟨hj, hj'⟩ := HJJ.out
          go_roundg g1
          case measure => omega
          case rel => exact ⟨i + 1, by first | rfl | go_num, ⟨by omega, by omega⟩, hin2, HF, HB2⟩
set_option maxRecDepth 100000 in
theorem rmd_none (a : Option Addr) (c : Nat) (w : World) :
    Calls Tryz.prog 79 #[.slice a 0 c] w fun e w' => e = .returned (.bool true) ∧ Below w.heap.size w w' := by
  go_enter Tryz.func79, Tryz.ntmps79
  go_wp2_with fail
  refine wp_loop_rounds 1 ?_; rw [rounds_succ]
  go_wp2_with fail
  go_ret
  exact ⟨rfl, Below.refl _ _⟩
theorem rmd_any (D : List (List UInt8 × List (List UInt8 × List Cel))) (u : Value) (w : World) (hA : DirSl u D w) (hs : DirsSm D) :
    Calls Tryz.prog 79 #[u] w fun e w' => e = .returned (.bool (D.all dirB)) ∧ Below w.heap.size w w' := by
  rcases hA with ⟨a, c, rfl, rfl⟩ | ⟨b, off, cap, rfl, hrow, hpos⟩
  · exact rmd_none a c w
  · exact rmd_go D b off cap w hrow hs
end Go.Proofs.YtgacpmdebjndkaaGreatDoor
namespace Go.Proofs.YtgacpmdebjndkaaGreatDoor
open Go.RowKit
def prvB (ws : List UInt8) (i : Nat) : UInt8 := if i = 0 then 2 else ws.getD (i - 1) 2
set_option maxRecDepth 100000 in
set_option maxHeartbeats 4000000 in
theorem rmt_go (nm : ByteArray) (nb : Bool) (a : Option Addr) (c : Nat) (ws : List UInt8) (hl : ws.length ≤ 8) (w : World) (hu : BSl (.slice a ws.length c) ws w)
    (HNM : Hid (∀ W, Calls Tryz.prog 70 #[.string nm] W fun e w' => e = .returned (.bool nb) ∧ W = w')) :
    Calls Tryz.prog 74 #[.agg #[.string nm, .slice a ws.length c]] w fun e w' => e = .returned (.bool (nb && typB 2 ws)) ∧ Below w.heap.size w w' := by
  obtain ⟨Z, hZ⟩ : ∃ Z, typB 2 ws = Z := ⟨_, rfl⟩
  have HT0 : Hid (typB (prvB ws 0) (ws.drop 0) = Z) := Lib.hid hZ
  rw [hZ]
  have HRW : Hid (0 < ws.length → ∃ b off, a = some ⟨b, off, none⟩ ∧ b < w.heap.size ∧ BRow b off ws w) := Lib.hid fun h => by
    rcases hu with ⟨a2, c2, e, rfl⟩ | ⟨b, off, cap, e, h2, h3⟩
    · simp at h
    · injection e with e1 e2 e3
      exact ⟨b, off, e1, lt_of_cell (h2 0 h3), h2⟩
  obtain ⟨n, hn⟩ : ∃ n, ws.length = n := ⟨_, rfl⟩
  have HN := Lib.hid hn
  rw [hn] at hl ⊢
  have hl8 : (n : Int) ≤ 8 := by omega
  clear hu hZ hn
  go_enter Tryz.func74, Tryz.ntmps74
  go_upto_region 1 with fail
  obtain ⟨w1, hw1⟩ : ∃ w1, w.alloc (.cells #[.string nm, .slice a n c] 38 (0, 0)) = w1 := ⟨_, rfl⟩
  have HB1 : Hid (Below w.heap.size w w1) := Lib.hid (by rw [← hw1]; exact (Below.refl _ _).alloc (Nat.le_refl _) _)
  have k1 : w1.heap[w.heap.size]? = some (.cells #[.string nm, .slice a n c] 38 (0, 0)) := by rw [← hw1]; exact heap_new _ _ _ rfl
  obtain ⟨d0, d1, _, _⟩ := ref_cells k1
  rw [hw1]
  clear hw1 k1
  go_wp2_with fail
  go_loopg [3] (n + 1) (fun gk iv wr => ∃ i : Nat, iv = .int .i64 (i : Int) ∧ (gk + i ≤ n + 1 ∧ n + 1 ≤ gk + i) ∧ i ≤ n ∧ Hid (typB (prvB ws i) (ws.drop i) = Z) ∧ wr = w1)
  case atStart => exact ⟨0, by go_num, ⟨by omega, by omega⟩, by omega, HT0, rfl⟩
  case round =>
    clear HT0
    rename World => wr
    obtain ⟨i, rfl, ⟨hj, hj'⟩, hin, HTB, rfl⟩ := hrel
    obtain ⟨g1, rfl⟩ : ∃ g1, gk = g1 + 1 := ⟨gk - 1, by omega⟩
    by_cases hge : i = n
    · subst hge
      have hlt : ¬ (i : Int) < (i : Int) := by omega
      have hz : Z = true := by
        have := HTB.out
        rw [List.drop_of_length_le (by have := HN.out; omega)] at this
        exact this.symm
      have HZ := Lib.hid hz
      clear hz hj hj'
      go_wp2_with fail
      refine (HNM.out _).mono ?_; rintro e w2 ⟨rfl, rfl⟩
      go_wp2_with fail
      go_ret
      exact ⟨ret_b (by rw [HZ.out, Bool.and_true]), HB1.out⟩
    · have hil : i < ws.length := by have := HN.out; omega
      obtain ⟨b, off, rfl, hbw, hrow⟩ := HRW.out (by omega)
      have hx := (HB1.out.cell (p := ⟨b, off + i, none⟩) hbw).trans (hrow i hil)
      have htb := HTB.out
      rw [List.drop_eq_getElem_cons hil, typB_step] at htb
      have hnx : prvB ws (i + 1) = ws[i]'hil := by
        unfold prvB
        rw [if_neg (by omega), Nat.add_sub_cancel, List.getD_eq_getElem?_getD, List.getElem?_eq_getElem hil]; rfl
      have HPV : Hid (∀ k, i = k + 1 → ∃ y : UInt8, prvB ws i = y ∧ wr.cell? ⟨b, off + k, none⟩ = some (.int .u8 (y.toNat : Int))) := Lib.hid fun k hk => by
        have hkl : k < ws.length := by omega
        refine ⟨ws[k], ?_, (HB1.out.cell (p := ⟨b, off + k, none⟩) hbw).trans (hrow k hkl)⟩
        unfold prvB
        rw [if_neg (by omega), show i - 1 = k by omega, List.getD_eq_getElem?_getD, List.getElem?_eq_getElem hkl]; rfl
      have hp0 : i = 0 → prvB ws i = 2 := fun h => by unfold prvB; rw [if_pos h]
      have HP0 := Lib.hid hp0
      generalize ws[i]'hil = x at hx htb hnx
      obtain ⟨xi, hxi⟩ : ∃ xi : Int, (x.toNat : Int) = xi := ⟨_, rfl⟩
      rw [hxi] at hx
      have i1 : (i : Int).toNat = i := by omega
      have i2 : (0 : Int) ≤ (i : Int) := by omega
      have i3 : (i : Int) < (n : Int) := by omega
      have i4 : IntKind.i64.wrap ((i : Int) + 1) = ((i + 1 : Nat) : Int) := by rw [IntWalk.i64_in _ (by omega)]; omega
      have HJJ := Lib.hid (And.intro hj hj')
      have HNX := Lib.hid hnx
      have hin2 : i + 1 ≤ n := by omega
      clear hj hj' hrow hbw hil HRW HTB hp0 hnx hge
      generalize prvB ws i = lst at *
      have HON : (typB x (ws.drop (i + 1)) = Z) → Hid (typB (prvB ws (i + 1)) (ws.drop (i + 1)) = Z) := fun h => Lib.hid (by rw [HNX.out]; exact h)
      by_cases hx2 : x = 2
      · subst hx2
        have hx3 : xi = 2 := by rw [← hxi]; rfl
        subst hx3
        have HTN := HON (by rw [← htb]; rfl)
        clear htb hxi HON
        by_cases hi0 : i = 0
        · have h00 : ¬ (0 : Int) < (i : Int) := by omega
          clear hi0
          go_wp2_with fail
          obtain ⟨hj, hj'⟩ := HJJ.out
          go_roundg g1
          case measure => omega
          case rel => exact ⟨i + 1, by first | rfl | go_num, ⟨by omega, by omega⟩, hin2, HTN, rfl⟩
        · have h00 : (0 : Int) < (i : Int) := by omega
          go_wp2_with fail
          obtain ⟨hj, hj'⟩ := HJJ.out
          go_roundg g1
          case measure => omega
          case rel => exact ⟨i + 1, by first | rfl | go_num, ⟨by omega, by omega⟩, hin2, HTN, rfl⟩
      · by_cases hx1 : x = 1
        · subst hx1
          have hx3 : xi = 1 := by rw [← hxi]; rfl
          subst hx3
          by_cases hi0 : i = 0
          · have h00 : ¬ (0 : Int) < (i : Int) := by omega
            have hl2 := HP0.out hi0
            have HTN := HON (by rw [← htb, hl2]; rfl)
            clear htb hxi HON hl2 hi0
            go_wp2_with fail
            obtain ⟨hj, hj'⟩ := HJJ.out
            go_roundg g1
            case measure => omega
            case rel => exact ⟨i + 1, by first | rfl | go_num, ⟨by omega, by omega⟩, hin2, HTN, rfl⟩
          · have h00 : (0 : Int) < (i : Int) := by omega
            obtain ⟨k, hk⟩ : ∃ k, i = k + 1 := ⟨i - 1, by omega⟩
            obtain ⟨y, hy, hyc⟩ := HPV.out k hk
            obtain ⟨yi, hyi⟩ : ∃ yi : Int, (y.toNat : Int) = yi := ⟨_, rfl⟩
            rw [hyi] at hyc
            subst hy
            have j1 : IntKind.i64.wrap ((i : Int) - 1) = (k : Int) := by rw [IntWalk.i64_in _ (by omega)]; omega
            have j2 : (k : Int).toNat = k := by omega
            have j3 : (0 : Int) ≤ (k : Int) := by omega
            have j4 : (k : Int) < (n : Int) := by omega
            by_cases hls : lst = 1
            · subst hls
              have hy1 : yi = 1 := by rw [← hyi]; rfl
              subst hy1
              have HF : Hid (Z = false) := Lib.hid (by rw [← htb]; rfl)
              clear htb hxi HON hyi hk hi0
              go_wp2_with fail
              go_ret
              exact ⟨ret_b (by rw [HF.out, Bool.and_false]), HB1.out⟩
            · have hy1 : ¬ yi = 1 := fun h => hls (UInt8.toNat_inj.1 (by have : ((1 : UInt8).toNat : Int) = 1 := rfl; omega))
              have hyb : (yi == 1) = false := by simpa using hy1
              have hlb : (lst == 1) = false := by simpa using hls
              have HTN := HON (by rw [← htb, hlb]; rfl)
              clear htb hxi HON hyi hls hlb hk hi0
              go_wp2_with fail
              obtain ⟨hj, hj'⟩ := HJJ.out
              go_roundg g1
              case measure => omega
              case rel => exact ⟨i + 1, by first | rfl | go_num, ⟨by omega, by omega⟩, hin2, HTN, rfl⟩
        · have h1 : ¬ xi = 1 := fun h => hx1 (UInt8.toNat_inj.1 (by have : ((1 : UInt8).toNat : Int) = 1 := rfl; omega))
          have h2 : ¬ xi = 2 := fun h => hx2 (UInt8.toNat_inj.1 (by have : ((2 : UInt8).toNat : Int) = 2 := rfl; omega))
          have h1b : (xi == 1) = false := by simpa using h1
          have h2b : (xi == 2) = false := by simpa using h2
          have HF : Hid (Z = false) := Lib.hid (by
            rw [← htb, (by simpa using hx1 : (x == 1) = false), (by simpa using hx2 : (x == 2) = false)]; rfl)
          clear htb hxi HON hx1 hx2
          go_wp2_with fail
          go_ret
          exact ⟨ret_b (by rw [HF.out, Bool.and_false]), HB1.out⟩
set_option maxRecDepth 100000 in
theorem rmt_long (nm : ByteArray) (a : Option Addr) (n c : Nat) (hn : ¬ (n : Int) ≤ 8) (w : World) :
    Calls Tryz.prog 74 #[.agg #[.string nm, .slice a n c]] w fun e w' => e = .returned (.bool false) ∧ Below w.heap.size w w' := by
  have h0 : (0 : Int) < (n : Int) := by omega
  have HB : Hid (Below w.heap.size w (w.alloc (.cells #[.string nm, .slice a n c] 38 (0, 0)))) := Lib.hid ((Below.refl _ _).alloc (Nat.le_refl _) _)
  go_enter Tryz.func74, Tryz.ntmps74
  go_wp2_with fail
  refine wp_loop_rounds 1 ?_; rw [rounds_succ]
  go_wp2_with fail
  go_ret
  exact ⟨rfl, HB.out⟩
end Go.Proofs.YtgacpmdebjndkaaGreatDoor
