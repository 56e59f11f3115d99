/- Walks and plain laws of this proof, joined from smaller texts (1). -/
import Derived.WalkKit
import Derived.Laws.StructEq
import Derived.Deep.QuietTactic
import Derived.Test.YtglhanblbojkhaaGreatDoorShelf
import Derived.Shelf.Strings.Builder1
import Derived.Lib.OthersKept
import Derived.Deep.Draws
import Derived.Deep.LoopGhost
import Derived.Laws.EntriesVeiled
import Derived.Lib.Bytealg
import Derived.Lib.Strings
import Derived.Lib.IndexBytes
import Derived.Laws.RangeString
import Derived.Shelf.Strings.SlTrimAscii
import Derived.Laws.Tables
import Derived.Laws.CopyOwn
import Derived.Test.YtglhanblbojkhaaGreatDoorK3
set_option linter.unusedSimpArgs false
set_option linter.unusedVariables false
namespace Go.Proofs.YtglhanblbojkhaaGreatDoor
open Go.RowKit

theorem val_R (n : Int) : R (val n) := by unfold val R; split <;> omega
end Go.Proofs.YtglhanblbojkhaaGreatDoor
namespace Go.Proofs.YtglhanblbojkhaaGreatDoor
open Go.RowKit
theorem sameV_iff : ∀ (L M : List Cel), sameV L M = true ↔ L = M
  | [], [] => by simp [sameV]
  | [], _ :: _ => by simp [sameV]
  | _ :: _, [] => by simp [sameV]
  | t :: r, u :: s => by
    rw [sameV, Bool.and_eq_true, eqC_iff, sameV_iff r s]; simp
end Go.Proofs.YtglhanblbojkhaaGreatDoor
namespace Go.Proofs.YtglhanblbojkhaaGreatDoor
open Go.Lib
def litJ (c : Cel) : List UInt8 := if c.kind = 0 then [110, 117, 108, 108] else if c.kind = 1 then (if c.num = 1 then [116, 114, 117, 101] else [102, 97, 108, 115, 101]) else if c.kind = 2 then Lib.itoa c.num else quoteL c.text
def preJ (isO first : Bool) (l : List Cel) : List UInt8 := (if first then [] else [44]) ++ (if isO then quoteL (l.headD ⟨0, [], [], 0, 0⟩).name ++ [58] else [])
/-- The JSON of so many items, members. -/
def kidsJ (val : List Cel → Option Nat) (txt : List Cel → List UInt8) (isO : Bool) : Nat → Bool → List Cel → List UInt8
  | 0, _, _ => []
  | n + 1, first, l => preJ isO first l ++ (txt l ++ kidsJ val txt isO n false (l.drop ((val l).getD 0)))
def headJ (kids : Cel → List Cel → List UInt8) : List Cel → List UInt8
  | [] => []
  | c :: r => if nestC c then (if c.kind == 6 then [91] else [123]) ++ (kids c r ++ (if c.kind == 6 then [93] else [125])) else litJ c
/-- The JSON of the value that begins a list. -/
def textJ : Nat → List Cel → List UInt8
  | 0 => headJ fun _ _ => []
  | d + 1 => headJ fun c r => kidsJ (valN d) (textJ d) (!(c.kind == 6)) c.many.toNat true r
theorem headJ_cons (kids : Cel → List Cel → List UInt8) (c : Cel) (r : List Cel) : headJ kids (c :: r) = if nestC c then (if c.kind == 6 then [91] else [123]) ++ (kids c r ++ (if c.kind == 6 then [93] else [125])) else litJ c := rfl
theorem textJ_zero (l : List Cel) : textJ 0 l = headJ (fun _ _ => []) l := rfl
theorem textJ_more (d : Nat) (l : List Cel) : textJ (d + 1) l = headJ (fun c r => kidsJ (valN d) (textJ d) (!(c.kind == 6)) c.many.toNat true r) l := rfl
theorem quoteC_len' (c : UInt8) : (quoteC c).length ≤ 6 := by
  unfold quoteC
  repeat' split
  all_goals simp
theorem quoteL_len' (l : List UInt8) : (quoteL l).length ≤ 6 * l.length + 2 := by
  unfold quoteL
  have : (l.flatMap quoteC).length ≤ 6 * l.length := by
    induction l with
    | nil => simp
    | cons c r ih =>
      rw [List.flatMap_cons, List.length_append, List.length_cons]
      have := quoteC_len' c
      omega
  simp only [List.length_append, List.length_cons, List.length_nil]
  omega
/-- Cells whose names and texts are short. -/
def ShortV (V : List Cel) : Prop := ∀ c ∈ V, c.name.length ≤ 3000 ∧ c.text.length ≤ 3000 ∧ R c.num ∧ R c.many
theorem preJ_len (isO first : Bool) (l : List Cel) (h : ShortV l) : (preJ isO first l).length ≤ 18004 := by
  have hn : (l.headD ⟨0, [], [], 0, 0⟩).name.length ≤ 3000 := by
    cases l with
    | nil => simp
    | cons c r => exact (h c (List.mem_cons_self ..)).1
  have hq := quoteL_len' (l.headD ⟨0, [], [], 0, 0⟩).name
  unfold preJ
  generalize (l.headD ⟨0, [], [], 0, 0⟩).name = nm at *
  cases isO <;> cases first <;> simp <;> omega
theorem litJ_len (c : Cel) (h : c.text.length ≤ 3000) (hr : R c.num) : (litJ c).length ≤ 18002 := by
  have hq := quoteL_len' c.text
  have hi := Lib.itoa_length_le c.num hr.1 hr.2
  unfold litJ
  split
  · simp
  · split
    · split <;> simp
    · split
      · omega
      · omega
theorem ShortV.drop {V : List Cel} (h : ShortV V) (n : Nat) : ShortV (V.drop n) := fun c hc => h c (List.mem_of_mem_drop hc)
theorem kidsJ_len (f : List Cel → Option Nat) (tf : List Cel → List UInt8) (h : ∀ l k, ShortV l → f l = some k → (tf l).length + 18004 ≤ 40000 * k) (isL isO : Bool) : ∀ (n : Nat) (first : Bool) (nm : List (List UInt8)) (l : List Cel) (k : Nat), ShortV l → kidsN f isL n nm l = some k → (kidsJ f tf isO n first l).length ≤ 40000 * k
  | 0, first, nm, l, k, hs, hk => by
    rw [kidsJ]; simp
  | n + 1, first, nm, [], k, hs, hk => by cases hk
  | n + 1, first, nm, c :: r, k, hs, hk => by
    rw [kidsN] at hk
    split at hk
    · split at hk
      · cases hk
      · rename_i k1 hk1
        rw [Option.map_eq_some_iff] at hk
        obtain ⟨k2, hk2, rfl⟩ := hk
        have ih := kidsJ_len f tf h isL isO n false _ _ k2 (hs.drop k1) hk2
        have h1 := h _ _ hs hk1
        have h2 := preJ_len isO first _ hs
        rw [kidsJ, hk1, Option.getD_some]
        rw [List.length_append, List.length_append]
        omega
    · cases hk
theorem headJ_len (kids : Cel → List Cel → Option Nat) (kj : Cel → List Cel → List UInt8) (l : List Cel) (k : Nat) (hs : ShortV l) (h : headN kids l = some k) (hk : ∀ c r k, l = c :: r → kids c r = some k → (kj c r).length ≤ 40000 * k) : (headJ kj l).length + 18004 ≤ 40000 * k := by
  cases l with
  | nil => cases h
  | cons c r =>
    obtain ⟨_, s2, s3, _⟩ := hs c (List.mem_cons_self ..)
    rw [headN_cons] at h
    rw [headJ_cons]
    cases h1 : oneC c with
    | false => rw [h1] at h; cases h
    | true =>
      cases h2 : nestC c with
      | false =>
        rw [h1, h2] at h
        obtain rfl : 1 = k := Option.some.inj h
        have := litJ_len c s2 s3
        show (litJ c).length + 18004 ≤ _
        omega
      | true =>
        rw [h1, h2, if_pos rfl, if_pos rfl, Option.map_eq_some_iff] at h
        obtain ⟨k2, hk2, rfl⟩ := h
        have := hk c r k2 rfl hk2
        rw [if_pos rfl, List.length_append, List.length_append]
        have e1 : (if (c.kind == 6) = true then ([91] : List UInt8) else [123]).length = 1 := by split <;> rfl
        have e2 : (if (c.kind == 6) = true then ([93] : List UInt8) else [125]).length = 1 := by split <;> rfl
        rw [e1, e2]
        omega
theorem textJ_len : ∀ (d : Nat) (l : List Cel) (k : Nat), ShortV l → valN d l = some k → (textJ d l).length + 18004 ≤ 40000 * k
  | 0, l, k, hs, h => headJ_len _ _ l k hs h (fun c r k _ h => by cases h)
  | d + 1, l, k, hs, h => headJ_len _ _ l k hs h (fun c r k e h => kidsJ_len (valN d) (textJ d) (textJ_len d) _ _ _ _ _ _ _ (fun x hx => hs x (by rw [e]; exact List.mem_cons_of_mem _ hx)) h)
/-- One round: where the next one begins. -/
theorem KS.step {V : List Cel} {d1 k : Nat} {isL : Bool} {n : Nat} {g : Nat} {nm : List (List UInt8)} {u p : Nat} (h : KS V d1 k isL (some n) (g + 1) nm u) (hpu : p = k + 1 + u) : ∃ (hp : p < V.length) (n1 : Nat), valN d1 (V.drop p) = some n1 ∧ KS V d1 k isL (some n) g (V[p].name :: nm) (u + n1) := by
  have hp : p < V.length := by
    rcases Nat.lt_or_ge p V.length with h' | h'
    · exact h'
    · have := h.out_ (by omega); cases this
  have hok : okN isL nm V[p].name = true := by
    cases ho : okN isL nm V[p].name with
    | true => rfl
    | false => have := h.bad hpu hp ho; cases this
  cases hv : valN d1 (V.drop p) with
  | none => have := h.fail hpu hp hok hv; cases this
  | some n1 => exact ⟨hp, n1, rfl, h.next hpu hp hok hv⟩
end Go.Proofs.YtglhanblbojkhaaGreatDoor
namespace Go.Proofs.YtglhanblbojkhaaGreatDoor
open Go.RowKit
theorem new_cell (W : World) (A : Array Value) (T : TypeId) (i : Nat) (v : Value) (h : A[i]? = some v) : (W.alloc (.cells A T)).cell? ⟨W.heap.size, i, none⟩ = some v := by
  rw [Lib.cell_of_heap (heap_alloc_new W _)]; exact h
theorem bld_size : (Tryz.prog.info? 61).map (·.size) = some 2 := by kernel_rfl
theorem bld_lies : liesAt Tryz.prog Tryz.prog.depth 61 (2 / Tryz.prog.cellsOf 61) 0 61 1 = true := by kernel_rfl
set_option maxRecDepth 100000 in
theorem copy_used (b : Nat) (w : World) (h0 : w.cell? ⟨b, 0, none⟩ = some (.pointer (some ⟨b, 0, none⟩))) :
    Calls Tryz.prog 54 #[.pointer (some ⟨b, 0, none⟩)] w fun e w' => e = .returned (.tuple #[]) ∧ w' = w := by
  obtain ⟨j, hj, _⟩ := Option.map_eq_some_iff.1 bld_size
  go_enter Tryz.func54, Tryz.ntmps54
  go_wp2
  rw [Lib.run_neq_ptr_same w _ Tryz.underlying58 hj]
  go_wp2
  go_end0
  exact ⟨rfl, rfl⟩
set_option maxRecDepth 100000 in
theorem copy_fresh (b : Nat) (w : World) (h0 : w.cell? ⟨b, 0, none⟩ = some (.pointer none)) (hsh : w.shape? b = some (61, 2)) (hfz : w.frozen? ⟨b, 0, none⟩ = false) :
    Calls Tryz.prog 54 #[.pointer (some ⟨b, 0, none⟩)] w fun e w' => e = .returned (.tuple #[]) ∧ w' = w.setCell ⟨b, 0, none⟩ (.pointer (some ⟨b, 0, none⟩)) := by
  obtain ⟨j, hj, hjs⟩ := Option.map_eq_some_iff.1 bld_size
  go_enter Tryz.func54, Tryz.ntmps54
  go_wp2
  rw [Lib.run_to_unsafe w ⟨b, 0, none⟩ Tryz.underlying58 Tryz.underlying119 hj (by rw [hjs]; decide) hsh (Nat.zero_lt_succ 1)]
  simp only [Result.andThen]
  rw [Oper.upon_value]
  go_wp2
  rw [run_callFunc_extern Tryz.func78 (by kernel_rfl) (by kernel_rfl) (by kernel_rfl) (e := Extern.AbiNoEscape.same) (by kernel_rfl)]
  rw [Lib.run_noEscape]
  simp only [Result.andThen]
  rw [Oper.upon_value]
  go_wp2
  rw [Lib.run_from_unsafe w ⟨b, 0, none⟩ Tryz.underlying119 Tryz.underlying58 hj hsh bld_lies]
  simp only [Result.andThen]
  rw [Oper.upon_value]
  go_wp2
  go_end0
  exact ⟨rfl, rfl⟩
theorem copy_any (B b : Nat) (bs : List Value) (w : World) (h : Lib.IsBuilder 61 5 B b bs w) :
    Calls Tryz.prog 54 #[.pointer (some ⟨b, 0, none⟩)] w fun e w' => e = .returned (.tuple #[]) ∧ (Lib.BuilderAt 61 5 B b (.pointer (some ⟨b, 0, none⟩)) bs w' ∧ Below B w w' ∧ Lib.OthersKept 5 (some b) w w') := by
  rcases h with h | h
  · refine (copy_fresh b w h.cell0 h.shape h.frozen0).mono ?_
    rintro e w' ⟨rfl, rfl⟩
    exact ⟨rfl, h.used _, (Below.refl B w).setCell (p := ⟨b, 0, none⟩) h.1 _, (Lib.OthersKept.refl _ _ w).setCell ⟨b, 0, none⟩ rfl _⟩
  · refine (copy_used b w h.cell0).mono ?_
    rintro e w' ⟨rfl, rfl⟩
    exact ⟨rfl, h, Below.refl B _, Lib.OthersKept.refl _ _ _⟩
theorem byte_info : (Tryz.prog.info? 5).map (fun i => (i.zero, i.size, i.bytes)) = some (some (.int .u8 0), 1, 1) := by kernel_rfl
set_option maxHeartbeats 1000000 in
set_option maxRecDepth 100000 in
theorem write_any (B b : Nat) (bs : List Value) (s : ByteArray) (w : World) (h : Lib.IsBuilder 61 5 B b bs w) (hlen : bs.length + s.size ≤ 140737488355328) (hBw : B ≤ w.heap.size) :
    Calls Tryz.prog 31 #[.pointer (some ⟨b, 0, none⟩), .string s] w fun e w' => e = .returned (.tuple #[.int .i64 s.size, .nilIface]) ∧ (Lib.BuilderAt 61 5 B b (.pointer (some ⟨b, 0, none⟩)) (bs ++ Lib.strCells s) w' ∧ Below B w w' ∧ Lib.OthersKept 5 (some b) w w') := by
  obtain ⟨i0, hi, hz0, hz1, hz2⟩ := info_parts byte_info
  go_enter Tryz.func31, Tryz.ntmps31
  go_wp2_with fail
  refine (copy_any B b bs _ h).mono ?_
  rintro e w1 ⟨rfl, h1, hb1, ho1⟩
  have HO := Lib.hid ho1
  clear ho1
  obtain ⟨hB, v, hbk, hown, hne⟩ := h1
  have c0 : w1.cell? ⟨b, 0, none⟩ = some (.pointer (some ⟨b, 0, none⟩)) := by rw [Lib.cell_of_heap hbk]; rfl
  have c1 : w1.cell? ⟨b, 1, none⟩ = some v := by rw [Lib.cell_of_heap hbk]; rfl
  go_wp2_with (refine Lib.wpList_append_own_string _ rfl _ _ 59 9 rfl B 5 i0 Tryz.underlying59 Tryz.underlying9 hi hz0 hz1 hz2 _ _ _ rfl hown s rfl ?c3 ?c4 ?c5 ?_)
  case c3 => unfold maxLen; omega
  case c4 => omega
  case c5 => have := hb1.size; omega
  intro v' w2 hown' hgrow _
  have hlt : b < w1.heap.size := by
    rcases Nat.lt_or_ge b w1.heap.size with h' | h'
    · exact h'
    · simp [Array.getElem?_eq_none h'] at hbk
  have hb2 : w2.heap[b]? = some (.cells #[.pointer (some ⟨b, 0, none⟩), v] 61 (0, 0)) := by
    rw [hgrow.block b hlt (fun e => hne e.symm)]
    exact hbk
  have d0 : w2.cell? ⟨b, 0, none⟩ = some (.pointer (some ⟨b, 0, none⟩)) := by rw [Lib.cell_of_heap hb2]; rfl
  have d1 : w2.cell? ⟨b, 1, none⟩ = some v := by rw [Lib.cell_of_heap hb2]; rfl
  have f1 : w2.frozen? ⟨b, 1, none⟩ = false := Lib.frozen_of_heap hb2 1
  obtain ⟨ao, n', cap, rfl⟩ : ∃ ao n' cap, v' = .slice ao n' cap := by
    rcases hown'.2 with ⟨hv, _⟩ | ⟨g, cap, cur, hv, _⟩
    · exact ⟨_, _, _, hv⟩
    · exact ⟨_, _, _, hv⟩
  go_wp2
  go_ret2
  refine ⟨rfl, ?_, ?_, ?_⟩
  · exact Lib.BuilderAt.put (T := 61) (e := 5) hB hb2 (bs' := bs ++ Lib.strCells s) (by simpa [Lib.strCells_length] using hown') (by decide)
  · exact (hb1.grown hgrow (by have := hb1.size; omega) (fun k hk => (hown.lt k hk).1)).setCell (p := ⟨b, 1, none⟩) hB _
  · exact (HO.out.grown hgrow (Lib.ownsRowF_kind (World.ownsRowF_of hown))).setCell ⟨b, 1, none⟩ rfl _
set_option maxHeartbeats 1000000 in
set_option maxRecDepth 100000 in
theorem writeByte_any (B b : Nat) (bs : List Value) (c : Int) (w : World) (h : Lib.IsBuilder 61 5 B b bs w) (hlen : bs.length + 1 ≤ 140737488355328) (hBw : B ≤ w.heap.size) :
    Calls Tryz.prog 33 #[.pointer (some ⟨b, 0, none⟩), .int .u8 c] w fun e w' => e = .returned .nilIface ∧ (Lib.BuilderAt 61 5 B b (.pointer (some ⟨b, 0, none⟩)) (bs ++ [.int .u8 c]) w' ∧ Below B w w' ∧ Lib.OthersKept 5 (some b) w w') := by
  obtain ⟨i0, hi, hz0, hz1, hz2⟩ := info_parts byte_info
  go_enter Tryz.func33, Tryz.ntmps33
  go_wp2_with fail
  refine (copy_any B b bs _ h).mono ?_
  rintro e w1 ⟨rfl, h1, hb1, ho1⟩
  have HO := Lib.hid ho1
  clear ho1
  obtain ⟨hB, v, hbk, hown, hne⟩ := h1
  have c0 : w1.cell? ⟨b, 0, none⟩ = some (.pointer (some ⟨b, 0, none⟩)) := by rw [Lib.cell_of_heap hbk]; rfl
  have c1 : w1.cell? ⟨b, 1, none⟩ = some v := by rw [Lib.cell_of_heap hbk]; rfl
  have hlt : b < w1.heap.size := (Array.getElem?_eq_some_iff.1 hbk).1
  go_wp2_with (at_builtin; refine wpList_append_own _ rfl _ _ 59 rfl B 5 i0 (.int .u8 0) 1 1 Tryz.underlying59 hi hz0 hz1 hz2 rfl (by decide) _ _ _ rfl (hown.alloc _) ⟨w1.heap.size, 0, none⟩ 1 1 [.int .u8 c] rfl rfl ?c1 ?c2 ?c3 ?c4 ?c5 ?_)
  case c1 =>
    intro j u hj
    match j, hj with
    | 0, hj =>
      have e : u = .int .u8 c := (Option.some.inj hj).symm
      rw [e]
      exact new_cell w1 _ _ 0 _ rfl
    | j + 1, hj => cases hj
  case c2 => intro u hu; rw [List.mem_singleton] at hu; rw [hu]; rfl
  case c3 => unfold maxLen; omega
  case c4 => omega
  case c5 => have := hb1.size; simp; omega
  intro v' w2 hown' hgrow _
  have hb2 : w2.heap[b]? = some (.cells #[.pointer (some ⟨b, 0, none⟩), v] 61 (0, 0)) := by
    rw [hgrow.block b (by simp; omega) (fun e => hne e.symm), Below.heap_alloc _ _ _ hlt]
    exact hbk
  have d0 : w2.cell? ⟨b, 0, none⟩ = some (.pointer (some ⟨b, 0, none⟩)) := by rw [Lib.cell_of_heap hb2]; rfl
  have d1 : w2.cell? ⟨b, 1, none⟩ = some v := by rw [Lib.cell_of_heap hb2]; rfl
  have f1 : w2.frozen? ⟨b, 1, none⟩ = false := Lib.frozen_of_heap hb2 1
  obtain ⟨ao, n', cap, rfl⟩ : ∃ ao n' cap, v' = .slice ao n' cap := by
    rcases hown'.2 with ⟨hv, _⟩ | ⟨g, cap, cur, hv, _⟩
    · exact ⟨_, _, _, hv⟩
    · exact ⟨_, _, _, hv⟩
  go_wp2
  go_ret
  refine ⟨rfl, ?_, ?_, ?_⟩
  · exact Lib.BuilderAt.put (T := 61) (e := 5) hB hb2 (bs' := bs ++ [.int .u8 c]) (by simpa using hown') (by decide)
  · exact ((hb1.alloc (by have := hb1.size; omega) _).grown hgrow (by have := hb1.size; simp; omega) (fun k hk => (hown.lt k hk).1)).setCell (p := ⟨b, 1, none⟩) hB _
  · exact ((HO.out.alloc _).grown hgrow (Lib.ownsRowF_kind (World.ownsRowF_of (hown.alloc _)))).setCell ⟨b, 1, none⟩ rfl _
/-- A builder in block b that holds these bytes. -/
def Bld (B b : Nat) (l : List UInt8) (w : World) : Prop := Lib.IsBuilder 61 5 B b (Lib.byteCells l) w
theorem wstr (B b : Nat) (l : List UInt8) (x : ByteArray) (w : World) (h : Bld B b l w) (hlen : l.length + x.size ≤ 100000000) (hBw : B ≤ w.heap.size) :
    Calls Tryz.prog 31 #[.pointer (some ⟨b, 0, none⟩), .string x] w fun e w' => e = .returned (.tuple #[.int .i64 x.size, .nilIface]) ∧ Bld B b (l ++ x.data.toList) w' ∧ Below B w w' ∧ Lib.OthersKept 5 (some b) w w' :=
  (write_any B b _ x w h (by rw [Lib.byteCells_length]; omega) hBw).mono fun e w' ⟨he, h1, h2, h3⟩ => ⟨he, by
    unfold Bld
    have e : Lib.byteCells (l ++ x.data.toList) = Lib.byteCells l ++ Lib.strCells x := by
      unfold Lib.byteCells Lib.strCells
      rw [List.map_append]
    rw [e]
    exact Or.inr h1, h2, h3⟩
theorem wbyte (B b : Nat) (l : List UInt8) (c : UInt8) (n : Int) (hn : n = (c.toNat : Int)) (w : World) (h : Bld B b l w) (hlen : l.length + 1 ≤ 100000000) (hBw : B ≤ w.heap.size) :
    Calls Tryz.prog 33 #[.pointer (some ⟨b, 0, none⟩), .int .u8 n] w fun e w' => e = .returned .nilIface ∧ Bld B b (l ++ [c]) w' ∧ Below B w w' ∧ Lib.OthersKept 5 (some b) w w' := by
  subst hn
  refine (writeByte_any B b _ _ w h (by rw [Lib.byteCells_length]; omega) hBw).mono ?_
  rintro e w' ⟨rfl, h1, h2, h3⟩
  refine ⟨rfl, ?_, h2, h3⟩
  unfold Bld
  have e : Lib.byteCells (l ++ [c]) = Lib.byteCells l ++ [Value.int .u8 c.toNat] := by
    unfold Lib.byteCells
    rw [List.map_append]; rfl
  rw [e]
  exact Or.inr h1
theorem wdone (B b : Nat) (l : List UInt8) (w : World) (h : Bld B b l w) (hBw : B ≤ w.heap.size) :
    Calls Tryz.prog 34 #[.pointer (some ⟨b, 0, none⟩)] w fun e w' => e = .returned (.string ⟨l.toArray⟩) ∧ Below B w w' :=
  Tryz.Builder_String_any B b l w h hBw
end Go.Proofs.YtglhanblbojkhaaGreatDoor
namespace Go.Proofs.YtglhanblbojkhaaGreatDoor
open Go.RowKit
/-- What a variable holds, it holds behind a call that only makes blocks. -/
theorem var_stays_w {P : Program} {w w' : World} {n : String} {cs : Array Value} (hv : w.var? P n = some cs) (hb : Below w.heap.size w w') : w'.var? P n = some cs := by
  unfold World.var? at hv
  obtain ⟨g, hg, h2⟩ := Option.bind_eq_some_iff.1 hv
  have hlt : g < w.heap.size := by
    rcases Nat.lt_or_ge g w.heap.size with h | h
    · exact h
    · rw [Array.getElem?_eq_none h] at h2; cases h2
  unfold World.var?
  rw [hg]
  simp only [Option.bind_some]
  rw [hb.block g hlt]; exact h2
/-- What the library's table of powers holds. -/
def EnvT (w : World) : Prop := Lib.TabIs Tryz.prog w "internal/strconv.uint64pow10" .u64 Lib.pow10Tab
theorem below_grow (w : World) (k : Nat) (os : Array Obj) : Below w.heap.size w (Go.Sort.grow (w.drewN k) os) := by
  refine ⟨rfl, rfl, rfl, by show w.heap.size ≤ ((w.drewN k).heap ++ os).size; rw [Array.size_append]; exact Nat.le_add_right _ _, fun i hi => ?_⟩
  show ((w.drewN k).heap ++ os)[i]? = w.heap[i]?
  rw [Array.getElem?_append_left (show i < (w.drewN k).heap.size from hi)]; rfl
theorem EnvT.stays {w w' : World} (h : EnvT w) (hb : Below w.heap.size w w') : EnvT w' := var_stays_w h hb
set_option maxHeartbeats 400000 in
theorem write_tab (n : Int) (hr : R n) (w : World) (ht : EnvT w) :
    Calls Tryz.prog 32 #[.int .i64 n] w fun e w' => e = .returned (.string ⟨(Lib.itoa n).toArray⟩) ∧ Below w.heap.size w w' := by
  have HT := Lib.hid ht
  clear ht
  go_enter Tryz.func32, Tryz.ntmps32
  go_wp2_with fail
  refine (Tryz.strconv_FormatInt_10 n hr.1 hr.2 _ HT.out).mono ?_; rintro e w1 ⟨rfl, k, os, rfl⟩
  go_wp2_with fail
  go_ret
  exact ⟨rfl, below_grow _ _ _⟩
end Go.Proofs.YtglhanblbojkhaaGreatDoor
namespace Go.Proofs.YtglhanblbojkhaaGreatDoor
open Go.RowKit Go.Lib
theorem all256 {f : UInt8 → Bool} (h : ∀ i : Fin 256, f (UInt8.ofNat i.val) = true) (c : UInt8) : f c = true := by
  have := h ⟨c.toNat, UInt8.toNat_lt c⟩
  simpa using this
theorem byte_cls (c : UInt8) : c = 34 ∨ c = 92 ∨ c = 8 ∨ c = 12 ∨ c = 10 ∨ c = 13 ∨ c = 9 ∨ c = 47 ∨ (c.toNat < 32 ∧ quoteC c = [92, 117, 48, 48, hexD (c.toNat / 16), hexD (c.toNat % 16)] ∧ c.toNat ≠ 8 ∧ c.toNat ≠ 9 ∧ c.toNat ≠ 10 ∧ c.toNat ≠ 12 ∧ c.toNat ≠ 13) ∨ (32 ≤ c.toNat ∧ quoteC c = [c] ∧ c.toNat ≠ 34 ∧ c.toNat ≠ 47 ∧ c.toNat ≠ 92) := by
  by_cases h34 : c = 34
  · simp [h34]
  by_cases h92 : c = 92
  · simp [h92]
  by_cases h8 : c = 8
  · simp [h8]
  by_cases h12 : c = 12
  · simp [h12]
  by_cases h10 : c = 10
  · simp [h10]
  by_cases h13 : c = 13
  · simp [h13]
  by_cases h9 : c = 9
  · simp [h9]
  by_cases h47 : c = 47
  · simp [h47]
  have g34 : c.toNat ≠ 34 := fun e => h34 (UInt8.toNat_inj.1 e)
  have g92 : c.toNat ≠ 92 := fun e => h92 (UInt8.toNat_inj.1 e)
  have g8 : c.toNat ≠ 8 := fun e => h8 (UInt8.toNat_inj.1 e)
  have g12 : c.toNat ≠ 12 := fun e => h12 (UInt8.toNat_inj.1 e)
  have g10 : c.toNat ≠ 10 := fun e => h10 (UInt8.toNat_inj.1 e)
  have g13 : c.toNat ≠ 13 := fun e => h13 (UInt8.toNat_inj.1 e)
  have g9 : c.toNat ≠ 9 := fun e => h9 (UInt8.toNat_inj.1 e)
  have g47 : c.toNat ≠ 47 := fun e => h47 (UInt8.toNat_inj.1 e)
  by_cases h : c.toNat < 32
  · right; right; right; right; right; right; right; right; left
    refine ⟨h, ?_, g8, g9, g10, g12, g13⟩
    unfold quoteC
    rw [if_neg (by simp [h34, h92]), if_neg h8, if_neg h9, if_neg h10, if_neg h12, if_neg h13, if_pos h]
  · right; right; right; right; right; right; right; right; right
    refine ⟨by omega, ?_, g34, g47, g92⟩
    unfold quoteC
    rw [if_neg (by simp [h34, h92]), if_neg h8, if_neg h9, if_neg h10, if_neg h12, if_neg h13, if_neg h]
theorem told_no (c : UInt8) (g8 : c.toNat ≠ 8) (g9 : c.toNat ≠ 9) (g10 : c.toNat ≠ 10) (g12 : c.toNat ≠ 12) (g13 : c.toNat ≠ 13) (g34 : c.toNat ≠ 34) (g47 : c.toNat ≠ 47) (g92 : c.toNat ≠ 92) : Lib.indexByte (⟨#[34, 92, 47, 8, 12, 10, 13, 9]⟩ : ByteArray).data.toList c = -1 := by
  have g := all256 (f := fun c => c.toNat == 8 || c.toNat == 9 || c.toNat == 10 || c.toNat == 12 || c.toNat == 13 || c.toNat == 34 || c.toNat == 47 || c.toNat == 92 || (Lib.indexByte (⟨#[34, 92, 47, 8, 12, 10, 13, 9]⟩ : ByteArray).data.toList c == -1)) (by decide +kernel) c
  simpa [g8, g9, g10, g12, g13, g34, g47, g92] using g
theorem and15 (n : Nat) (h : n < 256) : bits BinOp.and IntKind.u8 (n : Int) 15 = (n : Int) % 16 := by
  have g : ∀ i : Fin 256, bits BinOp.and IntKind.u8 (i.val : Int) 15 = (i.val : Int) % 16 := by decide +kernel
  exact g ⟨n, h⟩
theorem hexd_at (n : Nat) (h : n < (⟨#[48, 49, 50, 51, 52, 53, 54, 55, 56, 57, 97, 98, 99, 100, 101, 102]⟩ : ByteArray).size) : (⟨#[48, 49, 50, 51, 52, 53, 54, 55, 56, 57, 97, 98, 99, 100, 101, 102]⟩ : ByteArray)[n]'h = hexD n := by
  have g : ∀ i : Fin 16, (⟨#[48, 49, 50, 51, 52, 53, 54, 55, 56, 57, 97, 98, 99, 100, 101, 102]⟩ : ByteArray)[i.val]'i.isLt = hexD i.val := by decide +kernel
  exact g ⟨n, h⟩
set_option maxRecDepth 100000 in
set_option maxHeartbeats 8000000 in
theorem quote_any (s : ByteArray) (hs : s.size ≤ 100000) (w : World) :
    Calls Tryz.prog 28 #[.string s] w fun e w' => e = .returned (.string ⟨(quoteL s.data.toList).toArray⟩) ∧ Below w.heap.size w w' := by
  obtain ⟨r, hr⟩ : ∃ r, quoteL s.data.toList = r := ⟨_, rfl⟩
  have HR : Hid ([34] ++ ((s.data.toList.drop 0).flatMap quoteC ++ [34]) = r) := Lib.hid (by rw [List.drop_zero, ← hr]; unfold quoteL; simp)
  rw [hr]
  clear hr
  go_enter Tryz.func28, Tryz.ntmps28
  go_wp2_with fail
  go_loopg [3, 10] s.size (fun k u v wr => ∃ (j : Nat) (out : List UInt8) (ov : Value), ov = u ∧ v = .int .i64 j ∧ k + j = s.size ∧ out.length ≤ 6 * j + 1 ∧ Hid (Own w.heap.size ov out wr) ∧ Hid (out ++ ((s.data.toList.drop j).flatMap quoteC ++ [34]) = r) ∧ Below w.heap.size w wr)
  case atStart => exact ⟨0, [34], _, rfl, rfl, by omega, by simp, Lib.hid (Own.fresh rfl rfl (by decide) w), HR, (Below.refl _ _).alloc (Nat.le_refl _) _⟩
  case round =>
    rename World => wo
    obtain ⟨j, out, ov, rfl, rfl, hk, hout, HO, HJ, hbw⟩ := hrel
    have hsz := hbw.size
    by_cases hlt : j < s.size
    · have hd := drop_at s j hlt
      have HJ1 : (out ++ quoteC s[j]) ++ ((s.data.toList.drop (j + 1)).flatMap quoteC ++ [34]) = r := by
        have := HJ.out
        rw [hd, List.flatMap_cons] at this
        simpa [List.append_assoc] using this
      obtain ⟨g, rfl⟩ : ∃ g, gk = g + 1 := ⟨gk - 1, by omega⟩
      have hc8 : s[j].toNat < 256 := UInt8.toNat_lt _
      have hcls := byte_cls s[j]
      clear hd HJ
      rcases hcls with hx | hx | hx | hx | hx | hx | hx | hx | ⟨hx, hq, g8, g9, g10, g12, g13⟩ | ⟨hx, hq, g34, g47, g92⟩
      · have HJ2 : Hid ((out ++ [92, 34]) ++ ((s.data.toList.drop (j + 1)).flatMap quoteC ++ [34]) = r) := Lib.hid (by rw [hx] at HJ1; exact HJ1)
        have hn : s[j].toNat = 34 := by rw [hx]; rfl
        clear HJ1 hx hc8
        have HI : Hid (∀ w, Calls Tryz.prog 39 #[.string ⟨#[34, 92, 47, 8, 12, 10, 13, 9]⟩, .int .u8 34] w fun e w' => e = .returned (.int .i64 0) ∧ w = w') := Lib.hid (fun w => (Tryz.strings_IndexByte ⟨#[34, 92, 47, 8, 12, 10, 13, 9]⟩ 34 w).mono fun e w' ⟨h1, h2⟩ => ⟨h1, h2.symm⟩)
        go_wp2_with fail
        refine (HI.out _).mono ?_; rintro e w1 ⟨rfl, rfl⟩
        go_wp2_with (at_builtin; refine wpList_push rfl _ _ rfl w.heap.size ov out rfl (HO.out.alloc _) ⟨wo.heap.size, 0, none⟩ 2 [92, 34] rfl (new_bytes wo _ [92, 34]) ?c1 ?c2 ?_)
        case c1 => first | omega | (simp; omega)
        case c2 => first | omega | (simp; omega)
        intro v' w3 hown' hgrow
        have hbw3 : Below w.heap.size w w3 := (hbw.alloc hsz _).grown hgrow (by simp; omega) HO.out.lt
        have HO3 := Lib.hid hown'
        clear hown' hgrow HO
        go_wp2_with fail
        go_roundg g
        case measure => omega
        case rel => exact ⟨j + 1, out ++ [92, 34], _, rfl, by go_num, by omega, by simp; omega, HO3, HJ2, hbw3⟩
      · have HJ2 : Hid ((out ++ [92, 92]) ++ ((s.data.toList.drop (j + 1)).flatMap quoteC ++ [34]) = r) := Lib.hid (by rw [hx] at HJ1; exact HJ1)
        have hn : s[j].toNat = 92 := by rw [hx]; rfl
        clear HJ1 hx hc8
        have HI : Hid (∀ w, Calls Tryz.prog 39 #[.string ⟨#[34, 92, 47, 8, 12, 10, 13, 9]⟩, .int .u8 92] w fun e w' => e = .returned (.int .i64 1) ∧ w = w') := Lib.hid (fun w => (Tryz.strings_IndexByte ⟨#[34, 92, 47, 8, 12, 10, 13, 9]⟩ 92 w).mono fun e w' ⟨h1, h2⟩ => ⟨h1, h2.symm⟩)
        go_wp2_with fail
        refine (HI.out _).mono ?_; rintro e w1 ⟨rfl, rfl⟩
        go_wp2_with (at_builtin; refine wpList_push rfl _ _ rfl w.heap.size ov out rfl (HO.out.alloc _) ⟨wo.heap.size, 0, none⟩ 2 [92, 92] rfl (new_bytes wo _ [92, 92]) ?c1 ?c2 ?_)
        case c1 => first | omega | (simp; omega)
        case c2 => first | omega | (simp; omega)
        intro v' w3 hown' hgrow
        have hbw3 : Below w.heap.size w w3 := (hbw.alloc hsz _).grown hgrow (by simp; omega) HO.out.lt
        have HO3 := Lib.hid hown'
        clear hown' hgrow HO
        go_wp2_with fail
        go_roundg g
        case measure => omega
        case rel => exact ⟨j + 1, out ++ [92, 92], _, rfl, by go_num, by omega, by simp; omega, HO3, HJ2, hbw3⟩
      · have HJ2 : Hid ((out ++ [92, 98]) ++ ((s.data.toList.drop (j + 1)).flatMap quoteC ++ [34]) = r) := Lib.hid (by rw [hx] at HJ1; exact HJ1)
        have hn : s[j].toNat = 8 := by rw [hx]; rfl
        clear HJ1 hx hc8
        have HI : Hid (∀ w, Calls Tryz.prog 39 #[.string ⟨#[34, 92, 47, 8, 12, 10, 13, 9]⟩, .int .u8 8] w fun e w' => e = .returned (.int .i64 3) ∧ w = w') := Lib.hid (fun w => (Tryz.strings_IndexByte ⟨#[34, 92, 47, 8, 12, 10, 13, 9]⟩ 8 w).mono fun e w' ⟨h1, h2⟩ => ⟨h1, h2.symm⟩)
        go_wp2_with fail
        refine (HI.out _).mono ?_; rintro e w1 ⟨rfl, rfl⟩
        go_wp2_with (at_builtin; refine wpList_push rfl _ _ rfl w.heap.size ov out rfl (HO.out.alloc _) ⟨wo.heap.size, 0, none⟩ 2 [92, 98] rfl (new_bytes wo _ [92, 98]) ?c1 ?c2 ?_)
        case c1 => first | omega | (simp; omega)
        case c2 => first | omega | (simp; omega)
        intro v' w3 hown' hgrow
        have hbw3 : Below w.heap.size w w3 := (hbw.alloc hsz _).grown hgrow (by simp; omega) HO.out.lt
        have HO3 := Lib.hid hown'
        clear hown' hgrow HO
        go_wp2_with fail
        go_roundg g
        case measure => omega
        case rel => exact ⟨j + 1, out ++ [92, 98], _, rfl, by go_num, by omega, by simp; omega, HO3, HJ2, hbw3⟩
      · have HJ2 : Hid ((out ++ [92, 102]) ++ ((s.data.toList.drop (j + 1)).flatMap quoteC ++ [34]) = r) := Lib.hid (by rw [hx] at HJ1; exact HJ1)
        have hn : s[j].toNat = 12 := by rw [hx]; rfl
        clear HJ1 hx hc8
        have HI : Hid (∀ w, Calls Tryz.prog 39 #[.string ⟨#[34, 92, 47, 8, 12, 10, 13, 9]⟩, .int .u8 12] w fun e w' => e = .returned (.int .i64 4) ∧ w = w') := Lib.hid (fun w => (Tryz.strings_IndexByte ⟨#[34, 92, 47, 8, 12, 10, 13, 9]⟩ 12 w).mono fun e w' ⟨h1, h2⟩ => ⟨h1, h2.symm⟩)
        go_wp2_with fail
        refine (HI.out _).mono ?_; rintro e w1 ⟨rfl, rfl⟩
        go_wp2_with (at_builtin; refine wpList_push rfl _ _ rfl w.heap.size ov out rfl (HO.out.alloc _) ⟨wo.heap.size, 0, none⟩ 2 [92, 102] rfl (new_bytes wo _ [92, 102]) ?c1 ?c2 ?_)
        case c1 => first | omega | (simp; omega)
        case c2 => first | omega | (simp; omega)
        intro v' w3 hown' hgrow
        have hbw3 : Below w.heap.size w w3 := (hbw.alloc hsz _).grown hgrow (by simp; omega) HO.out.lt
        have HO3 := Lib.hid hown'
        clear hown' hgrow HO
        go_wp2_with fail
        go_roundg g
        case measure => omega
        case rel => exact ⟨j + 1, out ++ [92, 102], _, rfl, by go_num, by omega, by simp; omega, HO3, HJ2, hbw3⟩
      · have HJ2 : Hid ((out ++ [92, 110]) ++ ((s.data.toList.drop (j + 1)).flatMap quoteC ++ [34]) = r) := Lib.hid (by rw [hx] at HJ1; exact HJ1)
        have hn : s[j].toNat = 10 := by rw [hx]; rfl
        clear HJ1 hx hc8
        have HI : Hid (∀ w, Calls Tryz.prog 39 #[.string ⟨#[34, 92, 47, 8, 12, 10, 13, 9]⟩, .int .u8 10] w fun e w' => e = .returned (.int .i64 5) ∧ w = w') := Lib.hid (fun w => (Tryz.strings_IndexByte ⟨#[34, 92, 47, 8, 12, 10, 13, 9]⟩ 10 w).mono fun e w' ⟨h1, h2⟩ => ⟨h1, h2.symm⟩)
        go_wp2_with fail
        refine (HI.out _).mono ?_; rintro e w1 ⟨rfl, rfl⟩
        go_wp2_with (at_builtin; refine wpList_push rfl _ _ rfl w.heap.size ov out rfl (HO.out.alloc _) ⟨wo.heap.size, 0, none⟩ 2 [92, 110] rfl (new_bytes wo _ [92, 110]) ?c1 ?c2 ?_)
        case c1 => first | omega | (simp; omega)
        case c2 => first | omega | (simp; omega)
        intro v' w3 hown' hgrow
        have hbw3 : Below w.heap.size w w3 := (hbw.alloc hsz _).grown hgrow (by simp; omega) HO.out.lt
        have HO3 := Lib.hid hown'
        clear hown' hgrow HO
        go_wp2_with fail
        go_roundg g
        case measure => omega
        case rel => exact ⟨j + 1, out ++ [92, 110], _, rfl, by go_num, by omega, by simp; omega, HO3, HJ2, hbw3⟩
      · have HJ2 : Hid ((out ++ [92, 114]) ++ ((s.data.toList.drop (j + 1)).flatMap quoteC ++ [34]) = r) := Lib.hid (by rw [hx] at HJ1; exact HJ1)
        have hn : s[j].toNat = 13 := by rw [hx]; rfl
        clear HJ1 hx hc8
        have HI : Hid (∀ w, Calls Tryz.prog 39 #[.string ⟨#[34, 92, 47, 8, 12, 10, 13, 9]⟩, .int .u8 13] w fun e w' => e = .returned (.int .i64 6) ∧ w = w') := Lib.hid (fun w => (Tryz.strings_IndexByte ⟨#[34, 92, 47, 8, 12, 10, 13, 9]⟩ 13 w).mono fun e w' ⟨h1, h2⟩ => ⟨h1, h2.symm⟩)
        go_wp2_with fail
        refine (HI.out _).mono ?_; rintro e w1 ⟨rfl, rfl⟩
        go_wp2_with (at_builtin; refine wpList_push rfl _ _ rfl w.heap.size ov out rfl (HO.out.alloc _) ⟨wo.heap.size, 0, none⟩ 2 [92, 114] rfl (new_bytes wo _ [92, 114]) ?c1 ?c2 ?_)
        case c1 => first | omega | (simp; omega)
        case c2 => first | omega | (simp; omega)
        intro v' w3 hown' hgrow
        have hbw3 : Below w.heap.size w w3 := (hbw.alloc hsz _).grown hgrow (by simp; omega) HO.out.lt
        have HO3 := Lib.hid hown'
        clear hown' hgrow HO
        go_wp2_with fail
        go_roundg g
        case measure => omega
        case rel => exact ⟨j + 1, out ++ [92, 114], _, rfl, by go_num, by omega, by simp; omega, HO3, HJ2, hbw3⟩
      · have HJ2 : Hid ((out ++ [92, 116]) ++ ((s.data.toList.drop (j + 1)).flatMap quoteC ++ [34]) = r) := Lib.hid (by rw [hx] at HJ1; exact HJ1)
        have hn : s[j].toNat = 9 := by rw [hx]; rfl
        clear HJ1 hx hc8
        have HI : Hid (∀ w, Calls Tryz.prog 39 #[.string ⟨#[34, 92, 47, 8, 12, 10, 13, 9]⟩, .int .u8 9] w fun e w' => e = .returned (.int .i64 7) ∧ w = w') := Lib.hid (fun w => (Tryz.strings_IndexByte ⟨#[34, 92, 47, 8, 12, 10, 13, 9]⟩ 9 w).mono fun e w' ⟨h1, h2⟩ => ⟨h1, h2.symm⟩)
        go_wp2_with fail
        refine (HI.out _).mono ?_; rintro e w1 ⟨rfl, rfl⟩
        go_wp2_with (at_builtin; refine wpList_push rfl _ _ rfl w.heap.size ov out rfl (HO.out.alloc _) ⟨wo.heap.size, 0, none⟩ 2 [92, 116] rfl (new_bytes wo _ [92, 116]) ?c1 ?c2 ?_)
        case c1 => first | omega | (simp; omega)
        case c2 => first | omega | (simp; omega)
        intro v' w3 hown' hgrow
        have hbw3 : Below w.heap.size w w3 := (hbw.alloc hsz _).grown hgrow (by simp; omega) HO.out.lt
        have HO3 := Lib.hid hown'
        clear hown' hgrow HO
        go_wp2_with fail
        go_roundg g
        case measure => omega
        case rel => exact ⟨j + 1, out ++ [92, 116], _, rfl, by go_num, by omega, by simp; omega, HO3, HJ2, hbw3⟩
      · have HJ2 : Hid ((out ++ [47]) ++ ((s.data.toList.drop (j + 1)).flatMap quoteC ++ [34]) = r) := Lib.hid (by rw [hx] at HJ1; exact HJ1)
        have hn : s[j].toNat = 47 := by rw [hx]; rfl
        clear HJ1 hx hc8
        have HI : Hid (∀ w, Calls Tryz.prog 39 #[.string ⟨#[34, 92, 47, 8, 12, 10, 13, 9]⟩, .int .u8 47] w fun e w' => e = .returned (.int .i64 2) ∧ w = w') := Lib.hid (fun w => (Tryz.strings_IndexByte ⟨#[34, 92, 47, 8, 12, 10, 13, 9]⟩ 47 w).mono fun e w' ⟨h1, h2⟩ => ⟨h1, h2.symm⟩)
        go_wp2_with fail
        refine (HI.out _).mono ?_; rintro e w1 ⟨rfl, rfl⟩
        go_wp2_with (at_builtin; refine wpList_push rfl _ _ rfl w.heap.size ov out rfl (HO.out.alloc _) ⟨wo.heap.size, 0, none⟩ 1 [47] rfl (new_bytes wo _ [47]) ?c1 ?c2 ?_)
        case c1 => first | omega | (simp; omega)
        case c2 => first | omega | (simp; omega)
        intro v' w3 hown' hgrow
        have hbw3 : Below w.heap.size w w3 := (hbw.alloc hsz _).grown hgrow (by simp; omega) HO.out.lt
        have HO3 := Lib.hid hown'
        clear hown' hgrow HO
        go_wp2_with fail
        go_roundg g
        case measure => omega
        case rel => exact ⟨j + 1, out ++ [47], _, rfl, by go_num, by omega, by simp; omega, HO3, HJ2, hbw3⟩
      · have HJ2 : Hid ((out ++ [92, 117, 48, 48, hexD (s[j].toNat / 16), hexD (s[j].toNat % 16)]) ++ ((s.data.toList.drop (j + 1)).flatMap quoteC ++ [34]) = r) := Lib.hid (by rw [hq] at HJ1; exact HJ1)
        have HI : Hid (∀ w, Calls Tryz.prog 39 #[.string ⟨#[34, 92, 47, 8, 12, 10, 13, 9]⟩, .int .u8 (s[j].toNat : Int)] w fun e w' => e = .returned (.int .i64 (-1)) ∧ w = w') := Lib.hid (fun w => by
          have := Tryz.strings_IndexByte ⟨#[34, 92, 47, 8, 12, 10, 13, 9]⟩ (s[j].toNat : Int) w
          rw [show ((s[j].toNat : Int)).toNat.toUInt8 = s[j] by simp, told_no s[j] g8 g9 g10 g12 g13 (by omega) (by omega) (by omega)] at this
          exact this.mono fun e w' ⟨h1, h2⟩ => ⟨h1, h2.symm⟩)
        have n47 : ((s[j].toNat : Int) == 47) = false := by rw [beq_eq_false_iff_ne]; omega
        have m47 : ¬ (s[j].toNat : Int) = 47 := by omega
        have hx2 : (s[j].toNat : Int) < 32 := by omega
        have hx3 : ¬ (32 : Int) ≤ (s[j].toNat : Int) := by omega
        obtain ⟨a, ea⟩ : ∃ a, s[j].toNat / 16 = a := ⟨_, rfl⟩
        obtain ⟨b, eb⟩ : ∃ b, s[j].toNat % 16 = b := ⟨_, rfl⟩
        have la : a < 16 := by omega
        have lb : b < 16 := by omega
        have fa : (s[j].toNat : Int) / 16 = a := by omega
        have fb : (s[j].toNat : Int) % 16 = b := by omega
        have fc : (s[j].toNat : Int).tmod 16 = b := by rw [Int.tmod_eq_emod_of_nonneg (by omega)]; exact fb
        have fd : (s[j].toNat : Int).tdiv 16 = a := by rw [Int.tdiv_eq_ediv_of_nonneg (by omega)]; exact fa
        have fe : bits BinOp.and IntKind.u8 (s[j].toNat : Int) 15 = b := by rw [and15 _ (by omega)]; exact fb
        have la2 : (a : Int) < 16 := by omega
        have lb2 : (b : Int) < 16 := by omega
        have la3 : (0 : Int) ≤ a := by omega
        have lb3 : (0 : Int) ≤ b := by omega
        have va : IntKind.u8.wrap (a : Int) = a := IntWalk.u8_in _ (by omega)
        have vb : IntKind.u8.wrap (b : Int) = b := IntWalk.u8_in _ (by omega)
        rw [ea, eb] at HJ2
        obtain ⟨y1, hy1⟩ : ∃ y, hexD a = y := ⟨_, rfl⟩
        obtain ⟨y2, hy2⟩ : ∃ y, hexD b = y := ⟨_, rfl⟩
        have U1 : ∀ h, ((⟨#[48, 49, 50, 51, 52, 53, 54, 55, 56, 57, 97, 98, 99, 100, 101, 102]⟩ : ByteArray)[a]'h) = y1 := fun h => by rw [← hy1]; exact hexd_at a h
        have U2 : ∀ h, ((⟨#[48, 49, 50, 51, 52, 53, 54, 55, 56, 57, 97, 98, 99, 100, 101, 102]⟩ : ByteArray)[b]'h) = y2 := fun h => by rw [← hy2]; exact hexd_at b h
        rw [hy1, hy2] at HJ2
        clear HJ1 hq g8 g9 g10 g12 g13 ea eb hy1 hy2
        go_wp2_with fail
        refine (HI.out _).mono ?_; rintro e w1 ⟨rfl, rfl⟩
        go_wp2_with fail
        refine wp_region_held_drew (S := fun _ => True) (by kernel_rfl) (trivial) (fun hHeld => ?_)
        refine tky 0 (some 40) (v := ?_) rfl (by kernel_rfl) (by kernel_rfl) (by kernel_rfl) (fun _ _ _ h => h) ?_ hHeld ?_
        rotate_left
        focus (intro w hSw; (try dsimp only at hSw); go_simp; (try with_reducible rfl); done)
        simp only [Act.put, List.setIfInBounds_toArray, List.set_cons_zero, List.set_cons_succ]
        refine tky 1 (some 41) (v := ?_) rfl (by kernel_rfl) (by kernel_rfl) (by kernel_rfl) (fun _ _ _ h => h) ?_ hHeld ?_
        rotate_left
        focus (intro w hSw; (try dsimp only at hSw); go_simp; (try with_reducible rfl); done)
        simp only [Act.put, List.setIfInBounds_toArray, List.set_cons_zero, List.set_cons_succ]
        refine tky 2 (some 42) (v := ?_) rfl (by kernel_rfl) (by kernel_rfl) (by kernel_rfl) (fun _ _ _ h => h) ?_ hHeld ?_
        rotate_left
        focus (intro w hSw; (try dsimp only at hSw); go_simp; (try with_reducible rfl); done)
        simp only [Act.put, List.setIfInBounds_toArray, List.set_cons_zero, List.set_cons_succ]
        refine tky 3 (some 43) (v := ?_) rfl (by kernel_rfl) (by kernel_rfl) (by kernel_rfl) (fun _ _ _ h => h) ?_ hHeld ?_
        rotate_left
        focus (intro w hSw; (try dsimp only at hSw); go_simp; (try with_reducible rfl); done)
        simp only [Act.put, List.setIfInBounds_toArray, List.set_cons_zero, List.set_cons_succ]
        refine tky 4 (some 44) (v := ?_) rfl (by kernel_rfl) (by kernel_rfl) (by kernel_rfl) (fun _ _ _ h => h) ?_ hHeld ?_
        rotate_left
        focus (intro w hSw; (try dsimp only at hSw); go_simp; (try with_reducible rfl); done)
        simp only [Act.put, List.setIfInBounds_toArray, List.set_cons_zero, List.set_cons_succ]
        refine tky 5 (some 45) (v := ?_) rfl (by kernel_rfl) (by kernel_rfl) (by kernel_rfl) (fun _ _ _ h => h) ?_ hHeld ?_
        rotate_left
        focus (intro w hSw; (try dsimp only at hSw); go_simp; (try with_reducible rfl); done)
        simp only [Act.put, List.setIfInBounds_toArray, List.set_cons_zero, List.set_cons_succ]
        refine tky 6 (some 46) (v := ?_) rfl (by kernel_rfl) (by kernel_rfl) (by kernel_rfl) (fun _ _ _ h => h) ?_ hHeld ?_
        rotate_left
        focus (intro w hSw; (try dsimp only at hSw); go_simp; (try with_reducible rfl); done)
        simp only [Act.put, List.setIfInBounds_toArray, List.set_cons_zero, List.set_cons_succ]
        refine rcons 7 rfl (by kernel_rfl) (fun K hK => ?_)
        go_simp
        refine hK.out _ _ (trivial) (fun hHeld2 => ?_)
        clear hK K hHeld
        have hHeld := hHeld2
        clear hHeld2
        (try simp only [Act.put, List.setIfInBounds_toArray, List.set_cons_zero, List.set_cons_succ])
        refine rcons 8 rfl (by kernel_rfl) (fun K hK => ?_)
        rw [if_pos]
        rotate_left
        focus kernel_rfl
        (refine wp_push _ _ rfl w.heap.size ov out rfl (by exact (HO.out.drew.alloc _)) ⟨wo.heap.size, 0, none⟩ 6 [92, 117, 48, 48, y1, y2] rfl (by exact (new_bytes wo.drew _ [92, 117, 48, 48, y1, y2])) (by show out.length + 6 ≤ _; omega) (by show _ ≤ Array.size _; simp <;> omega) ?_; intro v' w3 hown' hgrow)
        (try dsimp only)
        refine hK.out _ _ (trivial) (fun hHeld2 => ?_)
        clear hK K hHeld
        have hHeld := hHeld2
        clear hHeld2
        (try simp only [Act.put, List.setIfInBounds_toArray, List.set_cons_zero, List.set_cons_succ])
        refine tky 9 (some 3) (v := ?_) rfl (by kernel_rfl) (by kernel_rfl) (by kernel_rfl) (fun _ _ _ h => h) ?_ hHeld ?_
        rotate_left
        focus (intro w hSw; (try dsimp only at hSw); go_simp; (try with_reducible rfl); done)
        simp only [Act.put, List.setIfInBounds_toArray, List.set_cons_zero, List.set_cons_succ]
        refine wpAnyH_done (by kernel_rfl) ?_ _
        have hbw3 : Below w.heap.size w w3 := Below.grown ((hbw.alloc hsz _).drew) hgrow (by show _ ≤ Array.size _; simp <;> omega) HO.out.lt
        have HO3 := Lib.hid hown'
        clear hown' hgrow HO hHeld
        go_wp2_with fail
        go_roundg g
        case measure => omega
        case rel => exact ⟨j + 1, out ++ [92, 117, 48, 48, y1, y2], _, rfl, by go_num, by omega, by simp; omega, HO3, HJ2, hbw3⟩
      · have HJ2 : Hid ((out ++ [s[j]]) ++ ((s.data.toList.drop (j + 1)).flatMap quoteC ++ [34]) = r) := Lib.hid (by rw [hq] at HJ1; exact HJ1)
        have HI : Hid (∀ w, Calls Tryz.prog 39 #[.string ⟨#[34, 92, 47, 8, 12, 10, 13, 9]⟩, .int .u8 (s[j].toNat : Int)] w fun e w' => e = .returned (.int .i64 (-1)) ∧ w = w') := Lib.hid (fun w => by
          have := Tryz.strings_IndexByte ⟨#[34, 92, 47, 8, 12, 10, 13, 9]⟩ (s[j].toNat : Int) w
          rw [show ((s[j].toNat : Int)).toNat.toUInt8 = s[j] by simp, told_no s[j] (by omega) (by omega) (by omega) (by omega) (by omega) g34 g47 g92] at this
          exact this.mono fun e w' ⟨h1, h2⟩ => ⟨h1, h2.symm⟩)
        have n47 : ((s[j].toNat : Int) == 47) = false := by rw [beq_eq_false_iff_ne]; omega
        have m47 : ¬ (s[j].toNat : Int) = 47 := by omega
        have hx2 : (32 : Int) ≤ (s[j].toNat : Int) := by omega
        clear HJ1 hq g34 g47 g92
        go_wp2_with fail
        refine (HI.out _).mono ?_; rintro e w1 ⟨rfl, rfl⟩
        go_wp2_with (at_builtin; refine wpList_push rfl _ _ rfl w.heap.size ov out rfl (HO.out.alloc _) ⟨wo.heap.size, 0, none⟩ 1 [s[j]] rfl (new_bytes wo _ [s[j]]) ?c1 ?c2 ?_)
        case c1 => first | omega | (simp; omega)
        case c2 => first | omega | (simp; omega)
        intro v' w3 hown' hgrow
        have hbw3 : Below w.heap.size w w3 := (hbw.alloc hsz _).grown hgrow (by simp; omega) HO.out.lt
        have HO3 := Lib.hid hown'
        clear hown' hgrow HO
        go_wp2_with fail
        go_roundg g
        case measure => omega
        case rel => exact ⟨j + 1, out ++ [s[j]], _, rfl, by go_num, by omega, by simp; omega, HO3, HJ2, hbw3⟩
    · have HJ2 : Hid (out ++ [34] = r) := Lib.hid (by
        have := HJ.out
        rw [List.drop_of_length_le (by rw [Array.length_toList]; exact Nat.le_of_not_lt hlt)] at this
        exact this)
      clear HJ
      go_wp2_with (at_builtin; refine wpList_push rfl _ _ rfl w.heap.size ov out rfl (HO.out.alloc _) ⟨wo.heap.size, 0, none⟩ 1 [34] rfl (new_bytes wo _ [34]) ?c1 ?c2 ?_)
      case c1 => first | omega | (simp; omega)
      case c2 => first | omega | (simp; omega)
      intro v' w3 hown' hgrow
      have hbw3 : Below w.heap.size w w3 := (hbw.alloc hsz _).grown hgrow (by simp; omega) HO.out.lt
      have HC := run_convert_own hown'
      clear hown' hgrow HO
      go_wp2_with fail
      go_ret
      exact ⟨congrArg (fun z : List UInt8 => Ending.returned (Value.string ⟨z.toArray⟩)) HJ2.out, hbw3⟩
end Go.Proofs.YtglhanblbojkhaaGreatDoor
namespace Go.Proofs.YtglhanblbojkhaaGreatDoor
open Go.RowKit
theorem ib_cases (c : UInt8) : ∀ l : List UInt8, (l.contains c = true ∧ ∃ k : Nat, Lib.indexByte l c = k) ∨ (l.contains c = false ∧ Lib.indexByte l c = -1)
  | [] => Or.inr ⟨rfl, rfl⟩
  | b :: l => by
    rw [Lib.indexByte, List.contains_cons]
    by_cases hb : b = c
    · left; subst hb; exact ⟨by simp, 0, by simp⟩
    · have h1 : (b == c) = false := by simpa using hb
      have h2 : (c == b) = false := by simpa using fun e => hb e.symm
      rw [h1, h2, Bool.false_or]
      rcases ib_cases c l with ⟨g1, k, g2⟩ | ⟨g1, g2⟩
      · left
        refine ⟨g1, k + 1, ?_⟩
        rw [g2]
        have : (((k : Int)) == -1) = false := by rw [beq_eq_false_iff_ne]; omega
        simp only [Bool.false_eq_true, if_false, this]; omega
      · right
        refine ⟨g1, ?_⟩
        rw [g2]; rfl
theorem len_z (s : ByteArray) : s.data.toList.length = s.size := by rw [Array.length_toList]; rfl
theorem empty_z (s : ByteArray) : (0 < s.size ∧ ¬ s.toList = [] ∧ s.toList.isEmpty = false ∧ s.data.toList ≠ []) ∨ (s.size = 0 ∧ s.toList = [] ∧ s.toList.isEmpty = true ∧ s.data.toList = []) := by
  rw [ByteArray.toList_eq]
  have := len_z s
  cases h : s.data.toList with
  | nil => right; rw [h] at this; exact ⟨this.symm, rfl, rfl, rfl⟩
  | cons c r => left; rw [h] at this; exact ⟨by simp at this; omega, by simp, rfl, by simp⟩
def nameMs : List UInt8 := [95, 97, 98, 99, 100, 101, 102, 103, 104, 105, 106, 107, 108, 109, 110, 111, 112, 113, 114, 115, 116, 117, 118, 119, 120, 121, 122, 65, 66, 67, 68, 69, 70, 71, 72, 73, 74, 75, 76, 77, 78, 79, 80, 81, 82, 83, 84, 85, 86, 87, 88, 89, 90, 48, 49, 50, 51, 52, 53, 54, 55, 56, 57]
theorem name_ms (c : UInt8) : nameMs.contains c = nameC c := by
  have := all256' (f := fun c => nameMs.contains c == nameC c) (by decide +kernel) c
  simpa using this
theorem head_z (s : ByteArray) (h : 0 < s.size) : s.data.toList = s[0] :: s.data.toList.drop 1 := by
  have := drop_at s 0 h
  rwa [List.drop_zero] at this
theorem bytes_ext' {a : ByteArray} {l : List UInt8} (h : a.data.toList = l) : a = ⟨l.toArray⟩ := by
  obtain ⟨d⟩ := a
  have : d = l.toArray := by apply Array.ext'; simpa using h
  rw [this]
end Go.Proofs.YtglhanblbojkhaaGreatDoor
namespace Go.Proofs.YtglhanblbojkhaaGreatDoor
open Go.RowKit
theorem Bld.below {B b : Nat} {l : List UInt8} {w w' : World} (h : Bld B b l w) (hb : Below w.heap.size w w') : Bld B b l w' := by
  have key : ∀ p bs, Lib.BuilderAt 61 5 B b p bs w → Lib.BuilderAt 61 5 B b p bs w' := by
    rintro p bs ⟨hB, v, hbk, ⟨h1, h2⟩, hne⟩
    refine ⟨hB, v, (hb.block b (heap_lt hbk)).trans hbk, ⟨h1, ?_⟩, hne⟩
    rcases h2 with h2 | ⟨g, cap, cur, hv, hB, hg, hrest⟩
    · exact Or.inl h2
    · exact Or.inr ⟨g, cap, cur, hv, hB, (hb.block g (heap_lt hg)).trans hg, hrest⟩
  rcases h with h | h
  · exact Or.inl (key _ _ h)
  · exact Or.inr (key _ _ h)
/-- What json.Write's inner function finds: the cells, the builder, itself. -/
structure BJ (w0 : World) (V : List Cel) (b off cap bv bb bn : Nat) (l : List UInt8) (W : World) : Prop where
  hv : W.heap[bv]? = some (.cells #[.slice (some ⟨b, off, none⟩) V.length cap] 22 (0, 0))
  hn : W.heap[bn]? = some (.cells #[.func (.func 30) #[] #[.pointer (some ⟨bv, 0, none⟩), .pointer (some ⟨bb, 0, none⟩), .pointer (some ⟨bn, 0, none⟩)]] 62 (0, 0))
  hb : Bld w0.heap.size bb l W
  bel : Below w0.heap.size w0 W
  lv : w0.heap.size ≤ bv
  lb : w0.heap.size ≤ bb
  ln : w0.heap.size ≤ bn
  nv : bv ≠ bb
  nn : bn ≠ bb
def JK (B bb : Nat) (W W' : World) : Prop := Below B W W' ∧ Lib.OthersKept 5 (some bb) W W'
theorem JK.trans {B bb : Nat} {W W' W'' : World} (h : JK B bb W W') (h' : JK B bb W' W'') : JK B bb W W'' := ⟨h.1.trans h'.1, h.2.trans h'.2⟩
theorem kept_below {bb : Nat} {W W' : World} (h : Below W.heap.size W W') : Lib.OthersKept 5 (some bb) W W' := fun k o hk _ _ => (h.block k (heap_lt hk)).trans hk
theorem JK.of_below {B bb : Nat} {W W' : World} (h : Below W.heap.size W W') (hB : B ≤ W.heap.size) : JK B bb W W' := ⟨h.mono hB, kept_below h⟩
theorem JK.refl (B bb : Nat) (W : World) : JK B bb W W := ⟨Below.refl _ _, Lib.OthersKept.refl _ _ _⟩
section
variable {w0 : World} {V : List Cel} {b off cap bv bb bn : Nat} {l l' : List UInt8} {W W' : World}
theorem BJ.step (h : BJ w0 V b off cap bv bb bn l W) (hb : Bld w0.heap.size bb l' W') (hk : JK w0.heap.size bb W W') : BJ w0 V b off cap bv bb bn l' W' :=
  { h with
    hv := hk.2 _ _ h.hv (fun e => h.nv (Option.some.inj e)) (by intro c fz e; injection e with _ e2; exact absurd e2 (by decide))
    hn := hk.2 _ _ h.hn (fun e => h.nn (Option.some.inj e)) (by intro c fz e; injection e with _ e2; exact absurd e2 (by decide))
    hb := hb
    bel := h.bel.trans hk.1 }
theorem BJ.below (h : BJ w0 V b off cap bv bb bn l W) (hb : Below W.heap.size W W') : BJ w0 V b off cap bv bb bn l W' := h.step (h.hb.below hb) (JK.of_below hb h.bel.size)
end
theorem kept_cel {bb c : Nat} {cs : Array Value} {W W' : World} (hk : Lib.OthersKept 5 (some bb) W W') (h : W.heap[c]? = some (.cells cs 41 (0, 0))) (hne : c ≠ bb) : W'.heap[c]? = some (.cells cs 41 (0, 0)) :=
  hk _ _ h (fun e => hne (Option.some.inj e)) (by intro c fz e; injection e with _ e2; exact absurd e2 (by decide))
/-- What a call of it hands back: the place behind; its JSON stands behind what stood. -/
def JEnd (w0 : World) (V : List Cel) (b off cap bv bb bn : Nat) (l : List UInt8) (n : Int) (W : World) (e : Ending) (W' : World) : Prop := e = .returned (.int .i64 n) ∧ BJ w0 V b off cap bv bb bn l W' ∧ JK w0.heap.size bb W W'
set_option maxRecDepth 100000 in
set_option maxHeartbeats 1000000 in
theorem jw_null (w0 : World) (V : List Cel) (b off cap bv bb bn : Nat) (l : List UInt8) (W : World) (k : Nat) (kk : Nat) (nx tx : ByteArray) (nu mn : Int) (hB : BJ w0 V b off cap bv bb bn l W)
    (hk : k < V.length) (hl : V.length ≤ 2048) (hll : l.length ≤ 90000000)
    (c0 : W.cell? ⟨b, off + k * 5, none⟩ = some (.int .u8 (kk : Int))) (c1 : W.cell? ⟨b, off + k * 5 + 1, none⟩ = some (.string nx)) (c2 : W.cell? ⟨b, off + k * 5 + 2, none⟩ = some (.string tx)) (c3 : W.cell? ⟨b, off + k * 5 + 3, none⟩ = some (.int .i64 nu)) (c4 : W.cell? ⟨b, off + k * 5 + 4, none⟩ = some (.int .i64 mn))
    (h0 : kk = 0)  :
    Calls Tryz.prog 30 #[.int .i64 (k : Int), .pointer (some ⟨bv, 0, none⟩), .pointer (some ⟨bb, 0, none⟩), .pointer (some ⟨bn, 0, none⟩)] W fun e w' => JEnd w0 V b off cap bv bb bn (l ++ [110, 117, 108, 108]) ((k : Int) + 1) W e w' := by
  have v0 : W.cell? ⟨bv, 0, none⟩ = some (.slice (some ⟨b, off, none⟩) V.length cap) := by rw [Lib.cell_of_heap hB.hv]; rfl
  have lbv := heap_lt hB.hv
  have lbb : bb < W.heap.size := by
    rcases hB.hb with h | h
    · obtain ⟨_, v, h, _⟩ := h; exact heap_lt h
    · obtain ⟨_, v, h, _⟩ := h; exact heap_lt h
  have hz0 := hB.bel.size
  have HB := Lib.hid hB
  clear hB
  subst h0
  have hba : Below W.heap.size W (W.alloc (.cells #[.int .u8 ((0 : Nat) : Int), .string nx, .string tx, .int .i64 nu, .int .i64 mn] 41)) := (Below.refl _ _).alloc (Nat.le_refl _) _
  have HBA := Lib.hid (HB.out.below hba)
  have HJA : Hid (JK w0.heap.size bb W (W.alloc (.cells #[.int .u8 ((0 : Nat) : Int), .string nx, .string tx, .int .i64 nu, .int .i64 mn] 41))) := Lib.hid (JK.of_below hba hz0)
  clear hba
  go_enter Tryz.func30, Tryz.ntmps30
  go_wp2_with fail
  refine (wstr w0.heap.size bb l ⟨#[110, 117, 108, 108]⟩ _ HBA.out.hb (by have : (⟨#[110, 117, 108, 108]⟩ : ByteArray).size = 4 := rfl; omega) HBA.out.bel.size).mono ?_; rintro e wx ⟨rfl, hx1, hx2, hx3⟩
  have HFIN : Hid (BJ w0 V b off cap bv bb bn (l ++ [110, 117, 108, 108]) wx ∧ JK w0.heap.size bb W wx) := Lib.hid ⟨HBA.out.step (by simpa using hx1) ⟨hx2, hx3⟩, HJA.out.trans ⟨hx2, hx3⟩⟩
  clear hx1 hx2 hx3
  go_wp2_with fail
  go_ret
  exact ⟨rfl, HFIN.out⟩
set_option maxRecDepth 100000 in
set_option maxHeartbeats 1000000 in
theorem jw_true (w0 : World) (V : List Cel) (b off cap bv bb bn : Nat) (l : List UInt8) (W : World) (k : Nat) (kk : Nat) (nx tx : ByteArray) (nu mn : Int) (hB : BJ w0 V b off cap bv bb bn l W)
    (hk : k < V.length) (hl : V.length ≤ 2048) (hll : l.length ≤ 90000000)
    (c0 : W.cell? ⟨b, off + k * 5, none⟩ = some (.int .u8 (kk : Int))) (c1 : W.cell? ⟨b, off + k * 5 + 1, none⟩ = some (.string nx)) (c2 : W.cell? ⟨b, off + k * 5 + 2, none⟩ = some (.string tx)) (c3 : W.cell? ⟨b, off + k * 5 + 3, none⟩ = some (.int .i64 nu)) (c4 : W.cell? ⟨b, off + k * 5 + 4, none⟩ = some (.int .i64 mn))
    (h0 : kk = 1) (h1 : nu = 1) :
    Calls Tryz.prog 30 #[.int .i64 (k : Int), .pointer (some ⟨bv, 0, none⟩), .pointer (some ⟨bb, 0, none⟩), .pointer (some ⟨bn, 0, none⟩)] W fun e w' => JEnd w0 V b off cap bv bb bn (l ++ [116, 114, 117, 101]) ((k : Int) + 1) W e w' := by
  have v0 : W.cell? ⟨bv, 0, none⟩ = some (.slice (some ⟨b, off, none⟩) V.length cap) := by rw [Lib.cell_of_heap hB.hv]; rfl
  have lbv := heap_lt hB.hv
  have lbb : bb < W.heap.size := by
    rcases hB.hb with h | h
    · obtain ⟨_, v, h, _⟩ := h; exact heap_lt h
    · obtain ⟨_, v, h, _⟩ := h; exact heap_lt h
  have hz0 := hB.bel.size
  have HB := Lib.hid hB
  clear hB
  subst h0
  subst h1
  have ix := fun w : World => (show (Instr.index 67 (.agg #[.string ⟨#[102, 97, 108, 115, 101]⟩, .string ⟨#[116, 114, 117, 101]⟩]) (.int .i64 1)).run Tryz.prog w = .ok (.string ⟨#[116, 114, 117, 101]⟩) w by kernel_rfl)
  have hba : Below W.heap.size W (W.alloc (.cells #[.int .u8 ((1 : Nat) : Int), .string nx, .string tx, .int .i64 1, .int .i64 mn] 41)) := (Below.refl _ _).alloc (Nat.le_refl _) _
  have HBA := Lib.hid (HB.out.below hba)
  have HJA : Hid (JK w0.heap.size bb W (W.alloc (.cells #[.int .u8 ((1 : Nat) : Int), .string nx, .string tx, .int .i64 1, .int .i64 mn] 41))) := Lib.hid (JK.of_below hba hz0)
  clear hba
  go_enter Tryz.func30, Tryz.ntmps30
  go_wp2_with fail
  refine (wstr w0.heap.size bb l ⟨#[116, 114, 117, 101]⟩ _ HBA.out.hb (by have : (⟨#[116, 114, 117, 101]⟩ : ByteArray).size = 4 := rfl; omega) HBA.out.bel.size).mono ?_; rintro e wx ⟨rfl, hx1, hx2, hx3⟩
  have HFIN : Hid (BJ w0 V b off cap bv bb bn (l ++ [116, 114, 117, 101]) wx ∧ JK w0.heap.size bb W wx) := Lib.hid ⟨HBA.out.step (by simpa using hx1) ⟨hx2, hx3⟩, HJA.out.trans ⟨hx2, hx3⟩⟩
  clear hx1 hx2 hx3
  go_wp2_with fail
  go_ret
  exact ⟨rfl, HFIN.out⟩
set_option maxRecDepth 100000 in
set_option maxHeartbeats 1000000 in
theorem jw_false (w0 : World) (V : List Cel) (b off cap bv bb bn : Nat) (l : List UInt8) (W : World) (k : Nat) (kk : Nat) (nx tx : ByteArray) (nu mn : Int) (hB : BJ w0 V b off cap bv bb bn l W)
    (hk : k < V.length) (hl : V.length ≤ 2048) (hll : l.length ≤ 90000000)
    (c0 : W.cell? ⟨b, off + k * 5, none⟩ = some (.int .u8 (kk : Int))) (c1 : W.cell? ⟨b, off + k * 5 + 1, none⟩ = some (.string nx)) (c2 : W.cell? ⟨b, off + k * 5 + 2, none⟩ = some (.string tx)) (c3 : W.cell? ⟨b, off + k * 5 + 3, none⟩ = some (.int .i64 nu)) (c4 : W.cell? ⟨b, off + k * 5 + 4, none⟩ = some (.int .i64 mn))
    (h0 : kk = 1) (h1 : nu = 0) :
    Calls Tryz.prog 30 #[.int .i64 (k : Int), .pointer (some ⟨bv, 0, none⟩), .pointer (some ⟨bb, 0, none⟩), .pointer (some ⟨bn, 0, none⟩)] W fun e w' => JEnd w0 V b off cap bv bb bn (l ++ [102, 97, 108, 115, 101]) ((k : Int) + 1) W e w' := by
  have v0 : W.cell? ⟨bv, 0, none⟩ = some (.slice (some ⟨b, off, none⟩) V.length cap) := by rw [Lib.cell_of_heap hB.hv]; rfl
  have lbv := heap_lt hB.hv
  have lbb : bb < W.heap.size := by
    rcases hB.hb with h | h
    · obtain ⟨_, v, h, _⟩ := h; exact heap_lt h
    · obtain ⟨_, v, h, _⟩ := h; exact heap_lt h
  have hz0 := hB.bel.size
  have HB := Lib.hid hB
  clear hB
  subst h0
  subst h1
  have ix := fun w : World => (show (Instr.index 67 (.agg #[.string ⟨#[102, 97, 108, 115, 101]⟩, .string ⟨#[116, 114, 117, 101]⟩]) (.int .i64 0)).run Tryz.prog w = .ok (.string ⟨#[102, 97, 108, 115, 101]⟩) w by kernel_rfl)
  have hba : Below W.heap.size W (W.alloc (.cells #[.int .u8 ((1 : Nat) : Int), .string nx, .string tx, .int .i64 0, .int .i64 mn] 41)) := (Below.refl _ _).alloc (Nat.le_refl _) _
  have HBA := Lib.hid (HB.out.below hba)
  have HJA : Hid (JK w0.heap.size bb W (W.alloc (.cells #[.int .u8 ((1 : Nat) : Int), .string nx, .string tx, .int .i64 0, .int .i64 mn] 41))) := Lib.hid (JK.of_below hba hz0)
  clear hba
  go_enter Tryz.func30, Tryz.ntmps30
  go_wp2_with fail
  refine (wstr w0.heap.size bb l ⟨#[102, 97, 108, 115, 101]⟩ _ HBA.out.hb (by have : (⟨#[102, 97, 108, 115, 101]⟩ : ByteArray).size = 5 := rfl; omega) HBA.out.bel.size).mono ?_; rintro e wx ⟨rfl, hx1, hx2, hx3⟩
  have HFIN : Hid (BJ w0 V b off cap bv bb bn (l ++ [102, 97, 108, 115, 101]) wx ∧ JK w0.heap.size bb W wx) := Lib.hid ⟨HBA.out.step (by simpa using hx1) ⟨hx2, hx3⟩, HJA.out.trans ⟨hx2, hx3⟩⟩
  clear hx1 hx2 hx3
  go_wp2_with fail
  go_ret
  exact ⟨rfl, HFIN.out⟩
set_option maxRecDepth 100000 in
set_option maxHeartbeats 1000000 in
theorem jw_int (w0 : World) (V : List Cel) (b off cap bv bb bn : Nat) (l : List UInt8) (W : World) (k : Nat) (kk : Nat) (nx tx : ByteArray) (nu mn : Int) (hB : BJ w0 V b off cap bv bb bn l W)
    (hk : k < V.length) (hl : V.length ≤ 2048) (hll : l.length ≤ 90000000)
    (c0 : W.cell? ⟨b, off + k * 5, none⟩ = some (.int .u8 (kk : Int))) (c1 : W.cell? ⟨b, off + k * 5 + 1, none⟩ = some (.string nx)) (c2 : W.cell? ⟨b, off + k * 5 + 2, none⟩ = some (.string tx)) (c3 : W.cell? ⟨b, off + k * 5 + 3, none⟩ = some (.int .i64 nu)) (c4 : W.cell? ⟨b, off + k * 5 + 4, none⟩ = some (.int .i64 mn))
    (h0 : kk = 2) (q : List UInt8) (hq : q.length ≤ 40000)
    (HQ : Hid (∀ W' : World, Below w0.heap.size w0 W' → Calls Tryz.prog 32 #[.int .i64 nu] W' fun e w' => e = .returned (.string ⟨q.toArray⟩) ∧ Below W'.heap.size W' w')) :
    Calls Tryz.prog 30 #[.int .i64 (k : Int), .pointer (some ⟨bv, 0, none⟩), .pointer (some ⟨bb, 0, none⟩), .pointer (some ⟨bn, 0, none⟩)] W fun e w' => JEnd w0 V b off cap bv bb bn (l ++ q) ((k : Int) + 1) W e w' := by
  have v0 : W.cell? ⟨bv, 0, none⟩ = some (.slice (some ⟨b, off, none⟩) V.length cap) := by rw [Lib.cell_of_heap hB.hv]; rfl
  have lbv := heap_lt hB.hv
  have lbb : bb < W.heap.size := by
    rcases hB.hb with h | h
    · obtain ⟨_, v, h, _⟩ := h; exact heap_lt h
    · obtain ⟨_, v, h, _⟩ := h; exact heap_lt h
  have hz0 := hB.bel.size
  have HB := Lib.hid hB
  clear hB
  subst h0
  have hba : Below W.heap.size W (W.alloc (.cells #[.int .u8 ((2 : Nat) : Int), .string nx, .string tx, .int .i64 nu, .int .i64 mn] 41)) := (Below.refl _ _).alloc (Nat.le_refl _) _
  have HBA := Lib.hid (HB.out.below hba)
  have HJA : Hid (JK w0.heap.size bb W (W.alloc (.cells #[.int .u8 ((2 : Nat) : Int), .string nx, .string tx, .int .i64 nu, .int .i64 mn] 41))) := Lib.hid (JK.of_below hba hz0)
  clear hba
  go_enter Tryz.func30, Tryz.ntmps30
  go_wp2_with fail
  refine (HQ.out _ HBA.out.bel).mono ?_; rintro e w1 ⟨rfl, hb1⟩
  have HB1 := Lib.hid (HBA.out.below hb1)
  have HJ1 : Hid (JK w0.heap.size bb W w1) := Lib.hid (HJA.out.trans (JK.of_below hb1 HBA.out.bel.size))
  clear hb1
  go_wp2_with fail
  refine (wstr w0.heap.size bb l ⟨q.toArray⟩ _ HB1.out.hb (by have : (⟨q.toArray⟩ : ByteArray).size = q.length := (by show q.toArray.size = _; simp); omega) HB1.out.bel.size).mono ?_; rintro e wx ⟨rfl, hx1, hx2, hx3⟩
  have HFIN : Hid (BJ w0 V b off cap bv bb bn (l ++ q) wx ∧ JK w0.heap.size bb W wx) := Lib.hid ⟨HB1.out.step (by simpa using hx1) ⟨hx2, hx3⟩, HJ1.out.trans ⟨hx2, hx3⟩⟩
  clear hx1 hx2 hx3
  go_wp2_with fail
  go_ret
  exact ⟨rfl, HFIN.out⟩
set_option maxRecDepth 100000 in
set_option maxHeartbeats 1000000 in
theorem jw_text (w0 : World) (V : List Cel) (b off cap bv bb bn : Nat) (l : List UInt8) (W : World) (k : Nat) (kk : Nat) (nx tx : ByteArray) (nu mn : Int) (hB : BJ w0 V b off cap bv bb bn l W)
    (hk : k < V.length) (hl : V.length ≤ 2048) (hll : l.length ≤ 90000000)
    (c0 : W.cell? ⟨b, off + k * 5, none⟩ = some (.int .u8 (kk : Int))) (c1 : W.cell? ⟨b, off + k * 5 + 1, none⟩ = some (.string nx)) (c2 : W.cell? ⟨b, off + k * 5 + 2, none⟩ = some (.string tx)) (c3 : W.cell? ⟨b, off + k * 5 + 3, none⟩ = some (.int .i64 nu)) (c4 : W.cell? ⟨b, off + k * 5 + 4, none⟩ = some (.int .i64 mn))
    (h0 : kk = 3) (q : List UInt8) (hq : q.length ≤ 40000)
    (HQ : Hid (∀ W' : World, Below w0.heap.size w0 W' → Calls Tryz.prog 28 #[.string tx] W' fun e w' => e = .returned (.string ⟨q.toArray⟩) ∧ Below W'.heap.size W' w')) :
    Calls Tryz.prog 30 #[.int .i64 (k : Int), .pointer (some ⟨bv, 0, none⟩), .pointer (some ⟨bb, 0, none⟩), .pointer (some ⟨bn, 0, none⟩)] W fun e w' => JEnd w0 V b off cap bv bb bn (l ++ q) ((k : Int) + 1) W e w' := by
  have v0 : W.cell? ⟨bv, 0, none⟩ = some (.slice (some ⟨b, off, none⟩) V.length cap) := by rw [Lib.cell_of_heap hB.hv]; rfl
  have lbv := heap_lt hB.hv
  have lbb : bb < W.heap.size := by
    rcases hB.hb with h | h
    · obtain ⟨_, v, h, _⟩ := h; exact heap_lt h
    · obtain ⟨_, v, h, _⟩ := h; exact heap_lt h
  have hz0 := hB.bel.size
  have HB := Lib.hid hB
  clear hB
  subst h0
  have hba : Below W.heap.size W (W.alloc (.cells #[.int .u8 ((3 : Nat) : Int), .string nx, .string tx, .int .i64 nu, .int .i64 mn] 41)) := (Below.refl _ _).alloc (Nat.le_refl _) _
  have HBA := Lib.hid (HB.out.below hba)
  have HJA : Hid (JK w0.heap.size bb W (W.alloc (.cells #[.int .u8 ((3 : Nat) : Int), .string nx, .string tx, .int .i64 nu, .int .i64 mn] 41))) := Lib.hid (JK.of_below hba hz0)
  clear hba
  go_enter Tryz.func30, Tryz.ntmps30
  go_wp2_with fail
  refine (HQ.out _ HBA.out.bel).mono ?_; rintro e w1 ⟨rfl, hb1⟩
  have HB1 := Lib.hid (HBA.out.below hb1)
  have HJ1 : Hid (JK w0.heap.size bb W w1) := Lib.hid (HJA.out.trans (JK.of_below hb1 HBA.out.bel.size))
  clear hb1
  go_wp2_with fail
  refine (wstr w0.heap.size bb l ⟨q.toArray⟩ _ HB1.out.hb (by have : (⟨q.toArray⟩ : ByteArray).size = q.length := (by show q.toArray.size = _; simp); omega) HB1.out.bel.size).mono ?_; rintro e wx ⟨rfl, hx1, hx2, hx3⟩
  have HFIN : Hid (BJ w0 V b off cap bv bb bn (l ++ q) wx ∧ JK w0.heap.size bb W wx) := Lib.hid ⟨HB1.out.step (by simpa using hx1) ⟨hx2, hx3⟩, HJ1.out.trans ⟨hx2, hx3⟩⟩
  clear hx1 hx2 hx3
  go_wp2_with fail
  go_ret
  exact ⟨rfl, HFIN.out⟩
set_option maxRecDepth 100000 in
set_option maxHeartbeats 1000000 in
theorem jw_list (w0 : World) (V : List Cel) (b off cap bv bb bn : Nat) (l : List UInt8) (W : World) (k : Nat) (kk : Nat) (nx tx : ByteArray) (nu : Int) (m : Nat) (hB : BJ w0 V b off cap bv bb bn l W)
    (hk : k < V.length) (hl : V.length ≤ 2048) (hll : l.length ≤ 90000000)
    (c0 : W.cell? ⟨b, off + k * 5, none⟩ = some (.int .u8 (kk : Int))) (c1 : W.cell? ⟨b, off + k * 5 + 1, none⟩ = some (.string nx)) (c2 : W.cell? ⟨b, off + k * 5 + 2, none⟩ = some (.string tx)) (c3 : W.cell? ⟨b, off + k * 5 + 3, none⟩ = some (.int .i64 nu)) (c4 : W.cell? ⟨b, off + k * 5 + 4, none⟩ = some (.int .i64 (m : Int)))
    (t0 : ((kk : Int) == 0) = false) (t1 : ((kk : Int) == 1) = false) (t2 : ((kk : Int) == 2) = false) (t3 : ((kk : Int) == 3) = false) (t7 : ((kk : Int) == 7) = false)
    (hmx : (m : Int) ≤ 9223372036854775807) (HROW : Hid (CelRow b off V w0)) (hbl : b < w0.heap.size) (HSM : Hid (ShortV V)) (d1 n : Nat) (nm0 : List (List UInt8)) (hkids : KS V d1 k true (some n) m [] 0) (hroom : l.length + 40000 * (n + 2) ≤ 90000000)
    (HTL : Hid (∀ (p n1 : Nat), valN d1 (V.drop p) = some n1 → (textJ d1 (V.drop p)).length + 18004 ≤ 40000 * n1))
    (HQQ : Hid (∀ (W' : World) (x : ByteArray), x.size ≤ 100000 → Calls Tryz.prog 28 #[.string x] W' fun e w' => e = .returned (.string ⟨(quoteL x.data.toList).toArray⟩) ∧ Below W'.heap.size W' w'))
    (HIH : Hid (∀ (W' : World) (l' : List UInt8) (p n1 : Nat), p < V.length → valN d1 (V.drop p) = some n1 → l'.length + 40000 * (n1 + 1) ≤ 90000000 → BJ w0 V b off cap bv bb bn l' W' → Calls Tryz.prog 30 #[.int .i64 (p : Int), .pointer (some ⟨bv, 0, none⟩), .pointer (some ⟨bb, 0, none⟩), .pointer (some ⟨bn, 0, none⟩)] W' fun e w' => JEnd w0 V b off cap bv bb bn (l' ++ textJ d1 (V.drop p)) ((p + n1 : Nat) : Int) W' e w')) :
    Calls Tryz.prog 30 #[.int .i64 (k : Int), .pointer (some ⟨bv, 0, none⟩), .pointer (some ⟨bb, 0, none⟩), .pointer (some ⟨bn, 0, none⟩)] W fun e w' => JEnd w0 V b off cap bv bb bn (l ++ ([91] ++ (kidsJ (valN d1) (textJ d1) false m true (V.drop (k + 1)) ++ [93]))) (((k + 1 + n : Nat) : Int)) W e w' := by
  have v0 : W.cell? ⟨bv, 0, none⟩ = some (.slice (some ⟨b, off, none⟩) V.length cap) := by rw [Lib.cell_of_heap hB.hv]; rfl
  have lbv := heap_lt hB.hv
  have lbb : bb < W.heap.size := by
    rcases hB.hb with h | h
    · obtain ⟨_, v, h, _⟩ := h; exact heap_lt h
    · obtain ⟨_, v, h, _⟩ := h; exact heap_lt h
  have hz0 := hB.bel.size
  have HB := Lib.hid hB
  clear hB
  have HK0 := Lib.hid hkids
  have HROOM := Lib.hid hroom
  clear hroom
  obtain ⟨R, hR⟩ : ∃ R, l ++ ([91] ++ (kidsJ (valN d1) (textJ d1) false m true (V.drop (k + 1)) ++ [93])) = R := ⟨_, rfl⟩
  have HR0 : Hid ((l ++ [91]) ++ (kidsJ (valN d1) (textJ d1) false m (decide (0 = 0)) (V.drop (k + 1 + 0)) ++ [93]) = R) := Lib.hid (by rw [← hR]; simp)
  rw [hR]
  obtain ⟨K, hK⟩ : ∃ K, k + 1 + n = K := ⟨_, rfl⟩
  have HK := Lib.hid hK
  rw [hK]
  clear hR hK hkids
  have hba : Below W.heap.size W (W.alloc (.cells #[.int .u8 (kk : Int), .string nx, .string tx, .int .i64 nu, .int .i64 (m : Int)] 41)) := (Below.refl _ _).alloc (Nat.le_refl _) _
  have HBA := Lib.hid (HB.out.below hba)
  have HJA : Hid (JK w0.heap.size bb W (W.alloc (.cells #[.int .u8 (kk : Int), .string nx, .string tx, .int .i64 nu, .int .i64 (m : Int)] 41))) := Lib.hid (JK.of_below hba hz0)
  clear hba
  go_enter Tryz.func30, Tryz.ntmps30
  go_wp2_with fail
  refine (wbyte w0.heap.size bb l 91 91 rfl _ HBA.out.hb (by omega) HBA.out.bel.size).mono ?_; rintro e w1 ⟨rfl, hx1, hx2, hx3⟩
  have HB1 := Lib.hid (HBA.out.step hx1 ⟨hx2, hx3⟩)
  have HJ1 : Hid (JK w0.heap.size bb W w1) := Lib.hid (HJA.out.trans ⟨hx2, hx3⟩)
  have hc1 : w1.heap[W.heap.size]? = some (.cells #[.int .u8 (kk : Int), .string nx, .string tx, .int .i64 nu, .int .i64 (m : Int)] 41 (0, 0)) := kept_cel hx3 (heap_alloc_new W _) (by omega)
  have m4 : w1.cell? ⟨W.heap.size, 4, none⟩ = some (.int .i64 (m : Int)) := by rw [Lib.cell_of_heap hc1]; rfl
  have HC1 := Lib.hid hc1
  clear hx1 hx2 hx3 hc1
  go_wp2_with fail
  clear m4
  have hcb : W.heap.size ≠ bb := by omega
  generalize W.heap.size = cb at *
  go_loopg [0, 25] m (fun gk at_ ct wr => ∃ (j p u : Nat) (nm : List (List UInt8)) (L : List UInt8), at_ = .int .i64 (p : Int) ∧ ct = .int .i64 j ∧ (gk + j ≤ m ∧ m ≤ gk + j) ∧ p ≤ V.length ∧ Hid (p = k + 1 + u) ∧ j ≤ u ∧ Hid (L.length ≤ l.length + 1 + 40000 * u ∧ u ≤ n) ∧ Hid (KS V d1 k true (some n) gk nm u) ∧ Hid (L ++ (kidsJ (valN d1) (textJ d1) false gk (decide (j = 0)) (V.drop p) ++ [93]) = R) ∧ Hid (BJ w0 V b off cap bv bb bn L wr) ∧ Hid (JK w0.heap.size bb W wr) ∧ Hid (wr.heap[cb]? = some (.cells #[.int .u8 (kk : Int), .string nx, .string tx, .int .i64 nu, .int .i64 (m : Int)] 41 (0, 0))))
  case atStart => exact ⟨0, k + 1, 0, [], l ++ [91], by go_num, rfl, ⟨by omega, by omega⟩, by omega, Lib.hid rfl, Nat.le_refl _, Lib.hid ⟨by simp, Nat.zero_le _⟩, HK0, HR0, HB1, HJ1, HC1⟩
  case round =>
    rename World => wr
    obtain ⟨j, p, u, nm, L, rfl, rfl, ⟨hj, hj'⟩, hp, HPU, hju, HLEN, HKS, HRR, HBr, HJr, HCr⟩ := hrel
    have e0 : wr.cell? ⟨cb, 0, none⟩ = some (.int .u8 (kk : Int)) := by rw [Lib.cell_of_heap HCr.out]; rfl
    have hLL : L.length ≤ 90000000 := by have z1 := HROOM.out; have z2 := HLEN.out.1; have z3 := HLEN.out.2; omega
    by_cases hg0 : gk = 0
    · subst hg0
      have hdone := HKS.out.done
      have hjn : ¬ j < m := by omega
      clear hj hj' hju
      have hu : u = n := (Option.some.inj hdone).symm
      have HPK : Hid (p = K) := Lib.hid (by rw [HPU.out, hu]; exact HK.out)
      have HF : Hid (L ++ [93] = R) := Lib.hid (by have := HRR.out; rw [show kidsJ (valN d1) (textJ d1) false 0 (decide (j = 0)) (V.drop p) = [] from rfl] at this; exact this)
      clear hdone hu
      go_wp2_with fail
      refine (wbyte w0.heap.size bb L 93 93 rfl _ HBr.out.hb (by omega) HBr.out.bel.size).mono ?_; rintro e wx ⟨rfl, hx1, hx2, hx3⟩
      have HFIN : Hid (JEnd w0 V b off cap bv bb bn R (K : Int) W (.returned (.int .i64 (p : Int))) wx) := Lib.hid (by
        rw [← HF.out, HPK.out]
        exact ⟨rfl, HBr.out.step hx1 ⟨hx2, hx3⟩, HJr.out.trans ⟨hx2, hx3⟩⟩)
      clear hx1 hx2 hx3
      go_wp2_with fail
      go_ret
      exact HFIN.out
    · obtain ⟨g1, rfl⟩ : ∃ g1, gk = g1 + 1 := ⟨gk - 1, by omega⟩
      have hjm : j < m := by omega
      clear hg0
      obtain ⟨hpl, n1, hv1, hks⟩ := HKS.out.step HPU.out
      have hn1 := (valN_le _ _ _ hv1).1
      have hn2 := (valN_le _ _ _ hv1).2
      have hun1 : u + n1 ≤ n := by
        have := hks
        unfold KS at this
        obtain ⟨x, _, hx⟩ := Option.map_eq_some_iff.1 this
        omega
      rw [List.length_drop] at hn2
      have HT1 := Lib.hid (HTL.out p n1 hv1)
      have HUN := Lib.hid hun1
      clear hun1
      have hrr := HRR.out
      rw [kidsJ, hv1, Option.getD_some, List.drop_drop] at hrr
      have HI : Hid (∀ (W' : World) (l' : List UInt8), l'.length + 40000 * (n1 + 1) ≤ 90000000 → BJ w0 V b off cap bv bb bn l' W' → Calls Tryz.prog 30 #[.int .i64 (p : Int), .pointer (some ⟨bv, 0, none⟩), .pointer (some ⟨bb, 0, none⟩), .pointer (some ⟨bn, 0, none⟩)] W' fun e w' => JEnd w0 V b off cap bv bb bn (l' ++ textJ d1 (V.drop p)) ((p + n1 : Nat) : Int) W' e w') := Lib.hid fun W' l' h1 h2 => HIH.out W' l' p n1 hpl hv1 h1 h2
      obtain ⟨p2, hp2⟩ : ∃ p2, p + n1 = p2 := ⟨_, rfl⟩
      have HP2 : Hid (p2 = k + 1 + (u + n1)) := Lib.hid (by rw [← hp2, HPU.out]; omega)
      have hp3 : p2 ≤ V.length := by omega
      have HKS2 := Lib.hid hks
      rw [hp2] at HI hrr
      generalize textJ d1 (V.drop p) = tj at *
      by_cases hj0 : j = 0
      · have hj1 : ¬ 0 < j := by omega
        have hj2 : decide (0 < j) = false := decide_eq_false hj1
        unfold preJ at hrr
        have HRX : Hid (((L) ++ tj) ++ (kidsJ (valN d1) (textJ d1) false g1 (decide (j + 1 = 0)) (V.drop p2) ++ [93]) = R) := Lib.hid (by
          rw [show decide (j + 1 = 0) = false from decide_eq_false (by omega), ← hrr, decide_eq_true hj0]
          simp)
        clear hrr hj0
        have q0 : wr.cell? ⟨bn, 0, none⟩ = some (.func (.func 30) #[] #[.pointer (some ⟨bv, 0, none⟩), .pointer (some ⟨bb, 0, none⟩), .pointer (some ⟨bn, 0, none⟩)]) := by rw [Lib.cell_of_heap HBr.out.hn]; rfl
        go_wp2_with fail
        refine (HI.out _ (L) (by have z1 := HROOM.out; have z2 := HLEN.out.1; have z3 := HLEN.out.2; have z4 := HT1.out; have z5 := HUN.out; (try simp only [List.length_append, List.length_cons, List.length_nil]); omega) HBr.out).mono ?_; rintro e w6 ⟨rfl, hB6, hJ6⟩
        have HB6 := Lib.hid hB6
        have HJ6 := Lib.hid (HJr.out.trans hJ6)
        have HC6 := Lib.hid (kept_cel hJ6.2 HCr.out hcb)
        clear hB6 hJ6 q0
        go_wp2_with fail
        go_roundg g1
        case measure => omega
        case rel => exact ⟨j + 1, p2, u + n1, _, (L) ++ tj, rfl, by go_num, ⟨by omega, by omega⟩, hp3, HP2, by omega, Lib.hid ⟨by have z1 := HROOM.out; have z2 := HLEN.out.1; have z3 := HLEN.out.2; have z4 := HT1.out; have z5 := HUN.out; (try simp only [List.length_append, List.length_cons, List.length_nil]); omega, HUN.out⟩, HKS2, HRX, HB6, HJ6, HC6⟩
      · have hj1 : 0 < j := by omega
        have hj2 : decide (0 < j) = true := decide_eq_true hj1
        unfold preJ at hrr
        have HRX : Hid (((L ++ [44]) ++ tj) ++ (kidsJ (valN d1) (textJ d1) false g1 (decide (j + 1 = 0)) (V.drop p2) ++ [93]) = R) := Lib.hid (by
          rw [show decide (j + 1 = 0) = false from decide_eq_false (by omega), ← hrr, decide_eq_false hj0]
          simp)
        clear hrr hj0
        go_wp2_with fail
        refine (wbyte w0.heap.size bb L 44 44 rfl _ HBr.out.hb (by omega) HBr.out.bel.size).mono ?_; rintro e w3 ⟨rfl, hx1, hx2, hx3⟩
        have HB3 := Lib.hid (HBr.out.step hx1 ⟨hx2, hx3⟩)
        have HJ3 := Lib.hid (HJr.out.trans ⟨hx2, hx3⟩)
        have HC3 := Lib.hid (kept_cel hx3 HCr.out hcb)
        clear hx1 hx2 hx3 e0
        have e0 : w3.cell? ⟨cb, 0, none⟩ = some (.int .u8 (kk : Int)) := by rw [Lib.cell_of_heap HC3.out]; rfl
        have q0 : w3.cell? ⟨bn, 0, none⟩ = some (.func (.func 30) #[] #[.pointer (some ⟨bv, 0, none⟩), .pointer (some ⟨bb, 0, none⟩), .pointer (some ⟨bn, 0, none⟩)]) := by rw [Lib.cell_of_heap HB3.out.hn]; rfl
        go_wp2_with fail
        refine (HI.out _ (L ++ [44]) (by have z1 := HROOM.out; have z2 := HLEN.out.1; have z3 := HLEN.out.2; have z4 := HT1.out; have z5 := HUN.out; (try simp only [List.length_append, List.length_cons, List.length_nil]); omega) HB3.out).mono ?_; rintro e w6 ⟨rfl, hB6, hJ6⟩
        have HB6 := Lib.hid hB6
        have HJ6 := Lib.hid (HJ3.out.trans hJ6)
        have HC6 := Lib.hid (kept_cel hJ6.2 HC3.out hcb)
        clear hB6 hJ6 q0
        go_wp2_with fail
        go_roundg g1
        case measure => omega
        case rel => exact ⟨j + 1, p2, u + n1, _, (L ++ [44]) ++ tj, rfl, by go_num, ⟨by omega, by omega⟩, hp3, HP2, by omega, Lib.hid ⟨by have z1 := HROOM.out; have z2 := HLEN.out.1; have z3 := HLEN.out.2; have z4 := HT1.out; have z5 := HUN.out; (try simp only [List.length_append, List.length_cons, List.length_nil]); omega, HUN.out⟩, HKS2, HRX, HB6, HJ6, HC6⟩
set_option maxRecDepth 100000 in
set_option maxHeartbeats 1000000 in
theorem jw_obj (w0 : World) (V : List Cel) (b off cap bv bb bn : Nat) (l : List UInt8) (W : World) (k : Nat) (kk : Nat) (nx tx : ByteArray) (nu : Int) (m : Nat) (hB : BJ w0 V b off cap bv bb bn l W)
    (hk : k < V.length) (hl : V.length ≤ 2048) (hll : l.length ≤ 90000000)
    (c0 : W.cell? ⟨b, off + k * 5, none⟩ = some (.int .u8 (kk : Int))) (c1 : W.cell? ⟨b, off + k * 5 + 1, none⟩ = some (.string nx)) (c2 : W.cell? ⟨b, off + k * 5 + 2, none⟩ = some (.string tx)) (c3 : W.cell? ⟨b, off + k * 5 + 3, none⟩ = some (.int .i64 nu)) (c4 : W.cell? ⟨b, off + k * 5 + 4, none⟩ = some (.int .i64 (m : Int)))
    (t0 : ((kk : Int) == 0) = false) (t1 : ((kk : Int) == 1) = false) (t2 : ((kk : Int) == 2) = false) (t3 : ((kk : Int) == 3) = false) (t7 : ((kk : Int) == 7) = true)
    (hmx : (m : Int) ≤ 9223372036854775807) (HROW : Hid (CelRow b off V w0)) (hbl : b < w0.heap.size) (HSM : Hid (ShortV V)) (d1 n : Nat) (nm0 : List (List UInt8)) (hkids : KS V d1 k false (some n) m [] 0) (hroom : l.length + 40000 * (n + 2) ≤ 90000000)
    (HTL : Hid (∀ (p n1 : Nat), valN d1 (V.drop p) = some n1 → (textJ d1 (V.drop p)).length + 18004 ≤ 40000 * n1))
    (HQQ : Hid (∀ (W' : World) (x : ByteArray), x.size ≤ 100000 → Calls Tryz.prog 28 #[.string x] W' fun e w' => e = .returned (.string ⟨(quoteL x.data.toList).toArray⟩) ∧ Below W'.heap.size W' w'))
    (HIH : Hid (∀ (W' : World) (l' : List UInt8) (p n1 : Nat), p < V.length → valN d1 (V.drop p) = some n1 → l'.length + 40000 * (n1 + 1) ≤ 90000000 → BJ w0 V b off cap bv bb bn l' W' → Calls Tryz.prog 30 #[.int .i64 (p : Int), .pointer (some ⟨bv, 0, none⟩), .pointer (some ⟨bb, 0, none⟩), .pointer (some ⟨bn, 0, none⟩)] W' fun e w' => JEnd w0 V b off cap bv bb bn (l' ++ textJ d1 (V.drop p)) ((p + n1 : Nat) : Int) W' e w')) :
    Calls Tryz.prog 30 #[.int .i64 (k : Int), .pointer (some ⟨bv, 0, none⟩), .pointer (some ⟨bb, 0, none⟩), .pointer (some ⟨bn, 0, none⟩)] W fun e w' => JEnd w0 V b off cap bv bb bn (l ++ ([123] ++ (kidsJ (valN d1) (textJ d1) true m true (V.drop (k + 1)) ++ [125]))) (((k + 1 + n : Nat) : Int)) W e w' := by
  have v0 : W.cell? ⟨bv, 0, none⟩ = some (.slice (some ⟨b, off, none⟩) V.length cap) := by rw [Lib.cell_of_heap hB.hv]; rfl
  have lbv := heap_lt hB.hv
  have lbb : bb < W.heap.size := by
    rcases hB.hb with h | h
    · obtain ⟨_, v, h, _⟩ := h; exact heap_lt h
    · obtain ⟨_, v, h, _⟩ := h; exact heap_lt h
  have hz0 := hB.bel.size
  have HB := Lib.hid hB
  clear hB
  have HK0 := Lib.hid hkids
  have HROOM := Lib.hid hroom
  clear hroom
  obtain ⟨R, hR⟩ : ∃ R, l ++ ([123] ++ (kidsJ (valN d1) (textJ d1) true m true (V.drop (k + 1)) ++ [125])) = R := ⟨_, rfl⟩
  have HR0 : Hid ((l ++ [123]) ++ (kidsJ (valN d1) (textJ d1) true m (decide (0 = 0)) (V.drop (k + 1 + 0)) ++ [125]) = R) := Lib.hid (by rw [← hR]; simp)
  rw [hR]
  obtain ⟨K, hK⟩ : ∃ K, k + 1 + n = K := ⟨_, rfl⟩
  have HK := Lib.hid hK
  rw [hK]
  clear hR hK hkids
  have hba : Below W.heap.size W (W.alloc (.cells #[.int .u8 (kk : Int), .string nx, .string tx, .int .i64 nu, .int .i64 (m : Int)] 41)) := (Below.refl _ _).alloc (Nat.le_refl _) _
  have HBA := Lib.hid (HB.out.below hba)
  have HJA : Hid (JK w0.heap.size bb W (W.alloc (.cells #[.int .u8 (kk : Int), .string nx, .string tx, .int .i64 nu, .int .i64 (m : Int)] 41))) := Lib.hid (JK.of_below hba hz0)
  clear hba
  go_enter Tryz.func30, Tryz.ntmps30
  go_wp2_with fail
  refine (wbyte w0.heap.size bb l 123 123 rfl _ HBA.out.hb (by omega) HBA.out.bel.size).mono ?_; rintro e w1 ⟨rfl, hx1, hx2, hx3⟩
  have HB1 := Lib.hid (HBA.out.step hx1 ⟨hx2, hx3⟩)
  have HJ1 : Hid (JK w0.heap.size bb W w1) := Lib.hid (HJA.out.trans ⟨hx2, hx3⟩)
  have hc1 : w1.heap[W.heap.size]? = some (.cells #[.int .u8 (kk : Int), .string nx, .string tx, .int .i64 nu, .int .i64 (m : Int)] 41 (0, 0)) := kept_cel hx3 (heap_alloc_new W _) (by omega)
  have m4 : w1.cell? ⟨W.heap.size, 4, none⟩ = some (.int .i64 (m : Int)) := by rw [Lib.cell_of_heap hc1]; rfl
  have HC1 := Lib.hid hc1
  clear hx1 hx2 hx3 hc1
  go_wp2_with fail
  clear m4
  have hcb : W.heap.size ≠ bb := by omega
  generalize W.heap.size = cb at *
  go_loopg [0, 25] m (fun gk at_ ct wr => ∃ (j p u : Nat) (nm : List (List UInt8)) (L : List UInt8), at_ = .int .i64 (p : Int) ∧ ct = .int .i64 j ∧ (gk + j ≤ m ∧ m ≤ gk + j) ∧ p ≤ V.length ∧ Hid (p = k + 1 + u) ∧ j ≤ u ∧ Hid (L.length ≤ l.length + 1 + 40000 * u ∧ u ≤ n) ∧ Hid (KS V d1 k false (some n) gk nm u) ∧ Hid (L ++ (kidsJ (valN d1) (textJ d1) true gk (decide (j = 0)) (V.drop p) ++ [125]) = R) ∧ Hid (BJ w0 V b off cap bv bb bn L wr) ∧ Hid (JK w0.heap.size bb W wr) ∧ Hid (wr.heap[cb]? = some (.cells #[.int .u8 (kk : Int), .string nx, .string tx, .int .i64 nu, .int .i64 (m : Int)] 41 (0, 0))))
  case atStart => exact ⟨0, k + 1, 0, [], l ++ [123], by go_num, rfl, ⟨by omega, by omega⟩, by omega, Lib.hid rfl, Nat.le_refl _, Lib.hid ⟨by simp, Nat.zero_le _⟩, HK0, HR0, HB1, HJ1, HC1⟩
  case round =>
    rename World => wr
    obtain ⟨j, p, u, nm, L, rfl, rfl, ⟨hj, hj'⟩, hp, HPU, hju, HLEN, HKS, HRR, HBr, HJr, HCr⟩ := hrel
    have e0 : wr.cell? ⟨cb, 0, none⟩ = some (.int .u8 (kk : Int)) := by rw [Lib.cell_of_heap HCr.out]; rfl
    have hLL : L.length ≤ 90000000 := by have z1 := HROOM.out; have z2 := HLEN.out.1; have z3 := HLEN.out.2; omega
    by_cases hg0 : gk = 0
    · subst hg0
      have hdone := HKS.out.done
      have hjn : ¬ j < m := by omega
      clear hj hj' hju
      have hu : u = n := (Option.some.inj hdone).symm
      have HPK : Hid (p = K) := Lib.hid (by rw [HPU.out, hu]; exact HK.out)
      have HF : Hid (L ++ [125] = R) := Lib.hid (by have := HRR.out; rw [show kidsJ (valN d1) (textJ d1) true 0 (decide (j = 0)) (V.drop p) = [] from rfl] at this; exact this)
      clear hdone hu
      go_wp2_with fail
      refine (wbyte w0.heap.size bb L 125 125 rfl _ HBr.out.hb (by omega) HBr.out.bel.size).mono ?_; rintro e wx ⟨rfl, hx1, hx2, hx3⟩
      have HFIN : Hid (JEnd w0 V b off cap bv bb bn R (K : Int) W (.returned (.int .i64 (p : Int))) wx) := Lib.hid (by
        rw [← HF.out, HPK.out]
        exact ⟨rfl, HBr.out.step hx1 ⟨hx2, hx3⟩, HJr.out.trans ⟨hx2, hx3⟩⟩)
      clear hx1 hx2 hx3
      go_wp2_with fail
      go_ret
      exact HFIN.out
    · obtain ⟨g1, rfl⟩ : ∃ g1, gk = g1 + 1 := ⟨gk - 1, by omega⟩
      have hjm : j < m := by omega
      clear hg0
      obtain ⟨hpl, n1, hv1, hks⟩ := HKS.out.step HPU.out
      have hn1 := (valN_le _ _ _ hv1).1
      have hn2 := (valN_le _ _ _ hv1).2
      have hun1 : u + n1 ≤ n := by
        have := hks
        unfold KS at this
        obtain ⟨x, _, hx⟩ := Option.map_eq_some_iff.1 this
        omega
      rw [List.length_drop] at hn2
      have HT1 := Lib.hid (HTL.out p n1 hv1)
      have HUN := Lib.hid hun1
      clear hun1
      have hrr := HRR.out
      rw [kidsJ, hv1, Option.getD_some, List.drop_drop] at hrr
      have HI : Hid (∀ (W' : World) (l' : List UInt8), l'.length + 40000 * (n1 + 1) ≤ 90000000 → BJ w0 V b off cap bv bb bn l' W' → Calls Tryz.prog 30 #[.int .i64 (p : Int), .pointer (some ⟨bv, 0, none⟩), .pointer (some ⟨bb, 0, none⟩), .pointer (some ⟨bn, 0, none⟩)] W' fun e w' => JEnd w0 V b off cap bv bb bn (l' ++ textJ d1 (V.drop p)) ((p + n1 : Nat) : Int) W' e w') := Lib.hid fun W' l' h1 h2 => HIH.out W' l' p n1 hpl hv1 h1 h2
      obtain ⟨p2, hp2⟩ : ∃ p2, p + n1 = p2 := ⟨_, rfl⟩
      have HP2 : Hid (p2 = k + 1 + (u + n1)) := Lib.hid (by rw [← hp2, HPU.out]; omega)
      have hp3 : p2 ≤ V.length := by omega
      have HKS2 := Lib.hid hks
      rw [hp2] at HI hrr
      generalize textJ d1 (V.drop p) = tj at *
      by_cases hj0 : j = 0
      · have hj1 : ¬ 0 < j := by omega
        have hj2 : decide (0 < j) = false := decide_eq_false hj1
        have hshort := HSM.out V[p] (List.getElem_mem _)
        obtain ⟨_, r1, _⟩ := (HROW.out.below HBr.out.bel hbl) p hpl
        have hhd : ((V.drop p).headD ⟨0, [], [], 0, 0⟩).name = V[p].name := by rw [List.drop_eq_getElem_cons hpl]; rfl
        have hxz : (⟨V[p].name.toArray⟩ : ByteArray).size = V[p].name.length := by show V[p].name.toArray.size = _; simp
        have hxl : (⟨V[p].name.toArray⟩ : ByteArray).data.toList = V[p].name := by simp
        have hql := quoteL_len' V[p].name
        have HQ := Lib.hid (fun W' => HQQ.out W' ⟨V[p].name.toArray⟩ (by rw [hxz]; omega))
        rw [hxl] at HQ
        unfold preJ at hrr
        rw [hhd, if_pos rfl] at hrr
        have hq3 : (quoteL V[p].name).length ≤ 18002 := by omega
        clear hshort hhd hxz hxl hql
        generalize quoteL V[p].name = qn at *
        clear r1
        obtain ⟨x, hx0⟩ : ∃ x : ByteArray, (⟨V[p].name.toArray⟩ : ByteArray) = x := ⟨_, rfl⟩
        rw [hx0] at HQ
        have HRX : Hid (((L ++ (qn ++ [58])) ++ tj) ++ (kidsJ (valN d1) (textJ d1) true g1 (decide (j + 1 = 0)) (V.drop p2) ++ [125]) = R) := Lib.hid (by
          rw [show decide (j + 1 = 0) = false from decide_eq_false (by omega), ← hrr, decide_eq_true hj0]
          simp)
        clear hrr hj0
        have HX0 := Lib.hid hx0
        have r0 : wr.cell? ⟨bv, 0, none⟩ = some (.slice (some ⟨b, off, none⟩) V.length cap) := by rw [Lib.cell_of_heap HBr.out.hv]; rfl
        obtain ⟨_, r1, _⟩ := (HROW.out.below HBr.out.bel hbl) p hpl
        rw [HX0.out] at r1
        clear hx0
        go_wp2_with fail
        refine (HQ.out _).mono ?_; rintro e w4 ⟨rfl, hb4⟩
        have HB4 := Lib.hid (HBr.out.below hb4)
        have HJ4 : Hid (JK w0.heap.size bb W w4) := Lib.hid (HJr.out.trans (JK.of_below hb4 HBr.out.bel.size))
        have HC4 := Lib.hid ((hb4.block _ (heap_lt HCr.out)).trans HCr.out)
        clear hb4 r0 r1
        obtain ⟨y, hcat⟩ : ∃ y : ByteArray, (⟨qn.toArray⟩ : ByteArray) ++ ⟨#[58]⟩ = y := ⟨_, rfl⟩
        have HY : Hid (y.data.toList = qn ++ [58]) := Lib.hid (by rw [← hcat]; simp)
        have hyz : y.size = qn.length + 1 := by rw [← len_z, HY.out]; simp
        have hyz2 : y.size ≤ 18003 := by omega
        clear hyz
        have hqs : (⟨qn.toArray⟩ : ByteArray).size = qn.length := by show qn.toArray.size = _; simp
        have HCAT := Lib.hid hcat
        have HQS := Lib.hid hqs
        clear hcat hqs
        go_wp2_with fail
        rw [HCAT.out]
        refine (wstr w0.heap.size bb (L) y _ HB4.out.hb (by (try simp only [List.length_append, List.length_cons, List.length_nil]); omega) HB4.out.bel.size).mono ?_; rintro e w5 ⟨rfl, hx1, hx2, hx3⟩
        have HB5 : Hid (BJ w0 V b off cap bv bb bn ((L) ++ (qn ++ [58])) w5) := Lib.hid (HB4.out.step (by rw [← HY.out]; exact hx1) ⟨hx2, hx3⟩)
        have HJ5 := Lib.hid (HJ4.out.trans ⟨hx2, hx3⟩)
        have HC5 := Lib.hid (kept_cel hx3 HC4.out hcb)
        clear hx1 hx2 hx3
        have q0 : w5.cell? ⟨bn, 0, none⟩ = some (.func (.func 30) #[] #[.pointer (some ⟨bv, 0, none⟩), .pointer (some ⟨bb, 0, none⟩), .pointer (some ⟨bn, 0, none⟩)]) := by rw [Lib.cell_of_heap HB5.out.hn]; rfl
        go_wp2_with fail
        refine (HI.out _ (L ++ (qn ++ [58])) (by have z1 := HROOM.out; have z2 := HLEN.out.1; have z3 := HLEN.out.2; have z4 := HT1.out; have z5 := HUN.out; (try simp only [List.length_append, List.length_cons, List.length_nil]); omega) HB5.out).mono ?_; rintro e w6 ⟨rfl, hB6, hJ6⟩
        have HB6 := Lib.hid hB6
        have HJ6 := Lib.hid (HJ5.out.trans hJ6)
        have HC6 := Lib.hid (kept_cel hJ6.2 HC5.out hcb)
        clear hB6 hJ6 q0
        go_wp2_with fail
        go_roundg g1
        case measure => omega
        case rel => exact ⟨j + 1, p2, u + n1, _, (L ++ (qn ++ [58])) ++ tj, rfl, by go_num, ⟨by omega, by omega⟩, hp3, HP2, by omega, Lib.hid ⟨by have z1 := HROOM.out; have z2 := HLEN.out.1; have z3 := HLEN.out.2; have z4 := HT1.out; have z5 := HUN.out; (try simp only [List.length_append, List.length_cons, List.length_nil]); omega, HUN.out⟩, HKS2, HRX, HB6, HJ6, HC6⟩
      · have hj1 : 0 < j := by omega
        have hj2 : decide (0 < j) = true := decide_eq_true hj1
        have hshort := HSM.out V[p] (List.getElem_mem _)
        obtain ⟨_, r1, _⟩ := (HROW.out.below HBr.out.bel hbl) p hpl
        have hhd : ((V.drop p).headD ⟨0, [], [], 0, 0⟩).name = V[p].name := by rw [List.drop_eq_getElem_cons hpl]; rfl
        have hxz : (⟨V[p].name.toArray⟩ : ByteArray).size = V[p].name.length := by show V[p].name.toArray.size = _; simp
        have hxl : (⟨V[p].name.toArray⟩ : ByteArray).data.toList = V[p].name := by simp
        have hql := quoteL_len' V[p].name
        have HQ := Lib.hid (fun W' => HQQ.out W' ⟨V[p].name.toArray⟩ (by rw [hxz]; omega))
        rw [hxl] at HQ
        unfold preJ at hrr
        rw [hhd, if_pos rfl] at hrr
        have hq3 : (quoteL V[p].name).length ≤ 18002 := by omega
        clear hshort hhd hxz hxl hql
        generalize quoteL V[p].name = qn at *
        clear r1
        obtain ⟨x, hx0⟩ : ∃ x : ByteArray, (⟨V[p].name.toArray⟩ : ByteArray) = x := ⟨_, rfl⟩
        rw [hx0] at HQ
        have HRX : Hid ((((L ++ [44]) ++ (qn ++ [58])) ++ tj) ++ (kidsJ (valN d1) (textJ d1) true g1 (decide (j + 1 = 0)) (V.drop p2) ++ [125]) = R) := Lib.hid (by
          rw [show decide (j + 1 = 0) = false from decide_eq_false (by omega), ← hrr, decide_eq_false hj0]
          simp)
        clear hrr hj0
        have HX0 := Lib.hid hx0
        clear hx0
        go_wp2_with fail
        refine (wbyte w0.heap.size bb L 44 44 rfl _ HBr.out.hb (by omega) HBr.out.bel.size).mono ?_; rintro e w3 ⟨rfl, hx1, hx2, hx3⟩
        have HB3 := Lib.hid (HBr.out.step hx1 ⟨hx2, hx3⟩)
        have HJ3 := Lib.hid (HJr.out.trans ⟨hx2, hx3⟩)
        have HC3 := Lib.hid (kept_cel hx3 HCr.out hcb)
        clear hx1 hx2 hx3 e0
        have e0 : w3.cell? ⟨cb, 0, none⟩ = some (.int .u8 (kk : Int)) := by rw [Lib.cell_of_heap HC3.out]; rfl
        have r0 : w3.cell? ⟨bv, 0, none⟩ = some (.slice (some ⟨b, off, none⟩) V.length cap) := by rw [Lib.cell_of_heap HB3.out.hv]; rfl
        obtain ⟨_, r1, _⟩ := (HROW.out.below HB3.out.bel hbl) p hpl
        rw [HX0.out] at r1
        go_wp2_with fail
        refine (HQ.out _).mono ?_; rintro e w4 ⟨rfl, hb4⟩
        have HB4 := Lib.hid (HB3.out.below hb4)
        have HJ4 : Hid (JK w0.heap.size bb W w4) := Lib.hid (HJ3.out.trans (JK.of_below hb4 HB3.out.bel.size))
        have HC4 := Lib.hid ((hb4.block _ (heap_lt HC3.out)).trans HC3.out)
        clear hb4 r0 r1
        obtain ⟨y, hcat⟩ : ∃ y : ByteArray, (⟨qn.toArray⟩ : ByteArray) ++ ⟨#[58]⟩ = y := ⟨_, rfl⟩
        have HY : Hid (y.data.toList = qn ++ [58]) := Lib.hid (by rw [← hcat]; simp)
        have hyz : y.size = qn.length + 1 := by rw [← len_z, HY.out]; simp
        have hyz2 : y.size ≤ 18003 := by omega
        clear hyz
        have hqs : (⟨qn.toArray⟩ : ByteArray).size = qn.length := by show qn.toArray.size = _; simp
        have HCAT := Lib.hid hcat
        have HQS := Lib.hid hqs
        clear hcat hqs
        go_wp2_with fail
        rw [HCAT.out]
        refine (wstr w0.heap.size bb (L ++ [44]) y _ HB4.out.hb (by (try simp only [List.length_append, List.length_cons, List.length_nil]); omega) HB4.out.bel.size).mono ?_; rintro e w5 ⟨rfl, hx1, hx2, hx3⟩
        have HB5 : Hid (BJ w0 V b off cap bv bb bn ((L ++ [44]) ++ (qn ++ [58])) w5) := Lib.hid (HB4.out.step (by rw [← HY.out]; exact hx1) ⟨hx2, hx3⟩)
        have HJ5 := Lib.hid (HJ4.out.trans ⟨hx2, hx3⟩)
        have HC5 := Lib.hid (kept_cel hx3 HC4.out hcb)
        clear hx1 hx2 hx3
        have q0 : w5.cell? ⟨bn, 0, none⟩ = some (.func (.func 30) #[] #[.pointer (some ⟨bv, 0, none⟩), .pointer (some ⟨bb, 0, none⟩), .pointer (some ⟨bn, 0, none⟩)]) := by rw [Lib.cell_of_heap HB5.out.hn]; rfl
        go_wp2_with fail
        refine (HI.out _ ((L ++ [44]) ++ (qn ++ [58])) (by have z1 := HROOM.out; have z2 := HLEN.out.1; have z3 := HLEN.out.2; have z4 := HT1.out; have z5 := HUN.out; (try simp only [List.length_append, List.length_cons, List.length_nil]); omega) HB5.out).mono ?_; rintro e w6 ⟨rfl, hB6, hJ6⟩
        have HB6 := Lib.hid hB6
        have HJ6 := Lib.hid (HJ5.out.trans hJ6)
        have HC6 := Lib.hid (kept_cel hJ6.2 HC5.out hcb)
        clear hB6 hJ6 q0
        go_wp2_with fail
        go_roundg g1
        case measure => omega
        case rel => exact ⟨j + 1, p2, u + n1, _, ((L ++ [44]) ++ (qn ++ [58])) ++ tj, rfl, by go_num, ⟨by omega, by omega⟩, hp3, HP2, by omega, Lib.hid ⟨by have z1 := HROOM.out; have z2 := HLEN.out.1; have z3 := HLEN.out.2; have z4 := HT1.out; have z5 := HUN.out; (try simp only [List.length_append, List.length_cons, List.length_nil]); omega, HUN.out⟩, HKS2, HRX, HB6, HJ6, HC6⟩
end Go.Proofs.YtglhanblbojkhaaGreatDoor
namespace Go.Proofs.YtglhanblbojkhaaGreatDoor
open Go.RowKit
theorem ix_indexByteString_run (s : ByteArray) (c : Int) (w : World) :
    (callFunc 82 #[.string s, .int .u8 c]).run Tryz.prog w = .ok (.value (.int .i64 (Lib.indexByte s.data.toList c.toNat.toUInt8))) w := by
  rw [run_callFunc_extern Tryz.func82 (by kernel_rfl) (by kernel_rfl) (by kernel_rfl) (e := Extern.BytealgIndexByte.indexByte) (by kernel_rfl), Lib.run_indexByteString]
  rfl
theorem ix_slIndexByte_any (s : ByteArray) (c : Int) (w : World) :
    Calls Tryz.prog 59 #[.string s, .int .u8 c] w fun e w' => e = .returned (.int .i64 (Lib.indexByte s.data.toList c.toNat.toUInt8)) ∧ w = w' := by
  have h := ix_indexByteString_run s c
  generalize Lib.indexByte s.data.toList c.toNat.toUInt8 = r at *
  go_enter Tryz.func59, Tryz.ntmps59
  go_wp2_with fail
  go_ret
  exact ⟨rfl, rfl⟩
theorem ix_index_one (s : ByteArray) (c : UInt8) (w : World) :
    Calls Tryz.prog 149 #[.string s, .string ⟨#[c]⟩] w fun e w' => e = .returned (.int .i64 (Lib.indexByte s.data.toList c)) ∧ w = w' := by
  by_cases h : s.data.toList = [c]
  · have hs : s = ⟨#[c]⟩ := by
      obtain ⟨d⟩ := s
      have : d = #[c] := by apply Array.ext'; simpa using h
      rw [this]
    subst hs
    have e : Lib.indexByte (⟨#[c]⟩ : ByteArray).data.toList c = 0 := by rw [h]; simp [Lib.indexByte]
    rw [e]
    go_enter Tryz.func149, Tryz.ntmps149
    go_wp2_with fail
    go_ret
    exact ⟨rfl, rfl⟩
  · have hb : ([c] == s.toList) = false := by
      rw [beq_eq_false_iff_ne, ByteArray.toList_eq]; exact fun e => h e.symm
    have H := Lib.hid (fun w => ix_slIndexByte_any s (c.toNat : Int) w)
    rw [show ((c.toNat : Int)).toNat.toUInt8 = c by simp] at H
    clear h
    go_enter Tryz.func149, Tryz.ntmps149
    go_wp2_with fail
    refine (H.out _).mono ?_; rintro e w1 ⟨rfl, rfl⟩
    go_wp2_with fail
    go_ret
    exact ⟨rfl, rfl⟩
theorem ix_sindex (s : ByteArray) (c : UInt8) (w : World) :
    Calls Tryz.prog 143 #[.string s, .string ⟨#[c]⟩] w fun e w' => e = .returned (.int .i64 (Lib.indexByte s.data.toList c)) ∧ w = w' := by
  have H := Lib.hid (fun w => ix_index_one s c w)
  generalize Lib.indexByte s.data.toList c = r at *
  go_enter Tryz.func143, Tryz.ntmps143
  go_wp2_with fail
  refine (H.out _).mono ?_; rintro e w1 ⟨rfl, rfl⟩
  go_wp2_with fail
  go_ret
  exact ⟨rfl, rfl⟩
theorem ix_contains (s : ByteArray) (c : UInt8) (w : World) :
    Calls Tryz.prog 128 #[.string s, .string ⟨#[c]⟩] w fun e w' => e = .returned (.bool (s.data.toList.contains c)) ∧ w = w' := by
  have H := fun w => ix_sindex s c w
  rcases ib_cases c s.data.toList with ⟨g1, n, g2⟩ | ⟨g1, g2⟩
  all_goals
    rw [g1]
    rw [g2] at H
    have HI := Lib.hid H
    clear H g1 g2
    go_enter Tryz.func128, Tryz.ntmps128
    go_wp2_with fail
    refine (HI.out _).mono ?_; rintro e w1 ⟨rfl, rfl⟩
    go_wp2_with fail
    go_ret
    first | exact ⟨rfl, rfl⟩ | exact ⟨ret_b (decide_eq_true (p := (0 : Int) ≤ n) (by omega)), rfl⟩
end Go.Proofs.YtglhanblbojkhaaGreatDoor
namespace Go.Proofs.YtglhanblbojkhaaGreatDoor
open Go.RowKit
theorem dw_all (p : UInt8 → Bool) : ∀ l : List UInt8, (l.dropWhile p).isEmpty = l.all p
  | [] => rfl
  | a :: l => by
    rw [List.dropWhile_cons, List.all_cons]
    cases p a with
    | true => simpa using dw_all p l
    | false => rfl
theorem dw_all2 (p : UInt8 → Bool) : ∀ l : List UInt8, (l.dropWhile p).all p = l.all p
  | [] => rfl
  | a :: l => by
    rw [List.dropWhile_cons, List.all_cons]
    cases h : p a with
    | true => simpa using dw_all2 p l
    | false => simp [h]
theorem trimS_all (l cs : List UInt8) : (Lib.trimS l cs).isEmpty = l.all (cs.contains ·) := by
  unfold Lib.trimS Lib.trimLeftS Lib.trimRightS
  rw [dw_all, List.all_reverse, dw_all2, List.all_reverse]
theorem nameC_ascii (c : UInt8) (h : nameC c = true) : c.toNat < 128 := by
  unfold nameC at h
  rw [decide_eq_true_eq] at h
  omega
theorem crune_any (c : UInt8) (h : nameC c = true) (w : World) :
    Calls Tryz.prog 93 #[.string ⟨#[95, 97, 98, 99, 100, 101, 102, 103, 104, 105, 106, 107, 108, 109, 110, 111, 112, 113, 114, 115, 116, 117, 118, 119, 120, 121, 122, 65, 66, 67, 68, 69, 70, 71, 72, 73, 74, 75, 76, 77, 78, 79, 80, 81, 82, 83, 84, 85, 86, 87, 88, 89, 90, 48, 49, 50, 51, 52, 53, 54, 55, 56, 57]⟩, .int .i32 (c.toNat : Int)] w fun e w' => e = .returned (.bool true) ∧ w = w' := by
  have ha := nameC_ascii c h
  refine (Tryz.strings_ContainsRune_ascii ⟨#[95, 97, 98, 99, 100, 101, 102, 103, 104, 105, 106, 107, 108, 109, 110, 111, 112, 113, 114, 115, 116, 117, 118, 119, 120, 121, 122, 65, 66, 67, 68, 69, 70, 71, 72, 73, 74, 75, 76, 77, 78, 79, 80, 81, 82, 83, 84, 85, 86, 87, 88, 89, 90, 48, 49, 50, 51, 52, 53, 54, 55, 56, 57]⟩ (c.toNat : Int) w (by omega) (by omega)).mono ?_
  rintro e w' ⟨h1, h2⟩
  refine ⟨?_, h2.symm⟩
  rw [h1, show ((c.toNat : Int)).toNat.toUInt8 = c by simp]
  rcases ib_cases c nameMs with ⟨g1, k, g2⟩ | ⟨g1, g2⟩
  · have : Lib.indexByte (⟨#[95, 97, 98, 99, 100, 101, 102, 103, 104, 105, 106, 107, 108, 109, 110, 111, 112, 113, 114, 115, 116, 117, 118, 119, 120, 121, 122, 65, 66, 67, 68, 69, 70, 71, 72, 73, 74, 75, 76, 77, 78, 79, 80, 81, 82, 83, 84, 85, 86, 87, 88, 89, 90, 48, 49, 50, 51, 52, 53, 54, 55, 56, 57]⟩ : ByteArray).data.toList c = k := g2
    rw [this]
    simp
  · rw [name_ms, h] at g1; cases g1
set_option maxRecDepth 100000 in
theorem nclo_any (c : UInt8) (h : nameC c = true) (w : World) :
    Calls Tryz.prog 130 #[.int .i32 (c.toNat : Int)] w fun e w' => e = .returned (.bool false) ∧ w = w' := by
  have H := Lib.hid (fun w => crune_any c h w)
  clear h
  generalize (c.toNat : Int) = n at *
  go_enter Tryz.func130, Tryz.ntmps130
  go_wp2_with fail
  refine (H.out _).mono ?_; rintro e w1 ⟨rfl, rfl⟩
  go_wp2_with fail
  go_ret
  exact ⟨rfl, rfl⟩
set_option maxRecDepth 100000 in
theorem nindex_any (s : ByteArray) (h : s.data.toList.all nameC = true) (hs : s.size ≤ 1000000) (w : World) :
    Calls Tryz.prog 150 #[.string s, .func (.func 130) #[] #[], .bool true] w fun e w' => e = .returned (.int .i64 (-1)) ∧ Below w.heap.size w w' := by
  have HA : Hid (∀ (k : Nat) (hk : k < s.size), nameC s[k] = true) := Lib.hid fun k hk => List.all_eq_true.1 h s[k] (by rw [show s[k] = s.data.toList[k]'(by rw [len_z]; exact hk) from by simp; rfl]; exact List.getElem_mem _)
  clear h
  go_enter Tryz.func150, Tryz.ntmps150
  go_wp2_with fail
  go_loopg [8] s.size (fun g v wr => ∃ k : Nat, g + k = s.size ∧ wr = w.iter s k) 
  case atStart => exact ⟨0, by omega, rfl⟩
  case round =>
    obtain ⟨k, hk, rfl⟩ := hrel
    by_cases hlt : k < s.size
    · have n0 := fun ty => run_next_ascii (P := Tryz.prog) w s k ty hlt (nameC_ascii _ (HA.out k hlt))
      have H := Lib.hid (fun w => nclo_any s[k] (HA.out k hlt) w)
      obtain ⟨g, rfl⟩ : ∃ g, gk = g + 1 := ⟨gk - 1, by omega⟩
      generalize (s[k].toNat : Int) = n at *
      go_wp2_with fail
      refine (H.out _).mono ?_; rintro e w1 ⟨rfl, rfl⟩
      clear n0
      go_wp2_with fail
      go_roundg g
      case measure => omega
      case rel => exact ⟨k + 1, by omega, rfl⟩
    · have n0 := fun ty => run_next_end (P := Tryz.prog) w s k ty hlt
      go_wp2_with fail
      go_ret
      refine ⟨rfl, ?_⟩
      unfold World.iter
      exact (Below.refl _ _).alloc (Nat.le_refl _) _
set_option maxRecDepth 100000 in
theorem ncontains_any (s : ByteArray) (h : s.data.toList.all nameC = true) (hs : s.size ≤ 1000000) (w : World) :
    Calls Tryz.prog 129 #[.string s, .func (.func 130) #[] #[]] w fun e w' => e = .returned (.bool false) ∧ Below w.heap.size w w' := by
  have H := Lib.hid (fun w => nindex_any s h hs w)
  clear h
  have HI : Hid (∀ w, Calls Tryz.prog 144 #[.string s, .func (.func 130) #[] #[]] w fun e w' => e = .returned (.int .i64 (-1)) ∧ Below w.heap.size w w') := Lib.hid fun w => by
    go_enter Tryz.func144, Tryz.ntmps144
    go_wp2_with fail
    refine (H.out _).mono ?_; rintro e w1 ⟨rfl, hb⟩
    go_wp2_with fail
    go_ret
    exact ⟨rfl, hb⟩
  go_enter Tryz.func129, Tryz.ntmps129
  go_wp2_with fail
  refine (HI.out _).mono ?_; rintro e w1 ⟨rfl, hb⟩
  go_wp2_with fail
  go_ret
  exact ⟨rfl, hb⟩
theorem cname_no (s : ByteArray) (h1 : s.toList = []) (h2 : s.toList.isEmpty = true) (w : World) :
    Calls Tryz.prog 110 #[.string s] w fun e w' => e = .returned (.bool false) ∧ Below w.heap.size w w' := by
  go_enter Tryz.func110, Tryz.ntmps110
  go_wp2_with fail
  go_ret
  exact ⟨rfl, Below.refl _ _⟩
theorem cname_trim (s : ByteArray) (hs : s.size ≤ 1000000) (w : World) :
    Calls Tryz.prog 89 #[.string s, .string ⟨#[95, 97, 98, 99, 100, 101, 102, 103, 104, 105, 106, 107, 108, 109, 110, 111, 112, 113, 114, 115, 116, 117, 118, 119, 120, 121, 122, 65, 66, 67, 68, 69, 70, 71, 72, 73, 74, 75, 76, 77, 78, 79, 80, 81, 82, 83, 84, 85, 86, 87, 88, 89, 90, 48, 49, 50, 51, 52, 53, 54, 55, 56, 57]⟩] w fun e w' => e = .returned (.string ⟨(Lib.trimS s.data.toList nameMs).toArray⟩) ∧ Below w.heap.size w w' :=
  Any.strings_Trim_laid Tryz.lays160 (by kernel_rfl) s ⟨#[95, 97, 98, 99, 100, 101, 102, 103, 104, 105, 106, 107, 108, 109, 110, 111, 112, 113, 114, 115, 116, 117, 118, 119, 120, 121, 122, 65, 66, 67, 68, 69, 70, 71, 72, 73, 74, 75, 76, 77, 78, 79, 80, 81, 82, 83, 84, 85, 86, 87, 88, 89, 90, 48, 49, 50, 51, 52, 53, 54, 55, 56, 57]⟩ w (by omega) (by decide) (ascii_of_all (by decide))
set_option maxRecDepth 100000 in
theorem cname_out (s t : ByteArray) (h1 : ¬ s.toList = []) (h2 : s.toList.isEmpty = false) (H : Hid (∀ w, Calls Tryz.prog 89 #[.string s, .string ⟨#[95, 97, 98, 99, 100, 101, 102, 103, 104, 105, 106, 107, 108, 109, 110, 111, 112, 113, 114, 115, 116, 117, 118, 119, 120, 121, 122, 65, 66, 67, 68, 69, 70, 71, 72, 73, 74, 75, 76, 77, 78, 79, 80, 81, 82, 83, 84, 85, 86, 87, 88, 89, 90, 48, 49, 50, 51, 52, 53, 54, 55, 56, 57]⟩] w fun e w' => e = .returned (.string t) ∧ Below w.heap.size w w'))
    (h3 : ¬ t.toList = []) (h4 : t.toList.isEmpty = false) (w : World) :
    Calls Tryz.prog 110 #[.string s] w fun e w' => e = .returned (.bool false) ∧ Below w.heap.size w w' := by
  go_enter Tryz.func110, Tryz.ntmps110
  go_wp2_with fail
  refine (H.out _).mono ?_; rintro e w1 ⟨rfl, hb⟩
  go_wp2_with fail
  go_ret
  exact ⟨rfl, hb⟩
set_option maxRecDepth 100000 in
theorem cname_in (s : ByteArray) (d : Bool) (hsz : 0 < s.size) (h1 : ¬ s.toList = []) (h2 : s.toList.isEmpty = false) (H : Hid (∀ w, Calls Tryz.prog 89 #[.string s, .string ⟨#[95, 97, 98, 99, 100, 101, 102, 103, 104, 105, 106, 107, 108, 109, 110, 111, 112, 113, 114, 115, 116, 117, 118, 119, 120, 121, 122, 65, 66, 67, 68, 69, 70, 71, 72, 73, 74, 75, 76, 77, 78, 79, 80, 81, 82, 83, 84, 85, 86, 87, 88, 89, 90, 48, 49, 50, 51, 52, 53, 54, 55, 56, 57]⟩] w fun e w' => e = .returned (.string ⟨#[]⟩) ∧ Below w.heap.size w w'))
    (HC : Hid (∀ w, Calls Tryz.prog 128 #[.string ⟨#[48, 49, 50, 51, 52, 53, 54, 55, 56, 57]⟩, .string (s.extract 0 1)] w fun e w' => e = .returned (.bool d) ∧ w = w'))
    (HF : Hid (∀ w, Calls Tryz.prog 129 #[.string s, .func (.func 130) #[] #[]] w fun e w' => e = .returned (.bool false) ∧ Below w.heap.size w w')) (w : World) :
    Calls Tryz.prog 110 #[.string s] w fun e w' => e = .returned (.bool !d) ∧ Below w.heap.size w w' := by
  cases d with
  | true =>
    go_enter Tryz.func110, Tryz.ntmps110
    go_wp2_with fail
    refine (H.out _).mono ?_; rintro e w1 ⟨rfl, hb⟩
    go_wp2_with fail
    refine (HC.out _).mono ?_; rintro e w2 ⟨rfl, rfl⟩
    go_wp2_with fail
    go_ret
    exact ⟨rfl, hb⟩
  | false =>
    go_enter Tryz.func110, Tryz.ntmps110
    go_wp2_with fail
    refine (H.out _).mono ?_; rintro e w1 ⟨rfl, hb⟩
    have HB := Lib.hid hb
    have hz := hb.size
    clear hb
    go_wp2_with fail
    refine (HC.out _).mono ?_; rintro e w2 ⟨rfl, rfl⟩
    go_wp2_with fail
    refine (HF.out _).mono ?_; rintro e w3 ⟨rfl, hb⟩
    have HB2 := Lib.hid (HB.out.trans (hb.mono hz))
    clear hb
    go_wp2_with fail
    go_ret
    exact ⟨rfl, HB2.out⟩
theorem dig_ms (c : UInt8) : ([48, 49, 50, 51, 52, 53, 54, 55, 56, 57] : List UInt8).contains c = isDig c := by
  have := all256' (f := fun c => ([48, 49, 50, 51, 52, 53, 54, 55, 56, 57] : List UInt8).contains c == isDig c) (by decide +kernel) c
  simpa using this
theorem cname_any (s : ByteArray) (hs : s.size ≤ 1000000) (w : World) :
    Calls Tryz.prog 110 #[.string s] w fun e w' => e = .returned (.bool (nameB s.data.toList)) ∧ Below w.heap.size w w' := by
  rcases empty_z s with ⟨h0, h1, h2, h3⟩ | ⟨h0, h1, h2, h3⟩
  · have hd := head_z s h0
    have hT := trimS_all s.data.toList nameMs
    rw [show (nameMs.contains ·) = nameC from funext name_ms] at hT
    have hnb : nameB s.data.toList = (!isDig s[0] && s.data.toList.all nameC) := by rw [hd]; rfl
    cases hall : s.data.toList.all nameC with
    | false =>
      rw [hall] at hT
      rw [hnb, hall, Bool.and_false]
      refine cname_out s ⟨(Lib.trimS s.data.toList nameMs).toArray⟩ h1 h2 (Lib.hid fun w => cname_trim s hs w) ?_ ?_ w
      · rw [ByteArray.toList_eq]; intro e
        have : Lib.trimS s.data.toList nameMs = [] := by simpa using e
        rw [this] at hT; cases hT
      · rw [ByteArray.toList_eq]; simpa using hT
    | true =>
      rw [hall] at hT
      rw [hnb, hall, Bool.and_true]
      refine cname_in s (isDig s[0]) h0 h1 h2 (Lib.hid fun w => ?_) (Lib.hid fun w => ?_) (Lib.hid fun w => ncontains_any s hall hs w) w
      · have := cname_trim s hs w
        rw [List.isEmpty_iff.1 hT] at this
        exact this
      · have he : s.extract 0 1 = ⟨#[s[0]]⟩ := by
          have hx : (s.extract 0 1).data.toList = [s[0]] := by
            have := Lib.extract_data s 0 1
            rw [this, hd]; simp
          exact bytes_ext' hx
        rw [he]
        have := ix_contains ⟨#[48, 49, 50, 51, 52, 53, 54, 55, 56, 57]⟩ s[0] w
        rw [show (⟨#[48, 49, 50, 51, 52, 53, 54, 55, 56, 57]⟩ : ByteArray).data.toList = ([48, 49, 50, 51, 52, 53, 54, 55, 56, 57] : List UInt8) from rfl, dig_ms] at this
        exact this
  · rw [h3]
    exact cname_no s h1 h2 w
end Go.Proofs.YtglhanblbojkhaaGreatDoor
namespace Go.Proofs.YtglhanblbojkhaaGreatDoor
open Go.RowKit
def ctext (k : Nat) (x : List UInt8) : Bool := if k = 3 then textB x else if k = 4 then nameB x else if k = 5 then nameB x else x.isEmpty
def cnum (k : Nat) (n : Int) : Bool := if k = 1 then (n == 0 || n == 1) else if k = 2 then true else n == 0
def cnest (k : Nat) : Bool := k == 6 || k == 7
theorem nest_kind (c : Cel) : nestC c = cnest c.kind.toNat := by
  unfold nestC cnest
  have h6 : (c.kind == 6) = (c.kind.toNat == 6) := by
    rw [Bool.eq_iff_iff, beq_iff_eq, beq_iff_eq]
    exact ⟨fun h => by rw [h]; rfl, fun h => UInt8.toNat_inj.1 h⟩
  have h7 : (c.kind == 7) = (c.kind.toNat == 7) := by
    rw [Bool.eq_iff_iff, beq_iff_eq, beq_iff_eq]
    exact ⟨fun h => by rw [h]; rfl, fun h => UInt8.toNat_inj.1 h⟩
  rw [h6, h7]
theorem one_kind (c : Cel) : oneC c = (decide (c.kind.toNat ≤ 7) && (ctext c.kind.toNat c.text && cnum c.kind.toNat c.num && (if cnest c.kind.toNat then decide (0 ≤ c.many) else c.many == 0))) := by
  have key : ∀ k : Nat, (c.kind.toNat = k) ↔ c.kind = UInt8.ofNat k ∧ k < 256 := by
    intro k
    constructor
    · intro h
      have hlt := UInt8.toNat_lt c.kind
      refine ⟨UInt8.toNat_inj.1 ?_, by omega⟩
      rw [UInt8.toNat_ofNat', h]
      omega
    · rintro ⟨h, h2⟩
      rw [h, UInt8.toNat_ofNat']
      omega
  have big : 7 < c.kind.toNat → oneC c = false := by
    intro h
    unfold oneC
    have ne : ∀ k : UInt8, k.toNat ≤ 7 → c.kind ≠ k := fun k hk e => by rw [e] at h; omega
    rw [if_neg (ne 0 (by decide)), if_neg (ne 1 (by decide)), if_neg (ne 2 (by decide)), if_neg (ne 3 (by decide)), if_neg (by rintro (e | e); exact ne 4 (by decide) e; exact ne 5 (by decide) e), if_neg (by rintro (e | e); exact ne 6 (by decide) e; exact ne 7 (by decide) e)]
  by_cases hb : c.kind.toNat ≤ 7
  · rw [decide_eq_true hb, Bool.true_and]
    have h8 : c.kind.toNat = 0 ∨ c.kind.toNat = 1 ∨ c.kind.toNat = 2 ∨ c.kind.toNat = 3 ∨ c.kind.toNat = 4 ∨ c.kind.toNat = 5 ∨ c.kind.toNat = 6 ∨ c.kind.toNat = 7 := by omega
    unfold oneC ctext cnum cnest
    rcases h8 with h | h | h | h | h | h | h | h <;> (have hk := ((key _).1 h).1; rw [h, hk]; simp; try (cases c.text <;> cases (c.many == 0) <;> simp))
  · rw [decide_eq_false hb, Bool.false_and]
    exact big (by omega)
def tfun (k : Nat) : Nat := if k = 3 then 109 else if k = 4 then 110 else if k = 5 then 110 else 105
def nfun (k : Nat) : Nat := if k = 1 then 107 else if k = 2 then 108 else 106
def kindsA : Array Value := #[.func (.func 105) #[] #[], .func (.func 106) #[] #[], .bool false, .func (.func 105) #[] #[], .func (.func 107) #[] #[], .bool false, .func (.func 105) #[] #[], .func (.func 108) #[] #[], .bool false, .func (.func 109) #[] #[], .func (.func 106) #[] #[], .bool false, .func (.func 110) #[] #[], .func (.func 106) #[] #[], .bool false, .func (.func 110) #[] #[], .func (.func 106) #[] #[], .bool false, .func (.func 105) #[] #[], .func (.func 106) #[] #[], .bool true, .func (.func 105) #[] #[], .func (.func 106) #[] #[], .bool true]
theorem kindsA_get (k : Nat) (h : k ≤ 7) : kindsA[k * 3]? = some (.func (.func (tfun k)) #[] #[]) ∧ kindsA[k * 3 + 1]? = some (.func (.func (nfun k)) #[] #[]) ∧ kindsA[k * 3 + 2]? = some (.bool (cnest k)) := by
  have h8 : k = 0 ∨ k = 1 ∨ k = 2 ∨ k = 3 ∨ k = 4 ∨ k = 5 ∨ k = 6 ∨ k = 7 := by omega
  rcases h8 with rfl | rfl | rfl | rfl | rfl | rfl | rfl | rfl <;> exact ⟨rfl, rfl, rfl⟩
theorem ent_none : ∀ args w, (callFunc 105 args).run Tryz.prog w = .ok (.enter 105 args) w := enters_of Tryz.func105 (by kernel_rfl) rfl
theorem ent_zero : ∀ args w, (callFunc 106 args).run Tryz.prog w = .ok (.enter 106 args) w := enters_of Tryz.func106 (by kernel_rfl) rfl
theorem ent_name : ∀ args w, (callFunc 110 args).run Tryz.prog w = .ok (.enter 110 args) w := enters_of Tryz.func110 (by kernel_rfl) rfl
theorem ent_k1 : ∀ args w, (callFunc 107 args).run Tryz.prog w = .ok (.enter 107 args) w := enters_of Tryz.func107 (by kernel_rfl) rfl
theorem ent_k2 : ∀ args w, (callFunc 108 args).run Tryz.prog w = .ok (.enter 108 args) w := enters_of Tryz.func108 (by kernel_rfl) rfl
theorem ent_k3 : ∀ args w, (callFunc 109 args).run Tryz.prog w = .ok (.enter 109 args) w := enters_of Tryz.func109 (by kernel_rfl) rfl
theorem tfun_ent (k : Nat) : ∀ args w, (callFunc (tfun k) args).run Tryz.prog w = .ok (.enter (tfun k) args) w := by
  unfold tfun
  split
  · exact ent_k3
  · split
    · exact ent_name
    · split
      · exact ent_name
      · exact ent_none
theorem nfun_ent (k : Nat) : ∀ args w, (callFunc (nfun k) args).run Tryz.prog w = .ok (.enter (nfun k) args) w := by
  unfold nfun
  split
  · exact ent_k1
  · split
    · exact ent_k2
    · exact ent_zero
theorem none_any (s : ByteArray) (w : World) : Calls Tryz.prog 105 #[.string s] w fun e w' => e = .returned (.bool s.data.toList.isEmpty) ∧ Below w.heap.size w w' := by
  rcases empty_z s with ⟨h0, h1, h2, h3⟩ | ⟨h0, h1, h2, h3⟩
  · have : s.data.toList.isEmpty = false := by rw [← ByteArray.toList_eq]; exact h2
    rw [this]
    go_enter Tryz.func105, Tryz.ntmps105
    go_wp2_with fail
    go_ret
    exact ⟨rfl, Below.refl _ _⟩
  · have : s.data.toList.isEmpty = true := by rw [← ByteArray.toList_eq]; exact h2
    rw [this]
    go_enter Tryz.func105, Tryz.ntmps105
    go_wp2_with fail
    go_ret
    exact ⟨rfl, Below.refl _ _⟩
theorem zero_any (n : Int) (w : World) : Calls Tryz.prog 106 #[.int .i64 n] w fun e w' => e = .returned (.bool (n == 0)) ∧ Below w.heap.size w w' := by
  go_enter Tryz.func106, Tryz.ntmps106
  go_wp2_with fail
  go_ret
  exact ⟨rfl, Below.refl _ _⟩
theorem k1_any (n : Int) (w : World) : Calls Tryz.prog 107 #[.int .i64 n] w fun e w' => e = .returned (.bool (n == 0 || n == 1)) ∧ Below w.heap.size w w' := by
  by_cases h : n = 0
  · have h0 : (n == 0) = true := beq_iff_eq.2 h
    have hr : Hid ((n == 0 || n == 1) = true) := Lib.hid (by rw [h0]; rfl)
    clear h
    go_enter Tryz.func107, Tryz.ntmps107
    go_wp2_with fail
    go_ret
    exact ⟨ret_b hr.out.symm, Below.refl _ _⟩
  · have h0 : (n == 0) = false := beq_eq_false_iff_ne.2 h
    have hr : Hid ((n == 0 || n == 1) = (n == 1)) := Lib.hid (by rw [h0]; rfl)
    clear h
    go_enter Tryz.func107, Tryz.ntmps107
    go_wp2_with fail
    go_ret
    exact ⟨ret_b hr.out.symm, Below.refl _ _⟩
theorem k2_any (n : Int) (w : World) : Calls Tryz.prog 108 #[.int .i64 n] w fun e w' => e = .returned (.bool true) ∧ Below w.heap.size w w' := by
  go_enter Tryz.func108, Tryz.ntmps108
  go_wp2_with fail
  go_ret
  exact ⟨rfl, Below.refl _ _⟩
theorem chkE_text (l : List UInt8) : textB l = (chkE l == 0) := by
  unfold textB chkE
  by_cases q : 16384 < l.length
  · rw [if_pos q, decide_eq_false (by omega)]; rfl
  · rw [if_neg q, decide_eq_true (by omega), Bool.true_and]
    cases Lib.validD l <;> rfl
theorem chkE_cases (l : List UInt8) : chkE l = 0 ∨ chkE l = 4 ∨ chkE l = 10 := by
  unfold chkE
  by_cases q : 16384 < l.length
  · rw [if_pos q]; right; left; rfl
  · rw [if_neg q]
    cases Lib.validD l
    · right; right; rfl
    · left; rfl
theorem k3_any (s : ByteArray) (hs : s.size ≤ 1000000) (w : World) (hE : EnvU w) : Calls Tryz.prog 109 #[.string s] w fun e w' => e = .returned (.bool (textB s.data.toList)) ∧ Below w.heap.size w w' := by
  have H := Lib.hid (tcheck_any s hs w hE)
  rw [chkE_text]
  have hc := chkE_cases s.data.toList
  clear hE
  generalize chkE s.data.toList = c at *
  rcases hc with rfl | rfl | rfl
  all_goals
    go_enter Tryz.func109, Tryz.ntmps109
    go_wp2_with fail
    refine H.out.mono ?_; rintro e w1 ⟨rfl, hb⟩
    go_wp2_with fail
    go_ret
    exact ⟨rfl, hb⟩
theorem tfun_any (k : Nat) (s : ByteArray) (hs : s.size ≤ 1000000) (w : World) (hE : EnvU w) : Calls Tryz.prog (tfun k) #[.string s] w fun e w' => e = .returned (.bool (ctext k s.data.toList)) ∧ Below w.heap.size w w' := by
  unfold tfun ctext
  by_cases h3 : k = 3
  · rw [if_pos h3, if_pos h3]; exact k3_any s hs w hE
  rw [if_neg h3, if_neg h3]
  by_cases h4 : k = 4
  · rw [if_pos h4, if_pos h4]; exact cname_any s hs w
  rw [if_neg h4, if_neg h4]
  by_cases h5 : k = 5
  · rw [if_pos h5, if_pos h5]; exact cname_any s hs w
  rw [if_neg h5, if_neg h5]; exact none_any s w
theorem nfun_any (k : Nat) (n : Int) (w : World) : Calls Tryz.prog (nfun k) #[.int .i64 n] w fun e w' => e = .returned (.bool (cnum k n)) ∧ Below w.heap.size w w' := by
  unfold nfun cnum
  by_cases h1 : k = 1
  · rw [if_pos h1, if_pos h1]; exact k1_any n w
  rw [if_neg h1, if_neg h1]
  by_cases h2 : k = 2
  · rw [if_pos h2, if_pos h2]; exact k2_any n w
  rw [if_neg h2, if_neg h2]; exact zero_any n w
theorem kindsA_one : kindsA.all (·.oneCell') = true := by kernel_rfl
set_option maxRecDepth 100000 in
theorem kinds_any (w : World) : Calls Tryz.prog 80 #[] w fun e w' => e = .returned (.agg kindsA) ∧ Below w.heap.size w w' := by
  have hn : Hid (∀ O, (w.alloc O).heap[w.heap.size]? = some O) := Lib.hid (heap_alloc_new w)
  go_enter Tryz.func80, Tryz.ntmps80
  go_wp2_with (refine wpList_store_row rfl 124 _ _ rfl w.heap.size kindsA rfl rfl 124 #[.nilFunc, .nilFunc, .bool false, .nilFunc, .nilFunc, .bool false, .nilFunc, .nilFunc, .bool false, .nilFunc, .nilFunc, .bool false, .nilFunc, .nilFunc, .bool false, .nilFunc, .nilFunc, .bool false, .nilFunc, .nilFunc, .bool false, .nilFunc, .nilFunc, .bool false] (hn.out _) (by kernel_rfl) rfl kindsA_one ?_)
  refine bodyPost_ret (v := .agg kindsA) (results_cell_row rfl _ _ w.heap.size 124 kindsA (0, 0) _ rfl (setRow_heap _ _ _ kindsA _ _ (hn.out _)) Tryz.underlying124 rfl (by kernel_rfl)) rfl ⟨rfl, ?_⟩
  exact below_setRow ((Below.refl _ _).alloc (Nat.le_refl _) _) (Nat.le_refl _) _
end Go.Proofs.YtglhanblbojkhaaGreatDoor
namespace Go.Proofs.YtglhanblbojkhaaGreatDoor
open Go.RowKit
/-- What behind's inner function finds: the cells, the kinds, itself, the ends. -/
structure BH (w0 : World) (V : List Cel) (b off cap bv ba bw be g : Nat) (es : Array Value) (W : World) : Prop where
  hv : W.heap[bv]? = some (.cells #[.slice (some ⟨b, off, none⟩) V.length cap] 22 (0, 0))
  ha : W.heap[ba]? = some (.cells kindsA 124 (0, 0))
  hw : W.heap[bw]? = some (.cells #[.func (.func 81) #[] #[.pointer (some ⟨bv, 0, none⟩), .pointer (some ⟨ba, 0, none⟩), .pointer (some ⟨bw, 0, none⟩), .pointer (some ⟨be, 0, none⟩)]] 126 (0, 0))
  he : W.heap[be]? = some (.cells #[.slice (some ⟨g, 0, none⟩) V.length V.length] 79 (0, 0))
  hg : W.heap[g]? = some (.cells es 3 (0, 0))
  size : es.size = V.length
  bel : Below w0.heap.size w0 W
  lv : w0.heap.size ≤ bv
  la : w0.heap.size ≤ ba
  lw : w0.heap.size ≤ bw
  le : w0.heap.size ≤ be
  lg : w0.heap.size ≤ g
  nv : bv ≠ g
  na : ba ≠ g
  nw : bw ≠ g
  ne : be ≠ g
section
variable {w0 : World} {V : List Cel} {b off cap bv ba bw be g : Nat} {es : Array Value} {W W' : World}
theorem BH.below (h : BH w0 V b off cap bv ba bw be g es W) (hb : Below W.heap.size W W') : BH w0 V b off cap bv ba bw be g es W' :=
  { h with
    hv := (hb.block _ (heap_lt h.hv)).trans h.hv
    ha := (hb.block _ (heap_lt h.ha)).trans h.ha
    hw := (hb.block _ (heap_lt h.hw)).trans h.hw
    he := (hb.block _ (heap_lt h.he)).trans h.he
    hg := (hb.block _ (heap_lt h.hg)).trans h.hg
    bel := h.bel.trans (hb.mono h.bel.size) }
theorem BH.alloc (h : BH w0 V b off cap bv ba bw be g es W) (o : Obj) : BH w0 V b off cap bv ba bw be g es (W.alloc o) := h.below ((Below.refl _ _).alloc (Nat.le_refl _) _)
theorem BH.grown (h : BH w0 V b off cap bv ba bw be g es W) (hb : W.grownBy W' (some g)) {es' : Array Value} (hg : W'.heap[g]? = some (.cells es' 3 (0, 0))) (hs : es'.size = es.size) : BH w0 V b off cap bv ba bw be g es' W' :=
  { h with
    hv := (hb.block _ (heap_lt h.hv) (fun e => h.nv (Option.some.inj e))).trans h.hv
    ha := (hb.block _ (heap_lt h.ha) (fun e => h.na (Option.some.inj e))).trans h.ha
    hw := (hb.block _ (heap_lt h.hw) (fun e => h.nw (Option.some.inj e))).trans h.hw
    he := (hb.block _ (heap_lt h.he) (fun e => h.ne (Option.some.inj e))).trans h.he
    hg := hg
    size := hs.trans h.size
    bel := h.bel.grown hb h.bel.size (fun k hk => by have := Option.some.inj hk; have := h.lg; omega) }
end
theorem grown_below {W W' : World} (hb : Below W.heap.size W W') (row : Option Nat) : W.grownBy W' row := ⟨hb.os, hb.tape, hb.output, hb.size, fun k hk _ => hb.block k hk⟩
theorem grown_trans {W W' W'' : World} {row : Option Nat} (h : W.grownBy W' row) (h' : W'.grownBy W'' row) : W.grownBy W'' row :=
  ⟨h'.os.trans h.os, h'.tape.trans h.tape, h'.output.trans h.output, Nat.le_trans h.size h'.size, fun k hk hne => (h'.block k (Nat.lt_of_lt_of_le hk h.size) hne).trans (h.block k hk hne)⟩
/-- What a call of behind's inner function hands back: the place, and the ends that it wrote. -/
def BEnd (V : List Cel) (k d g : Nat) (es : Array Value) (r : Int) (e : Ending) (W W' : World) : Prop :=
  e = .returned (.int .i64 r) ∧ W.grownBy W' (some g) ∧ ∃ es' : Array Value, W'.heap[g]? = some (.cells es' 3 (0, 0)) ∧ es'.size = es.size ∧
    ∀ n, valN d (V.drop k) = some n → (∀ i, i < k ∨ k + n ≤ i → es'[i]? = es[i]?) ∧ ∀ i, k ≤ i → i < k + n → es'[i]? = some (.int .i64 (endI V i 16))
theorem bend_no {V : List Cel} {k d g : Nat} {es : Array Value} {W W' : World} (hn : valN d (V.drop k) = none) (hg : W.heap[g]? = some (.cells es 3 (0, 0))) (hb : Below W.heap.size W W') : BEnd V k d g es (endI V k d) (.returned (.int .i64 (-1))) W W' := by
  have : endI V k d = -1 := by unfold endI; rw [hn]
  rw [this]
  refine ⟨rfl, grown_below hb _, es, (hb.block _ (heap_lt hg)).trans hg, rfl, ?_⟩
  intro n h
  rw [hn] at h; cases h
set_option maxRecDepth 100000 in
set_option maxHeartbeats 1000000 in
theorem bw_big (w0 : World) (V : List Cel) (b off cap bv ba bw be g : Nat) (es : Array Value) (W : World) (k d : Nat) (hB : BH w0 V b off cap bv ba bw be g es W) (kk : Nat) (nx tx : ByteArray) (nu mn : Int)
    (hk : k < V.length) (hl : V.length ≤ 100000) (hd : d ≤ 16)
    (c0 : W.cell? ⟨b, off + k * 5, none⟩ = some (.int .u8 (kk : Int))) (c1 : W.cell? ⟨b, off + k * 5 + 1, none⟩ = some (.string nx)) (c2 : W.cell? ⟨b, off + k * 5 + 2, none⟩ = some (.string tx)) (c3 : W.cell? ⟨b, off + k * 5 + 3, none⟩ = some (.int .i64 nu)) (c4 : W.cell? ⟨b, off + k * 5 + 4, none⟩ = some (.int .i64 mn))
    (h7 : 7 < kk) (h8 : kk ≤ 255) :
    Calls Tryz.prog 81 #[.int .i64 (k : Int), .int .i64 (d : Int), .pointer (some ⟨bv, 0, none⟩), .pointer (some ⟨ba, 0, none⟩), .pointer (some ⟨bw, 0, none⟩), .pointer (some ⟨be, 0, none⟩)] W fun e w' => e = .returned (.int .i64 (-1)) ∧ Below W.heap.size W w' := by
  have v0 : W.cell? ⟨bv, 0, none⟩ = some (.slice (some ⟨b, off, none⟩) V.length cap) := by rw [Lib.cell_of_heap hB.hv]; rfl
  clear hB
  go_enter Tryz.func81, Tryz.ntmps81
  go_wp2_with fail
  go_ret
  exact ⟨rfl, (Below.refl _ _).alloc (Nat.le_refl _) _⟩
set_option maxRecDepth 100000 in
set_option maxHeartbeats 1000000 in
theorem bw_text (w0 : World) (V : List Cel) (b off cap bv ba bw be g : Nat) (es : Array Value) (W : World) (k d : Nat) (hB : BH w0 V b off cap bv ba bw be g es W) (kk : Nat) (nx tx : ByteArray) (nu mn : Int)
    (hk : k < V.length) (hl : V.length ≤ 100000) (hd : d ≤ 16)
    (c0 : W.cell? ⟨b, off + k * 5, none⟩ = some (.int .u8 (kk : Int))) (c1 : W.cell? ⟨b, off + k * 5 + 1, none⟩ = some (.string nx)) (c2 : W.cell? ⟨b, off + k * 5 + 2, none⟩ = some (.string tx)) (c3 : W.cell? ⟨b, off + k * 5 + 3, none⟩ = some (.int .i64 nu)) (c4 : W.cell? ⟨b, off + k * 5 + 4, none⟩ = some (.int .i64 mn))
    (hk7 : kk ≤ 7) (HT : Hid (∀ w : World, Below W.heap.size W w → Calls Tryz.prog (tfun kk) #[.string tx] w fun e w' => e = .returned (.bool false) ∧ Below w.heap.size w w')) :
    Calls Tryz.prog 81 #[.int .i64 (k : Int), .int .i64 (d : Int), .pointer (some ⟨bv, 0, none⟩), .pointer (some ⟨ba, 0, none⟩), .pointer (some ⟨bw, 0, none⟩), .pointer (some ⟨be, 0, none⟩)] W fun e w' => e = .returned (.int .i64 (-1)) ∧ Below W.heap.size W w' := by
  have v0 : W.cell? ⟨bv, 0, none⟩ = some (.slice (some ⟨b, off, none⟩) V.length cap) := by rw [Lib.cell_of_heap hB.hv]; rfl
  have lba := heap_lt hB.ha
  have lbv := heap_lt hB.hv
  obtain ⟨a0, a1, a2⟩ := kindsA_get kk hk7
  have k0 : W.cell? ⟨ba, kk * 3, none⟩ = some (.func (.func (tfun kk)) #[] #[]) := by rw [Lib.cell_of_heap hB.ha]; exact a0
  have k1 : W.cell? ⟨ba, kk * 3 + 1, none⟩ = some (.func (.func (nfun kk)) #[] #[]) := by rw [Lib.cell_of_heap hB.ha]; exact a1
  have k2 : W.cell? ⟨ba, kk * 3 + 2, none⟩ = some (.bool (cnest kk)) := by rw [Lib.cell_of_heap hB.ha]; exact a2
  have ht := tfun_ent kk
  have hn := nfun_ent kk
  clear a0 a1 a2
  generalize tfun kk = ft at *
  generalize nfun kk = fn at *
  generalize cnest kk = nest at *
  have HB := Lib.hid hB
  clear hB
  go_enter Tryz.func81, Tryz.ntmps81
  go_wp2_with fail
  refine (HT.out _ (((Below.refl _ _).alloc (Nat.le_refl _) _).alloc (by simp) _)).mono ?_; rintro e w1 ⟨rfl, hb⟩
  have hb1 : Below W.heap.size W w1 := (((Below.refl _ _).alloc (Nat.le_refl _) _).alloc (by simp) _).trans (hb.mono (by simp; omega))
  have hc : w1.heap[W.heap.size]? = some (.cells #[.int .u8 (kk : Int), .string nx, .string tx, .int .i64 nu, .int .i64 mn] 41 (0, 0)) := (hb.block _ (by simp; omega)).trans (heap_old (heap_new _ _ _ rfl))
  have hq : w1.heap[W.heap.size + 1]? = some (.cells #[.func (.func ft) #[] #[], .func (.func fn) #[] #[], .bool nest] 123 (0, 0)) := (hb.block _ (by simp)).trans (heap_new _ _ _ (by simp))
  clear hb
  have w1c0 : w1.cell? ⟨W.heap.size, 0, none⟩ = some (.int .u8 (kk : Int)) := by rw [Lib.cell_of_heap hc]; rfl
  have w1c1 : w1.cell? ⟨W.heap.size, 1, none⟩ = some (.string nx) := by rw [Lib.cell_of_heap hc]; rfl
  have w1c2 : w1.cell? ⟨W.heap.size, 2, none⟩ = some (.string tx) := by rw [Lib.cell_of_heap hc]; rfl
  have w1c3 : w1.cell? ⟨W.heap.size, 3, none⟩ = some (.int .i64 nu) := by rw [Lib.cell_of_heap hc]; rfl
  have w1c4 : w1.cell? ⟨W.heap.size, 4, none⟩ = some (.int .i64 mn) := by rw [Lib.cell_of_heap hc]; rfl
  have w1q0 : w1.cell? ⟨W.heap.size + 1, 0, none⟩ = some (.func (.func ft) #[] #[]) := by rw [Lib.cell_of_heap hq]; rfl
  have w1q1 : w1.cell? ⟨W.heap.size + 1, 1, none⟩ = some (.func (.func fn) #[] #[]) := by rw [Lib.cell_of_heap hq]; rfl
  have w1q2 : w1.cell? ⟨W.heap.size + 1, 2, none⟩ = some (.bool nest) := by rw [Lib.cell_of_heap hq]; rfl
  have HC := Lib.hid hc
  have HQ := Lib.hid hq
  have HB1 := Lib.hid hb1
  clear hc hq hb1
  go_wp2_with fail
  go_ret
  exact ⟨rfl, HB1.out⟩
set_option maxRecDepth 100000 in
set_option maxHeartbeats 1000000 in
theorem bw_num (w0 : World) (V : List Cel) (b off cap bv ba bw be g : Nat) (es : Array Value) (W : World) (k d : Nat) (hB : BH w0 V b off cap bv ba bw be g es W) (kk : Nat) (nx tx : ByteArray) (nu mn : Int)
    (hk : k < V.length) (hl : V.length ≤ 100000) (hd : d ≤ 16)
    (c0 : W.cell? ⟨b, off + k * 5, none⟩ = some (.int .u8 (kk : Int))) (c1 : W.cell? ⟨b, off + k * 5 + 1, none⟩ = some (.string nx)) (c2 : W.cell? ⟨b, off + k * 5 + 2, none⟩ = some (.string tx)) (c3 : W.cell? ⟨b, off + k * 5 + 3, none⟩ = some (.int .i64 nu)) (c4 : W.cell? ⟨b, off + k * 5 + 4, none⟩ = some (.int .i64 mn))
    (hk7 : kk ≤ 7) (HT : Hid (∀ w : World, Below W.heap.size W w → Calls Tryz.prog (tfun kk) #[.string tx] w fun e w' => e = .returned (.bool true) ∧ Below w.heap.size w w'))
    (HN : Hid (∀ w : World, Calls Tryz.prog (nfun kk) #[.int .i64 nu] w fun e w' => e = .returned (.bool false) ∧ Below w.heap.size w w')) :
    Calls Tryz.prog 81 #[.int .i64 (k : Int), .int .i64 (d : Int), .pointer (some ⟨bv, 0, none⟩), .pointer (some ⟨ba, 0, none⟩), .pointer (some ⟨bw, 0, none⟩), .pointer (some ⟨be, 0, none⟩)] W fun e w' => e = .returned (.int .i64 (-1)) ∧ Below W.heap.size W w' := by
  have v0 : W.cell? ⟨bv, 0, none⟩ = some (.slice (some ⟨b, off, none⟩) V.length cap) := by rw [Lib.cell_of_heap hB.hv]; rfl
  have lba := heap_lt hB.ha
  have lbv := heap_lt hB.hv
  obtain ⟨a0, a1, a2⟩ := kindsA_get kk hk7
  have k0 : W.cell? ⟨ba, kk * 3, none⟩ = some (.func (.func (tfun kk)) #[] #[]) := by rw [Lib.cell_of_heap hB.ha]; exact a0
  have k1 : W.cell? ⟨ba, kk * 3 + 1, none⟩ = some (.func (.func (nfun kk)) #[] #[]) := by rw [Lib.cell_of_heap hB.ha]; exact a1
  have k2 : W.cell? ⟨ba, kk * 3 + 2, none⟩ = some (.bool (cnest kk)) := by rw [Lib.cell_of_heap hB.ha]; exact a2
  have ht := tfun_ent kk
  have hn := nfun_ent kk
  clear a0 a1 a2
  generalize tfun kk = ft at *
  generalize nfun kk = fn at *
  generalize cnest kk = nest at *
  have HB := Lib.hid hB
  clear hB
  go_enter Tryz.func81, Tryz.ntmps81
  go_wp2_with fail
  refine (HT.out _ (((Below.refl _ _).alloc (Nat.le_refl _) _).alloc (by simp) _)).mono ?_; rintro e w1 ⟨rfl, hb⟩
  have hb1 : Below W.heap.size W w1 := (((Below.refl _ _).alloc (Nat.le_refl _) _).alloc (by simp) _).trans (hb.mono (by simp; omega))
  have hc : w1.heap[W.heap.size]? = some (.cells #[.int .u8 (kk : Int), .string nx, .string tx, .int .i64 nu, .int .i64 mn] 41 (0, 0)) := (hb.block _ (by simp; omega)).trans (heap_old (heap_new _ _ _ rfl))
  have hq : w1.heap[W.heap.size + 1]? = some (.cells #[.func (.func ft) #[] #[], .func (.func fn) #[] #[], .bool nest] 123 (0, 0)) := (hb.block _ (by simp)).trans (heap_new _ _ _ (by simp))
  clear hb
  have w1c0 : w1.cell? ⟨W.heap.size, 0, none⟩ = some (.int .u8 (kk : Int)) := by rw [Lib.cell_of_heap hc]; rfl
  have w1c1 : w1.cell? ⟨W.heap.size, 1, none⟩ = some (.string nx) := by rw [Lib.cell_of_heap hc]; rfl
  have w1c2 : w1.cell? ⟨W.heap.size, 2, none⟩ = some (.string tx) := by rw [Lib.cell_of_heap hc]; rfl
  have w1c3 : w1.cell? ⟨W.heap.size, 3, none⟩ = some (.int .i64 nu) := by rw [Lib.cell_of_heap hc]; rfl
  have w1c4 : w1.cell? ⟨W.heap.size, 4, none⟩ = some (.int .i64 mn) := by rw [Lib.cell_of_heap hc]; rfl
  have w1q0 : w1.cell? ⟨W.heap.size + 1, 0, none⟩ = some (.func (.func ft) #[] #[]) := by rw [Lib.cell_of_heap hq]; rfl
  have w1q1 : w1.cell? ⟨W.heap.size + 1, 1, none⟩ = some (.func (.func fn) #[] #[]) := by rw [Lib.cell_of_heap hq]; rfl
  have w1q2 : w1.cell? ⟨W.heap.size + 1, 2, none⟩ = some (.bool nest) := by rw [Lib.cell_of_heap hq]; rfl
  have HC := Lib.hid hc
  have HQ := Lib.hid hq
  have HB1 := Lib.hid hb1
  clear hc hq hb1
  go_wp2_with fail
  refine (HN.out _).mono ?_; rintro e w2 ⟨rfl, hb⟩
  clear w1c0 w1c1 w1c2 w1c3 w1c4 w1q0 w1q1 w1q2
  have hb2 : Below W.heap.size W w2 := HB1.out.trans (hb.mono HB1.out.size)
  have hc : w2.heap[W.heap.size]? = some (.cells #[.int .u8 (kk : Int), .string nx, .string tx, .int .i64 nu, .int .i64 mn] 41 (0, 0)) := (hb.block _ (heap_lt HC.out)).trans HC.out
  have hq : w2.heap[W.heap.size + 1]? = some (.cells #[.func (.func ft) #[] #[], .func (.func fn) #[] #[], .bool nest] 123 (0, 0)) := (hb.block _ (heap_lt HQ.out)).trans HQ.out
  clear hb
  have w2c0 : w2.cell? ⟨W.heap.size, 0, none⟩ = some (.int .u8 (kk : Int)) := by rw [Lib.cell_of_heap hc]; rfl
  have w2c1 : w2.cell? ⟨W.heap.size, 1, none⟩ = some (.string nx) := by rw [Lib.cell_of_heap hc]; rfl
  have w2c2 : w2.cell? ⟨W.heap.size, 2, none⟩ = some (.string tx) := by rw [Lib.cell_of_heap hc]; rfl
  have w2c3 : w2.cell? ⟨W.heap.size, 3, none⟩ = some (.int .i64 nu) := by rw [Lib.cell_of_heap hc]; rfl
  have w2c4 : w2.cell? ⟨W.heap.size, 4, none⟩ = some (.int .i64 mn) := by rw [Lib.cell_of_heap hc]; rfl
  have w2q0 : w2.cell? ⟨W.heap.size + 1, 0, none⟩ = some (.func (.func ft) #[] #[]) := by rw [Lib.cell_of_heap hq]; rfl
  have w2q1 : w2.cell? ⟨W.heap.size + 1, 1, none⟩ = some (.func (.func fn) #[] #[]) := by rw [Lib.cell_of_heap hq]; rfl
  have w2q2 : w2.cell? ⟨W.heap.size + 1, 2, none⟩ = some (.bool nest) := by rw [Lib.cell_of_heap hq]; rfl
  have HC2 := Lib.hid hc
  have HQ2 := Lib.hid hq
  have HB2 := Lib.hid hb2
  clear hc hq hb2 HC HQ HB1
  go_wp2_with fail
  go_ret
  exact ⟨rfl, HB2.out⟩
set_option maxRecDepth 100000 in
set_option maxHeartbeats 1000000 in
theorem bw_neg (w0 : World) (V : List Cel) (b off cap bv ba bw be g : Nat) (es : Array Value) (W : World) (k d : Nat) (hB : BH w0 V b off cap bv ba bw be g es W) (kk : Nat) (nx tx : ByteArray) (nu mn : Int)
    (hk : k < V.length) (hl : V.length ≤ 100000) (hd : d ≤ 16)
    (c0 : W.cell? ⟨b, off + k * 5, none⟩ = some (.int .u8 (kk : Int))) (c1 : W.cell? ⟨b, off + k * 5 + 1, none⟩ = some (.string nx)) (c2 : W.cell? ⟨b, off + k * 5 + 2, none⟩ = some (.string tx)) (c3 : W.cell? ⟨b, off + k * 5 + 3, none⟩ = some (.int .i64 nu)) (c4 : W.cell? ⟨b, off + k * 5 + 4, none⟩ = some (.int .i64 mn))
    (hk7 : kk ≤ 7) (HT : Hid (∀ w : World, Below W.heap.size W w → Calls Tryz.prog (tfun kk) #[.string tx] w fun e w' => e = .returned (.bool true) ∧ Below w.heap.size w w'))
    (HN : Hid (∀ w : World, Calls Tryz.prog (nfun kk) #[.int .i64 nu] w fun e w' => e = .returned (.bool true) ∧ Below w.heap.size w w'))
    (hm : mn < 0) :
    Calls Tryz.prog 81 #[.int .i64 (k : Int), .int .i64 (d : Int), .pointer (some ⟨bv, 0, none⟩), .pointer (some ⟨ba, 0, none⟩), .pointer (some ⟨bw, 0, none⟩), .pointer (some ⟨be, 0, none⟩)] W fun e w' => e = .returned (.int .i64 (-1)) ∧ Below W.heap.size W w' := by
  have v0 : W.cell? ⟨bv, 0, none⟩ = some (.slice (some ⟨b, off, none⟩) V.length cap) := by rw [Lib.cell_of_heap hB.hv]; rfl
  have lba := heap_lt hB.ha
  have lbv := heap_lt hB.hv
  obtain ⟨a0, a1, a2⟩ := kindsA_get kk hk7
  have k0 : W.cell? ⟨ba, kk * 3, none⟩ = some (.func (.func (tfun kk)) #[] #[]) := by rw [Lib.cell_of_heap hB.ha]; exact a0
  have k1 : W.cell? ⟨ba, kk * 3 + 1, none⟩ = some (.func (.func (nfun kk)) #[] #[]) := by rw [Lib.cell_of_heap hB.ha]; exact a1
  have k2 : W.cell? ⟨ba, kk * 3 + 2, none⟩ = some (.bool (cnest kk)) := by rw [Lib.cell_of_heap hB.ha]; exact a2
  have ht := tfun_ent kk
  have hn := nfun_ent kk
  clear a0 a1 a2
  generalize tfun kk = ft at *
  generalize nfun kk = fn at *
  generalize cnest kk = nest at *
  have HB := Lib.hid hB
  clear hB
  go_enter Tryz.func81, Tryz.ntmps81
  go_wp2_with fail
  refine (HT.out _ (((Below.refl _ _).alloc (Nat.le_refl _) _).alloc (by simp) _)).mono ?_; rintro e w1 ⟨rfl, hb⟩
  have hb1 : Below W.heap.size W w1 := (((Below.refl _ _).alloc (Nat.le_refl _) _).alloc (by simp) _).trans (hb.mono (by simp; omega))
  have hc : w1.heap[W.heap.size]? = some (.cells #[.int .u8 (kk : Int), .string nx, .string tx, .int .i64 nu, .int .i64 mn] 41 (0, 0)) := (hb.block _ (by simp; omega)).trans (heap_old (heap_new _ _ _ rfl))
  have hq : w1.heap[W.heap.size + 1]? = some (.cells #[.func (.func ft) #[] #[], .func (.func fn) #[] #[], .bool nest] 123 (0, 0)) := (hb.block _ (by simp)).trans (heap_new _ _ _ (by simp))
  clear hb
  have w1c0 : w1.cell? ⟨W.heap.size, 0, none⟩ = some (.int .u8 (kk : Int)) := by rw [Lib.cell_of_heap hc]; rfl
  have w1c1 : w1.cell? ⟨W.heap.size, 1, none⟩ = some (.string nx) := by rw [Lib.cell_of_heap hc]; rfl
  have w1c2 : w1.cell? ⟨W.heap.size, 2, none⟩ = some (.string tx) := by rw [Lib.cell_of_heap hc]; rfl
  have w1c3 : w1.cell? ⟨W.heap.size, 3, none⟩ = some (.int .i64 nu) := by rw [Lib.cell_of_heap hc]; rfl
  have w1c4 : w1.cell? ⟨W.heap.size, 4, none⟩ = some (.int .i64 mn) := by rw [Lib.cell_of_heap hc]; rfl
  have w1q0 : w1.cell? ⟨W.heap.size + 1, 0, none⟩ = some (.func (.func ft) #[] #[]) := by rw [Lib.cell_of_heap hq]; rfl
  have w1q1 : w1.cell? ⟨W.heap.size + 1, 1, none⟩ = some (.func (.func fn) #[] #[]) := by rw [Lib.cell_of_heap hq]; rfl
  have w1q2 : w1.cell? ⟨W.heap.size + 1, 2, none⟩ = some (.bool nest) := by rw [Lib.cell_of_heap hq]; rfl
  have HC := Lib.hid hc
  have HQ := Lib.hid hq
  have HB1 := Lib.hid hb1
  clear hc hq hb1
  go_wp2_with fail
  refine (HN.out _).mono ?_; rintro e w2 ⟨rfl, hb⟩
  clear w1c0 w1c1 w1c2 w1c3 w1c4 w1q0 w1q1 w1q2
  have hb2 : Below W.heap.size W w2 := HB1.out.trans (hb.mono HB1.out.size)
  have hc : w2.heap[W.heap.size]? = some (.cells #[.int .u8 (kk : Int), .string nx, .string tx, .int .i64 nu, .int .i64 mn] 41 (0, 0)) := (hb.block _ (heap_lt HC.out)).trans HC.out
  have hq : w2.heap[W.heap.size + 1]? = some (.cells #[.func (.func ft) #[] #[], .func (.func fn) #[] #[], .bool nest] 123 (0, 0)) := (hb.block _ (heap_lt HQ.out)).trans HQ.out
  clear hb
  have w2c0 : w2.cell? ⟨W.heap.size, 0, none⟩ = some (.int .u8 (kk : Int)) := by rw [Lib.cell_of_heap hc]; rfl
  have w2c1 : w2.cell? ⟨W.heap.size, 1, none⟩ = some (.string nx) := by rw [Lib.cell_of_heap hc]; rfl
  have w2c2 : w2.cell? ⟨W.heap.size, 2, none⟩ = some (.string tx) := by rw [Lib.cell_of_heap hc]; rfl
  have w2c3 : w2.cell? ⟨W.heap.size, 3, none⟩ = some (.int .i64 nu) := by rw [Lib.cell_of_heap hc]; rfl
  have w2c4 : w2.cell? ⟨W.heap.size, 4, none⟩ = some (.int .i64 mn) := by rw [Lib.cell_of_heap hc]; rfl
  have w2q0 : w2.cell? ⟨W.heap.size + 1, 0, none⟩ = some (.func (.func ft) #[] #[]) := by rw [Lib.cell_of_heap hq]; rfl
  have w2q1 : w2.cell? ⟨W.heap.size + 1, 1, none⟩ = some (.func (.func fn) #[] #[]) := by rw [Lib.cell_of_heap hq]; rfl
  have w2q2 : w2.cell? ⟨W.heap.size + 1, 2, none⟩ = some (.bool nest) := by rw [Lib.cell_of_heap hq]; rfl
  have HC2 := Lib.hid hc
  have HQ2 := Lib.hid hq
  have HB2 := Lib.hid hb2
  clear hc hq hb2 HC HQ HB1
  go_wp2_with fail
  go_ret
  exact ⟨rfl, HB2.out⟩
set_option maxRecDepth 100000 in
set_option maxHeartbeats 1000000 in
theorem bw_leaf (w0 : World) (V : List Cel) (b off cap bv ba bw be g : Nat) (es : Array Value) (W : World) (k d : Nat) (hB : BH w0 V b off cap bv ba bw be g es W) (kk : Nat) (nx tx : ByteArray) (nu mn : Int)
    (hk : k < V.length) (hl : V.length ≤ 100000) (hd : d ≤ 16)
    (c0 : W.cell? ⟨b, off + k * 5, none⟩ = some (.int .u8 (kk : Int))) (c1 : W.cell? ⟨b, off + k * 5 + 1, none⟩ = some (.string nx)) (c2 : W.cell? ⟨b, off + k * 5 + 2, none⟩ = some (.string tx)) (c3 : W.cell? ⟨b, off + k * 5 + 3, none⟩ = some (.int .i64 nu)) (c4 : W.cell? ⟨b, off + k * 5 + 4, none⟩ = some (.int .i64 mn))
    (hk7 : kk ≤ 7) (HT : Hid (∀ w : World, Below W.heap.size W w → Calls Tryz.prog (tfun kk) #[.string tx] w fun e w' => e = .returned (.bool true) ∧ Below w.heap.size w w'))
    (HN : Hid (∀ w : World, Calls Tryz.prog (nfun kk) #[.int .i64 nu] w fun e w' => e = .returned (.bool true) ∧ Below w.heap.size w w'))
    (hm0 : 0 ≤ mn) (hcn : cnest kk = false) (hm : 0 < mn) :
    Calls Tryz.prog 81 #[.int .i64 (k : Int), .int .i64 (d : Int), .pointer (some ⟨bv, 0, none⟩), .pointer (some ⟨ba, 0, none⟩), .pointer (some ⟨bw, 0, none⟩), .pointer (some ⟨be, 0, none⟩)] W fun e w' => e = .returned (.int .i64 (-1)) ∧ Below W.heap.size W w' := by
  have v0 : W.cell? ⟨bv, 0, none⟩ = some (.slice (some ⟨b, off, none⟩) V.length cap) := by rw [Lib.cell_of_heap hB.hv]; rfl
  have lba := heap_lt hB.ha
  have lbv := heap_lt hB.hv
  obtain ⟨a0, a1, a2⟩ := kindsA_get kk hk7
  have k0 : W.cell? ⟨ba, kk * 3, none⟩ = some (.func (.func (tfun kk)) #[] #[]) := by rw [Lib.cell_of_heap hB.ha]; exact a0
  have k1 : W.cell? ⟨ba, kk * 3 + 1, none⟩ = some (.func (.func (nfun kk)) #[] #[]) := by rw [Lib.cell_of_heap hB.ha]; exact a1
  have k2 : W.cell? ⟨ba, kk * 3 + 2, none⟩ = some (.bool (cnest kk)) := by rw [Lib.cell_of_heap hB.ha]; exact a2
  have ht := tfun_ent kk
  have hn := nfun_ent kk
  clear a0 a1 a2
  generalize tfun kk = ft at *
  generalize nfun kk = fn at *
  rw [hcn] at k2
  clear hcn
  have HB := Lib.hid hB
  clear hB
  go_enter Tryz.func81, Tryz.ntmps81
  go_wp2_with fail
  refine (HT.out _ (((Below.refl _ _).alloc (Nat.le_refl _) _).alloc (by simp) _)).mono ?_; rintro e w1 ⟨rfl, hb⟩
  have hb1 : Below W.heap.size W w1 := (((Below.refl _ _).alloc (Nat.le_refl _) _).alloc (by simp) _).trans (hb.mono (by simp; omega))
  have hc : w1.heap[W.heap.size]? = some (.cells #[.int .u8 (kk : Int), .string nx, .string tx, .int .i64 nu, .int .i64 mn] 41 (0, 0)) := (hb.block _ (by simp; omega)).trans (heap_old (heap_new _ _ _ rfl))
  have hq : w1.heap[W.heap.size + 1]? = some (.cells #[.func (.func ft) #[] #[], .func (.func fn) #[] #[], .bool false] 123 (0, 0)) := (hb.block _ (by simp)).trans (heap_new _ _ _ (by simp))
  clear hb
  have w1c0 : w1.cell? ⟨W.heap.size, 0, none⟩ = some (.int .u8 (kk : Int)) := by rw [Lib.cell_of_heap hc]; rfl
  have w1c1 : w1.cell? ⟨W.heap.size, 1, none⟩ = some (.string nx) := by rw [Lib.cell_of_heap hc]; rfl
  have w1c2 : w1.cell? ⟨W.heap.size, 2, none⟩ = some (.string tx) := by rw [Lib.cell_of_heap hc]; rfl
  have w1c3 : w1.cell? ⟨W.heap.size, 3, none⟩ = some (.int .i64 nu) := by rw [Lib.cell_of_heap hc]; rfl
  have w1c4 : w1.cell? ⟨W.heap.size, 4, none⟩ = some (.int .i64 mn) := by rw [Lib.cell_of_heap hc]; rfl
  have w1q0 : w1.cell? ⟨W.heap.size + 1, 0, none⟩ = some (.func (.func ft) #[] #[]) := by rw [Lib.cell_of_heap hq]; rfl
  have w1q1 : w1.cell? ⟨W.heap.size + 1, 1, none⟩ = some (.func (.func fn) #[] #[]) := by rw [Lib.cell_of_heap hq]; rfl
  have w1q2 : w1.cell? ⟨W.heap.size + 1, 2, none⟩ = some (.bool false) := by rw [Lib.cell_of_heap hq]; rfl
  have HC := Lib.hid hc
  have HQ := Lib.hid hq
  have HB1 := Lib.hid hb1
  clear hc hq hb1
  go_wp2_with fail
  refine (HN.out _).mono ?_; rintro e w2 ⟨rfl, hb⟩
  clear w1c0 w1c1 w1c2 w1c3 w1c4 w1q0 w1q1 w1q2
  have hb2 : Below W.heap.size W w2 := HB1.out.trans (hb.mono HB1.out.size)
  have hc : w2.heap[W.heap.size]? = some (.cells #[.int .u8 (kk : Int), .string nx, .string tx, .int .i64 nu, .int .i64 mn] 41 (0, 0)) := (hb.block _ (heap_lt HC.out)).trans HC.out
  have hq : w2.heap[W.heap.size + 1]? = some (.cells #[.func (.func ft) #[] #[], .func (.func fn) #[] #[], .bool false] 123 (0, 0)) := (hb.block _ (heap_lt HQ.out)).trans HQ.out
  clear hb
  have w2c0 : w2.cell? ⟨W.heap.size, 0, none⟩ = some (.int .u8 (kk : Int)) := by rw [Lib.cell_of_heap hc]; rfl
  have w2c1 : w2.cell? ⟨W.heap.size, 1, none⟩ = some (.string nx) := by rw [Lib.cell_of_heap hc]; rfl
  have w2c2 : w2.cell? ⟨W.heap.size, 2, none⟩ = some (.string tx) := by rw [Lib.cell_of_heap hc]; rfl
  have w2c3 : w2.cell? ⟨W.heap.size, 3, none⟩ = some (.int .i64 nu) := by rw [Lib.cell_of_heap hc]; rfl
  have w2c4 : w2.cell? ⟨W.heap.size, 4, none⟩ = some (.int .i64 mn) := by rw [Lib.cell_of_heap hc]; rfl
  have w2q0 : w2.cell? ⟨W.heap.size + 1, 0, none⟩ = some (.func (.func ft) #[] #[]) := by rw [Lib.cell_of_heap hq]; rfl
  have w2q1 : w2.cell? ⟨W.heap.size + 1, 1, none⟩ = some (.func (.func fn) #[] #[]) := by rw [Lib.cell_of_heap hq]; rfl
  have w2q2 : w2.cell? ⟨W.heap.size + 1, 2, none⟩ = some (.bool false) := by rw [Lib.cell_of_heap hq]; rfl
  have HC2 := Lib.hid hc
  have HQ2 := Lib.hid hq
  have HB2 := Lib.hid hb2
  clear hc hq hb2 HC HQ HB1
  go_wp2_with fail
  go_ret
  exact ⟨rfl, HB2.out⟩
set_option maxRecDepth 100000 in
set_option maxHeartbeats 1000000 in
theorem bw_deep (w0 : World) (V : List Cel) (b off cap bv ba bw be g : Nat) (es : Array Value) (W : World) (k d : Nat) (hB : BH w0 V b off cap bv ba bw be g es W) (kk : Nat) (nx tx : ByteArray) (nu mn : Int)
    (hk : k < V.length) (hl : V.length ≤ 100000) (hd : d ≤ 16)
    (c0 : W.cell? ⟨b, off + k * 5, none⟩ = some (.int .u8 (kk : Int))) (c1 : W.cell? ⟨b, off + k * 5 + 1, none⟩ = some (.string nx)) (c2 : W.cell? ⟨b, off + k * 5 + 2, none⟩ = some (.string tx)) (c3 : W.cell? ⟨b, off + k * 5 + 3, none⟩ = some (.int .i64 nu)) (c4 : W.cell? ⟨b, off + k * 5 + 4, none⟩ = some (.int .i64 mn))
    (hk7 : kk ≤ 7) (HT : Hid (∀ w : World, Below W.heap.size W w → Calls Tryz.prog (tfun kk) #[.string tx] w fun e w' => e = .returned (.bool true) ∧ Below w.heap.size w w'))
    (HN : Hid (∀ w : World, Calls Tryz.prog (nfun kk) #[.int .i64 nu] w fun e w' => e = .returned (.bool true) ∧ Below w.heap.size w w'))
    (hm0 : 0 ≤ mn) (hcn : cnest kk = true) (hd0 : d = 0) :
    Calls Tryz.prog 81 #[.int .i64 (k : Int), .int .i64 (d : Int), .pointer (some ⟨bv, 0, none⟩), .pointer (some ⟨ba, 0, none⟩), .pointer (some ⟨bw, 0, none⟩), .pointer (some ⟨be, 0, none⟩)] W fun e w' => e = .returned (.int .i64 (-1)) ∧ Below W.heap.size W w' := by
  have v0 : W.cell? ⟨bv, 0, none⟩ = some (.slice (some ⟨b, off, none⟩) V.length cap) := by rw [Lib.cell_of_heap hB.hv]; rfl
  have lba := heap_lt hB.ha
  have lbv := heap_lt hB.hv
  obtain ⟨a0, a1, a2⟩ := kindsA_get kk hk7
  have k0 : W.cell? ⟨ba, kk * 3, none⟩ = some (.func (.func (tfun kk)) #[] #[]) := by rw [Lib.cell_of_heap hB.ha]; exact a0
  have k1 : W.cell? ⟨ba, kk * 3 + 1, none⟩ = some (.func (.func (nfun kk)) #[] #[]) := by rw [Lib.cell_of_heap hB.ha]; exact a1
  have k2 : W.cell? ⟨ba, kk * 3 + 2, none⟩ = some (.bool (cnest kk)) := by rw [Lib.cell_of_heap hB.ha]; exact a2
  have ht := tfun_ent kk
  have hn := nfun_ent kk
  clear a0 a1 a2
  generalize tfun kk = ft at *
  generalize nfun kk = fn at *
  rw [hcn] at k2
  clear hcn
  have HB := Lib.hid hB
  clear hB
  go_enter Tryz.func81, Tryz.ntmps81
  go_wp2_with fail
  refine (HT.out _ (((Below.refl _ _).alloc (Nat.le_refl _) _).alloc (by simp) _)).mono ?_; rintro e w1 ⟨rfl, hb⟩
  have hb1 : Below W.heap.size W w1 := (((Below.refl _ _).alloc (Nat.le_refl _) _).alloc (by simp) _).trans (hb.mono (by simp; omega))
  have hc : w1.heap[W.heap.size]? = some (.cells #[.int .u8 (kk : Int), .string nx, .string tx, .int .i64 nu, .int .i64 mn] 41 (0, 0)) := (hb.block _ (by simp; omega)).trans (heap_old (heap_new _ _ _ rfl))
  have hq : w1.heap[W.heap.size + 1]? = some (.cells #[.func (.func ft) #[] #[], .func (.func fn) #[] #[], .bool true] 123 (0, 0)) := (hb.block _ (by simp)).trans (heap_new _ _ _ (by simp))
  clear hb
  have w1c0 : w1.cell? ⟨W.heap.size, 0, none⟩ = some (.int .u8 (kk : Int)) := by rw [Lib.cell_of_heap hc]; rfl
  have w1c1 : w1.cell? ⟨W.heap.size, 1, none⟩ = some (.string nx) := by rw [Lib.cell_of_heap hc]; rfl
  have w1c2 : w1.cell? ⟨W.heap.size, 2, none⟩ = some (.string tx) := by rw [Lib.cell_of_heap hc]; rfl
  have w1c3 : w1.cell? ⟨W.heap.size, 3, none⟩ = some (.int .i64 nu) := by rw [Lib.cell_of_heap hc]; rfl
  have w1c4 : w1.cell? ⟨W.heap.size, 4, none⟩ = some (.int .i64 mn) := by rw [Lib.cell_of_heap hc]; rfl
  have w1q0 : w1.cell? ⟨W.heap.size + 1, 0, none⟩ = some (.func (.func ft) #[] #[]) := by rw [Lib.cell_of_heap hq]; rfl
  have w1q1 : w1.cell? ⟨W.heap.size + 1, 1, none⟩ = some (.func (.func fn) #[] #[]) := by rw [Lib.cell_of_heap hq]; rfl
  have w1q2 : w1.cell? ⟨W.heap.size + 1, 2, none⟩ = some (.bool true) := by rw [Lib.cell_of_heap hq]; rfl
  have HC := Lib.hid hc
  have HQ := Lib.hid hq
  have HB1 := Lib.hid hb1
  clear hc hq hb1
  go_wp2_with fail
  refine (HN.out _).mono ?_; rintro e w2 ⟨rfl, hb⟩
  clear w1c0 w1c1 w1c2 w1c3 w1c4 w1q0 w1q1 w1q2
  have hb2 : Below W.heap.size W w2 := HB1.out.trans (hb.mono HB1.out.size)
  have hc : w2.heap[W.heap.size]? = some (.cells #[.int .u8 (kk : Int), .string nx, .string tx, .int .i64 nu, .int .i64 mn] 41 (0, 0)) := (hb.block _ (heap_lt HC.out)).trans HC.out
  have hq : w2.heap[W.heap.size + 1]? = some (.cells #[.func (.func ft) #[] #[], .func (.func fn) #[] #[], .bool true] 123 (0, 0)) := (hb.block _ (heap_lt HQ.out)).trans HQ.out
  clear hb
  have w2c0 : w2.cell? ⟨W.heap.size, 0, none⟩ = some (.int .u8 (kk : Int)) := by rw [Lib.cell_of_heap hc]; rfl
  have w2c1 : w2.cell? ⟨W.heap.size, 1, none⟩ = some (.string nx) := by rw [Lib.cell_of_heap hc]; rfl
  have w2c2 : w2.cell? ⟨W.heap.size, 2, none⟩ = some (.string tx) := by rw [Lib.cell_of_heap hc]; rfl
  have w2c3 : w2.cell? ⟨W.heap.size, 3, none⟩ = some (.int .i64 nu) := by rw [Lib.cell_of_heap hc]; rfl
  have w2c4 : w2.cell? ⟨W.heap.size, 4, none⟩ = some (.int .i64 mn) := by rw [Lib.cell_of_heap hc]; rfl
  have w2q0 : w2.cell? ⟨W.heap.size + 1, 0, none⟩ = some (.func (.func ft) #[] #[]) := by rw [Lib.cell_of_heap hq]; rfl
  have w2q1 : w2.cell? ⟨W.heap.size + 1, 1, none⟩ = some (.func (.func fn) #[] #[]) := by rw [Lib.cell_of_heap hq]; rfl
  have w2q2 : w2.cell? ⟨W.heap.size + 1, 2, none⟩ = some (.bool true) := by rw [Lib.cell_of_heap hq]; rfl
  have HC2 := Lib.hid hc
  have HQ2 := Lib.hid hq
  have HB2 := Lib.hid hb2
  clear hc hq hb2 HC HQ HB1
  go_wp2_with fail
  go_ret
  exact ⟨rfl, HB2.out⟩
end Go.Proofs.YtglhanblbojkhaaGreatDoor
