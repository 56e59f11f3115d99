/- Walks and plain laws of this proof, joined from smaller texts (3). -/
import Derived.Lib.SliceRun
import Derived.Test.YtgaknbnhmoddcaaGreatDoorShelf
import Derived.Test.YtgaknbnhmoddcaaGreatDoorRows
import Derived.WalkKit
import Derived.WalkSpells
import Derived.Handy
import Derived.Lib.Hide
import Derived.Deep.Light
import Derived.Lib.ItoaLen
import Derived.Deep.LoopGhost
import Derived.Carry
import Derived.Tactics
import Derived.Tactics2
import Derived.Defers
import Derived.Recover
import Derived.Laws.Pointers
import Derived.Laws.RangeAny
import Derived.Laws.Cover4
import Derived.Laws.RangeString
import Derived.Deep.QuietTactic
import Derived.BigQuiet
import Derived.ScopeJumps
import Derived.Lib.AsciiSet
import Derived.Deep.WholeRow
import Derived.Laws.ResultCell
import Derived.Shelf.Strings.SlTrimAscii
import Derived.Lib.IndexAny
import Derived.Lib.OthersKept
import Derived.Lib.MapLaws
import Derived.Shelf.Strings.Builder1
import Derived.Laws.LoneSync
import Derived.Deep.DeepCutAuto
import Derived.RegionCalls
import Derived.Deep.RegionHeld3
import Derived.Laws.StructEq
import Derived.Deep.Draws
import Derived.Laws.EntriesVeiled
import Derived.Lib.AppendZerosOnto
import Derived.Laws.IdiomCopy
import Derived.Laws.AppendOwnNone
import Derived.RangeFuncNested
import Derived.RangeFuncBound
import Derived.RangeFuncCalls
import Derived.RangeFuncLeaves
import Derived.Shelf.Abstract
import Derived.Shelf.RegionOpen
import Derived.OwnWalkIn
import Derived.TacticsInMore
import Derived.LoopNIn
import Derived.LoopIn
import Derived.Test.YtgaknbnhmoddcaaGreatDoorTT2
set_option linter.unusedSimpArgs false
set_option linter.unusedVariables false
namespace Go.Proofs.YtgaknbnhmoddcaaGreatDoor
open Go.RowKit
set_option maxRecDepth 100000 in
theorem ccheck_any (V : List Cel) (v : Value) (w : World) (hv : CelSl v V w) (hs : SmallV V) (hE : EnvU w) :
    Calls Tryz.prog 61 #[v] w fun e w' => e = .returned (.int .i64 (if mayB V then 0 else 8)) ∧ Below w.heap.size w w' := by
  have H := Lib.hid (behind_any V v w hv hs hE)
  have q := fun (w : World) (a : Option Addr) (n c : Nat) => Lib.run_eql_slice_nil w 131 3 a n c 0 0 Tryz.underlying131
  obtain ⟨r, hr⟩ : ∃ r : Int, (if mayB V then (0 : Int) else 8) = r := ⟨_, rfl⟩
  have HR := Lib.hid hr
  rw [hr]
  clear hv hE hs hr
  go_enter Tryz.func61, Tryz.ntmps61
  go_wp2_with fail
  refine H.out.mono ?_; rintro e w1 ⟨h, hb⟩
  rcases h with ⟨hm, rfl⟩ | ⟨hm, g, es, rfl, _⟩
  all_goals
    have HM := Lib.hid hm
    clear hm
    go_wp2_with fail
    go_ret
    exact ⟨ret_i (by rw [← HR.out, HM.out]; rfl), hb⟩
/-- The first place of one that a predicate holds of; -1. -/
def idxI (p : Cel → Bool) : List Cel → Nat → Int
  | [], _ => -1
  | c :: r, i => if p c then (i : Int) else idxI p r (i + 1)
theorem idxI_sign (p : Cel → Bool) : ∀ (V : List Cel) (i : Nat), decide (0 ≤ idxI p V i) = V.any p
  | [], i => rfl
  | c :: r, i => by
    rw [idxI, List.any_cons]
    cases p c with
    | true => simp
    | false => simpa using idxI_sign p r (i + 1)
set_option maxRecDepth 100000 in
theorem cindex_row (g : Nat) (lb : Array Value) (eg : ∀ args w, (callFunc g args).run Tryz.prog w = .ok (.enter g args) w) (p : Cel → Bool) (V : List Cel) (b off cap : Nat) (w : World) (hrow : CelRow b off V w) (hl : V.length ≤ 100000)
    (H : Hid (∀ (W : World) (k : Nat) (hk : k < V.length), Below w.heap.size w W → Calls Tryz.prog g (#[.agg (celCells V[k])] ++ lb) W fun e w' => e = .returned (.bool (p V[k])) ∧ Below W.heap.size W w')) :
    Calls Tryz.prog 93 #[.slice (some ⟨b, off, none⟩) V.length cap, .func (.func g) #[] lb] w fun e w' => e = .returned (.int .i64 (idxI p V 0)) ∧ Below w.heap.size w w' := by
  have HROW := Lib.hid hrow
  obtain ⟨r, hr⟩ : ∃ r, idxI p V 0 = r := ⟨_, rfl⟩
  have HR : Hid (idxI p (V.drop 0) 0 = r) := Lib.hid hr
  rw [hr]
  clear hr hrow
  go_enter Tryz.func93, Tryz.ntmps93
  go_wp2_with fail
  go_loopw [8] (fun i wr => ∃ k : Nat, k ≤ V.length ∧ i = .int .i64 k ∧ Hid (idxI p (V.drop k) k = r) ∧ Hid (Below w.heap.size w wr)) (fun i wr => V.length - (intOf i).toNat)
  case atStart => exact ⟨0, Nat.zero_le _, rfl, HR, Lib.hid (Below.refl _ _)⟩
  case round =>
    rename World => wr
    obtain ⟨k, hk, rfl, HS, HB⟩ := hrel
    by_cases hlt : k < V.length
    · obtain ⟨a0, a1, a2, a3, a4⟩ := (HROW.out.below' HB.out) k hlt
      have HC := Lib.hid (H.out wr k hlt HB.out)
      have hstep := HS.out
      rw [List.drop_eq_getElem_cons hlt, idxI] at hstep
      have hz := HB.out.size
      unfold celCells at HC
      generalize p V[k] = pk at *
      generalize (V[k].kind.toNat : Int) = ka at *
      generalize V[k].num = nu at *
      generalize V[k].many = ma at *
      generalize (⟨V[k].name.toArray⟩ : ByteArray) = x at *
      generalize (⟨V[k].text.toArray⟩ : ByteArray) = y at *
      cases pk with
      | true =>
        rw [if_pos rfl] at hstep
        have HF := Lib.hid hstep
        clear hstep HS
        go_wp2_with fail
        refine HC.out.mono ?_; rintro e w1 ⟨rfl, hb⟩
        have HB1 := Lib.hid (HB.out.trans (hb.mono hz))
        clear hb
        go_wp2_with fail
        go_ret
        exact ⟨ret_i HF.out, HB1.out⟩
      | false =>
        rw [if_neg Bool.false_ne_true] at hstep
        have HF := Lib.hid hstep
        clear hstep HS
        go_wp2_with fail
        refine HC.out.mono ?_; rintro e w1 ⟨rfl, hb⟩
        have HB1 := Lib.hid (HB.out.trans (hb.mono hz))
        clear hb
        go_wp2_with fail
        go_roundw
        case rel => exact ⟨k + 1, by omega, by go_num, HF, HB1⟩
        case measure => simp [intOf]; omega
    · have HF : Hid (-1 = r) := Lib.hid (by rw [← HS.out, List.drop_of_length_le (by omega)]; rfl)
      clear HS
      go_wp2_with fail
      go_ret
      exact ⟨ret_i HF.out, HB.out⟩
set_option maxRecDepth 100000 in
theorem cindex_none (g : Nat) (lb : Array Value) (p : Cel → Bool) (a : Option Addr) (cap : Nat) (w : World) :
    Calls Tryz.prog 93 #[.slice a 0 cap, .func (.func g) #[] lb] w fun e w' => e = .returned (.int .i64 (idxI p [] 0)) ∧ Below w.heap.size w w' := by
  go_enter Tryz.func93, Tryz.ntmps93
  go_wp2_with fail
  refine wp_loop_rounds 1 ?_; rw [rounds_succ]
  go_wp2_with fail
  go_ret
  exact ⟨rfl, Below.refl _ _⟩
set_option maxRecDepth 100000 in
theorem ccontains_any (g : Nat) (lb : Array Value) (eg : ∀ args w, (callFunc g args).run Tryz.prog w = .ok (.enter g args) w) (p : Cel → Bool) (V : List Cel) (v : Value) (w : World) (hv : CelSl v V w) (hl : V.length ≤ 100000)
    (H : Hid (∀ (W : World) (k : Nat) (hk : k < V.length), Below w.heap.size w W → Calls Tryz.prog g (#[.agg (celCells V[k])] ++ lb) W fun e w' => e = .returned (.bool (p V[k])) ∧ Below W.heap.size W w')) :
    Calls Tryz.prog 62 #[v, .func (.func g) #[] lb] w fun e w' => e = .returned (.bool (V.any p)) ∧ Below w.heap.size w w' := by
  have HI : Hid (Calls Tryz.prog 93 #[v, .func (.func g) #[] lb] w fun e w' => e = .returned (.int .i64 (idxI p V 0)) ∧ Below w.heap.size w w') := Lib.hid (by
    rcases hv with ⟨a, c, rfl, rfl, _⟩ | ⟨b, off, cap, rfl, hrow, hpos⟩
    · exact cindex_none g lb p a c w
    · exact cindex_row g lb eg p V b off cap w hrow hl H)
  have hsg := idxI_sign p V 0
  generalize idxI p V 0 = i at *
  rw [← hsg]
  clear H hv hsg eg
  go_enter Tryz.func62, Tryz.ntmps62
  go_wp2_with fail
  refine HI.out.mono ?_; rintro e w1 ⟨rfl, hb⟩
  go_wp2_with fail
  go_ret
  exact ⟨rfl, hb⟩
theorem kind_eq (c : Cel) (k : UInt8) : (c.kind == k) = ((c.kind.toNat : Int) == (k.toNat : Int)) := by
  rw [Bool.eq_iff_iff, beq_iff_eq, beq_iff_eq]
  exact ⟨fun h => by rw [h], fun h => UInt8.toNat_inj.1 (by omega)⟩
end Go.Proofs.YtgaknbnhmoddcaaGreatDoor
namespace Go.Proofs.YtgaknbnhmoddcaaGreatDoor
open Go.RowKit
theorem rbehind_case (V : List Cel) (b off cap : Nat) (hs : SmallV V) (d : Nat) (hd : d ≤ 16) (W : World) (k : Nat) (hk : k < V.length) (hrow : CelRow b off V W)
    (HIH : 0 < d → Hid (∀ (W' : World) (p : Nat), p < V.length → CelRow b off V W' → Calls Tryz.prog 96 #[.slice (some ⟨b, off, none⟩) V.length cap, .int .i64 (p : Int), .int .i64 ((d : Int) - 1)] W' fun e w' => e = .returned (.int .i64 (endI V p (d - 1))) ∧ Below W'.heap.size W' w')) :
    Calls Tryz.prog 96 #[.slice (some ⟨b, off, none⟩) V.length cap, .int .i64 (k : Int), .int .i64 (d : Int)] W fun e w' => e = .returned (.int .i64 (endI V k d)) ∧ Below W.heap.size W w' := by
  obtain ⟨c0, c1, c2, c3, c4⟩ := hrow k hk
  obtain ⟨s1, s2, s3, s4⟩ := hs.2 V[k] (List.getElem_mem _)
  have HO : Hid (∀ w : World, Calls Tryz.prog 115 #[.agg #[.int .u8 (V[k].kind.toNat : Int), .string ⟨V[k].name.toArray⟩, .string ⟨V[k].text.toArray⟩, .int .i64 V[k].num, .int .i64 V[k].many]] w fun e w' => e = .returned (.bool (oneC V[k])) ∧ Below w.heap.size w w') := Lib.hid fun w => rone03_any V[k] s2 w
  have HSM : Hid (∀ c ∈ V, c.name.length ≤ 100000) := Lib.hid fun c hc => (hs.2 c hc).1
  have HTX : Hid (∀ (W' : World) (x : ByteArray), x.size ≤ 100000 → Calls Tryz.prog 116 #[.string x] W' fun e w' => e = .returned (.bool (textB x.data.toList)) ∧ Below W'.heap.size W' w') := Lib.hid fun W' x hx => rtext03_any x hx W'
  have hnest := nest_kind V[k]
  have hval := valN_drop V k d hk
  have hone := one_kind V[k]
  cases ho : oneC V[k] with
  | false =>
    rw [ho] at HO hval
    rw [endI_none hval]
    exact rb_one V b off cap W k d _ _ _ _ _ hk hs.1 hd c0 c1 c2 c3 c4 HO
  | true =>
    rw [ho] at HO hval
    rw [if_pos rfl] at hval
    have ne6 : ∀ j : Nat, V[k].kind.toNat ≠ j → (((V[k].kind.toNat : Int)) != (j : Int)) = true := fun j h => by rw [bne_iff_ne]; omega
    by_cases h67 : V[k].kind.toNat = 6 ∨ V[k].kind.toNat = 7
    · have hcn : cnest V[k].kind.toNat = true := by
        unfold cnest
        rw [Bool.or_eq_true, beq_iff_eq, beq_iff_eq]; exact h67
      rw [hnest, hcn, if_pos rfl] at hval
      have hm : 0 ≤ V[k].many := by
        rw [ho, hcn, if_pos rfl] at hone
        have := hone.symm
        simp only [Bool.and_eq_true, decide_eq_true_eq] at this
        exact this.2.2
      obtain ⟨m, hm2⟩ := Int.eq_ofNat_of_zero_le hm
      have hmt : V[k].many.toNat = m := by rw [hm2]; rfl
      have hmx : (m : Int) ≤ 9223372036854775807 := by rw [← hm2]; exact s4.2
      by_cases hd0 : d = 0
      · have hn : valN d (V.drop k) = none := by rw [hval]; subst hd0; rfl
        have hdb : ((d : Int) == 0) = true := by rw [hd0]; rfl
        rw [endI_none hn]
        rcases h67 with h | h
        · exact rb_deep6 V b off cap W k d _ _ _ _ _ hk hs.1 hd c0 c1 c2 c3 c4 HO (by rw [h]; rfl) (by rw [h]; rfl) (by rw [h]; rfl) (by rw [h]; rfl) hdb
        · exact rb_deep7 V b off cap W k d _ _ _ _ _ hk hs.1 hd c0 c1 c2 c3 c4 HO (by rw [h]; rfl) (by rw [h]; rfl) (by rw [h]; rfl) (by rw [h]; rfl) hdb
      · obtain ⟨d', rfl⟩ : ∃ d', d = d' + 1 := ⟨d - 1, by omega⟩
        dsimp only at hval
        rw [hmt] at hval
        rw [hm2] at c4 HO
        rcases h67 with h | h
        · have hk6 : (V[k].kind == 6) = true := beq_iff_eq.2 (UInt8.toNat_inj.1 h)
          rw [hk6] at hval
          exact rb_list V b off cap W k (d' + 1) _ _ _ _ m hk hs.1 hd c0 c1 c2 c3 c4 HO (by rw [h]; rfl) (by rw [h]; rfl) (by rw [h]; rfl) (by rw [h]; rfl) (by omega) hmx (Lib.hid hrow) HSM _ rfl hval HTX (HIH (by omega))
        · have hk6 : (V[k].kind == 6) = false := beq_eq_false_iff_ne.2 fun e => by rw [e] at h; exact absurd h (by decide)
          rw [hk6] at hval
          exact rb_obj V b off cap W k (d' + 1) _ _ _ _ m hk hs.1 hd c0 c1 c2 c3 c4 HO (by rw [h]; rfl) (by rw [h]; rfl) (by rw [h]; rfl) (by rw [h]; rfl) (by omega) hmx (Lib.hid hrow) HSM _ rfl hval HTX (HIH (by omega))
    · have hcn : cnest V[k].kind.toNat = false := by
        unfold cnest
        rw [Bool.or_eq_false_iff, beq_eq_false_iff_ne, beq_eq_false_iff_ne]
        omega
      rw [hnest, hcn] at hval
      rw [endI_some hval]
      exact rb_leaf V b off cap W k d _ _ _ _ _ hk hs.1 hd c0 c1 c2 c3 c4 HO (ne6 6 (by omega)) (ne6 7 (by omega))
theorem rbehind_walk (V : List Cel) (b off cap : Nat) (hs : SmallV V) : ∀ d : Nat, d ≤ 16 → ∀ (W : World) (k : Nat), k < V.length → CelRow b off V W →
    Calls Tryz.prog 96 #[.slice (some ⟨b, off, none⟩) V.length cap, .int .i64 (k : Int), .int .i64 (d : Int)] W fun e w' => e = .returned (.int .i64 (endI V k d)) ∧ Below W.heap.size W w' := by
  intro d
  induction d with
  | zero => intro hd W k hk hrow; exact rbehind_case V b off cap hs 0 hd W k hk hrow (fun h => absurd h (by decide))
  | succ d ih =>
    intro hd W k hk hrow
    refine rbehind_case V b off cap hs (d + 1) hd W k hk hrow (fun _ => Lib.hid fun W' p hp hr => ?_)
    have := ih (by omega) W' p hp hr
    rw [show ((d + 1 : Nat) : Int) - 1 = (d : Int) from by omega, show d + 1 - 1 = d from rfl]
    exact this
set_option maxRecDepth 100000 in
theorem rmay03_none (a : Option Addr) (cap : Nat) (w : World) :
    Calls Tryz.prog 67 #[.slice a 0 cap] w fun e w' => e = .returned (.bool (mayB [])) ∧ Below w.heap.size w w' := by
  go_enter Tryz.func67, Tryz.ntmps67
  go_wp2_with fail
  go_ret
  exact ⟨rfl, Below.refl _ _⟩
set_option maxRecDepth 100000 in
theorem rmay03_long (a : Option Addr) (n cap : Nat) (hn : 2048 < n) (hl : n ≤ 100000) (w : World) :
    Calls Tryz.prog 67 #[.slice a n cap] w fun e w' => e = .returned (.bool false) ∧ Below w.heap.size w w' := by
  go_enter Tryz.func67, Tryz.ntmps67
  go_wp2_with fail
  go_ret
  exact ⟨rfl, Below.refl _ _⟩
set_option maxRecDepth 100000 in
theorem rmay03_named (n b off cap : Nat) (hn0 : 0 < n) (hn : n ≤ 2048) (x : ByteArray) (h1 : ¬ x.toList = []) (h2 : x.toList.isEmpty = false) (w : World) (c1 : w.cell? ⟨b, off + 1, none⟩ = some (.string x)) :
    Calls Tryz.prog 67 #[.slice (some ⟨b, off, none⟩) n cap] w fun e w' => e = .returned (.bool false) ∧ Below w.heap.size w w' := by
  go_enter Tryz.func67, Tryz.ntmps67
  go_wp2_with fail
  go_ret
  exact ⟨rfl, Below.refl _ _⟩
set_option maxRecDepth 100000 in
theorem rmay03_in (n b off cap : Nat) (hn0 : 0 < n) (hn : n ≤ 2048) (x : ByteArray) (h1 : x.toList = []) (h2 : x.toList.isEmpty = true) (w : World) (c1 : w.cell? ⟨b, off + 1, none⟩ = some (.string x)) (r : Int)
    (H : Hid (∀ W, Below w.heap.size w W → Calls Tryz.prog 96 #[.slice (some ⟨b, off, none⟩) n cap, .int .i64 0, .int .i64 16] W fun e w' => e = .returned (.int .i64 r) ∧ Below W.heap.size W w')) :
    Calls Tryz.prog 67 #[.slice (some ⟨b, off, none⟩) n cap] w fun e w' => e = .returned (.bool (r == (n : Int))) ∧ Below w.heap.size w w' := by
  go_enter Tryz.func67, Tryz.ntmps67
  go_wp2_with fail
  refine (H.out _ (Below.refl _ _)).mono ?_; rintro e w1 ⟨rfl, hb⟩
  go_wp2_with fail
  go_ret
  exact ⟨rfl, hb⟩
theorem rmay03_any (V : List Cel) (v : Value) (w : World) (hv : CelSl v V w) (hs : SmallV V) :
    Calls Tryz.prog 67 #[v] w fun e w' => e = .returned (.bool (mayB V)) ∧ Below w.heap.size w w' := by
  rcases hv with ⟨a, c, rfl, rfl, _⟩ | ⟨b, off, cap, rfl, hrow, hpos⟩
  · exact rmay03_none a c w
  · by_cases hn : V.length ≤ 2048
    · obtain ⟨_, c1, _⟩ := hrow 0 hpos
      rw [Nat.zero_mul, Nat.add_zero] at c1
      have hhead : (V.headD ⟨0, [0], [], 0, 0⟩).name = V[0].name := by
        cases V with
        | nil => simp at hpos
        | cons c r => rfl
      have hxl : (⟨V[0].name.toArray⟩ : ByteArray).data.toList = V[0].name := by simp
      rcases empty_z ⟨V[0].name.toArray⟩ with ⟨z0, z1, z2, z3⟩ | ⟨z0, z1, z2, z3⟩
      · have hm : mayB V = false := by
          unfold mayB
          rw [hhead]
          have : V[0].name.isEmpty = false := by rw [← hxl, ← ByteArray.toList_eq]; exact z2
          rw [this]; simp
        rw [hm]
        exact rmay03_named V.length b off cap hpos hn _ z1 z2 w c1
      · have hne : V[0].name.isEmpty = true := by rw [← hxl, ← ByteArray.toList_eq]; exact z2
        have hmay : mayB V = (endI V 0 16 == (V.length : Int)) := by
          unfold mayB endI
          rw [hhead, hne, decide_eq_true hpos, decide_eq_true hn, List.drop_zero]
          cases hv : valN 16 V with
          | none => rw [Bool.eq_iff_iff]; simp
          | some k => rw [Bool.eq_iff_iff]; simp; omega
        rw [hmay]
        exact rmay03_in V.length b off cap hpos hn _ z1 z2 w c1 _ (Lib.hid fun W hW => rbehind_walk V b off cap hs 16 (by omega) W 0 hpos (hrow.below' hW))
    · have hm : mayB V = false := by unfold mayB; rw [decide_eq_false hn]; simp
      rw [hm]
      exact rmay03_long _ V.length cap (by omega) hs.1 w
end Go.Proofs.YtgaknbnhmoddcaaGreatDoor
namespace Go.Proofs.YtgaknbnhmoddcaaGreatDoor
open Go.RowKit
set_option maxHeartbeats 400000 in
theorem rwrite_step (m : Nat) (ih : ∀ n : Int, n.natAbs < m → R n → ∀ w, Calls Tryz.prog 69 #[.int .i64 n] w fun e w' => e = .returned (.string ⟨(Lib.itoa n).toArray⟩) ∧ w = w')
    (ih1 : ∀ n : Int, 0 ≤ n → n < 10 → ∀ w, Calls Tryz.prog 69 #[.int .i64 n] w fun e w' => e = .returned (.string ⟨(Lib.itoa n).toArray⟩) ∧ w = w')
    (n : Int) (hm : n.natAbs = m) (hr : R n) (hn : n < 0 ∨ 10 ≤ n) (w : World) :
    Calls Tryz.prog 69 #[.int .i64 n] w fun e w' => e = .returned (.string ⟨(Lib.itoa n).toArray⟩) ∧ w = w' := by
  obtain ⟨r1, r2⟩ := hr
  have IH := Lib.hid ih
  have IH1 := Lib.hid ih1
  clear ih ih1
  rcases hn with h0 | h1
  · by_cases h1 : -10 < n
    · have HF := Lib.hid (itoa_minus n h0)
      have l1 := len_itoa (n := -n) (by unfold R; omega)
      have HC := Lib.hid (fun w => IH1.out (-n) (by omega) (by omega) w)
      clear hm
      go_enter Tryz.func69, Tryz.ntmps69
      go_wp2_with fail
      refine (HC.out _).mono ?_; rintro e w1 ⟨rfl, rfl⟩
      go_wp2_with fail
      go_ret
      refine ⟨retB ?_, rfl⟩
      rw [HF.out]
      exact cat [45] _
    · have HC := Lib.hid (fun w => IH.out (n.tdiv 10) (by rw [tdiv10 n h0]; omega) (by rw [tdiv10 n h0]; unfold R; omega) w)
      have e1 := tdiv10 n h0
      have e2 := tmod10 n h0
      have HF := Lib.hid (itoa_neg10 n ((-n) % 10) (by omega) rfl)
      have HD := Lib.hid (fun w => IH1.out ((-n) % 10) (by omega) (by omega) w)
      have b0 : (0 : Int) ≤ (-n) % 10 := by omega
      have b1 : (-n) % 10 < 10 := by omega
      have b2 : (0 : Int) ≤ (-n) / 10 := by omega
      have b3 : (-n) / 10 ≤ 922337203685477580 := by omega
      rw [e1] at HC
      clear hm
      have h1' : n ≤ -10 := by omega
      clear h1
      generalize hq : (-n) / 10 = q at *
      generalize hd : (-n) % 10 = d at *
      clear hq hd
      have l1 := len_itoa (n := -q) (by unfold R; omega)
      have l2 := len_itoa (n := d) (by unfold R; omega)
      have hd0 : d = 0 ∨ 0 < d := by omega
      rcases hd0 with rfl | hd0
      all_goals
        go_enter Tryz.func69, Tryz.ntmps69
        go_wp2_with fail
        refine (HC.out _).mono ?_; rintro e w1 ⟨rfl, rfl⟩
        go_wp2_with fail
        refine (HD.out _).mono ?_; rintro e w1 ⟨rfl, rfl⟩
        go_wp2_with fail
        go_ret
        refine ⟨retB ?_, rfl⟩
        rw [HF.out]
        exact cat _ _
  · have HF := Lib.hid (itoa_pos n (by omega))
    have HC := Lib.hid (fun w => IH.out (n / 10) (by omega) (by unfold R; omega) w)
    have HD := Lib.hid (fun w => IH1.out (n % 10) (by omega) (by omega) w)
    have l1 := len_itoa (n := n / 10) (by unfold R; omega)
    have l2 := len_itoa (n := n % 10) (by unfold R; omega)
    clear hm
    go_enter Tryz.func69, Tryz.ntmps69
    go_wp2_with fail
    refine (HC.out _).mono ?_; rintro e w1 ⟨rfl, rfl⟩
    go_wp2_with fail
    refine (HD.out _).mono ?_; rintro e w1 ⟨rfl, rfl⟩
    go_wp2_with fail
    go_ret
    refine ⟨retB ?_, rfl⟩
    rw [HF.out]
    exact cat _ _
set_option maxHeartbeats 400000 in
theorem rwrite_small (n : Int) (h0 : 0 ≤ n) (h1 : n < 10) (w : World) :
    Calls Tryz.prog 69 #[.int .i64 n] w fun e w' => e = .returned (.string ⟨(Lib.itoa n).toArray⟩) ∧ w = w' := by
  have HF := Lib.hid (one_digit n h0 h1)
  go_enter Tryz.func69, Tryz.ntmps69
  go_wp2_with fail
  go_ret
  exact ⟨retB HF.out, rfl⟩
theorem rwrite_any (n : Int) (hr : R n) (w : World) :
    Calls Tryz.prog 69 #[.int .i64 n] w fun e w' => e = .returned (.string ⟨(Lib.itoa n).toArray⟩) ∧ w = w' := by
  suffices H : ∀ m : Nat, ∀ n : Int, n.natAbs ≤ m → R n → ∀ w, Calls Tryz.prog 69 #[.int .i64 n] w fun e w' => e = .returned (.string ⟨(Lib.itoa n).toArray⟩) ∧ w = w' from H _ n (Nat.le_refl _) hr w
  intro m
  induction m with
  | zero => intro n hn _ w; exact rwrite_small n (by omega) (by omega) w
  | succ m ih =>
    intro n hn hr w
    by_cases h : 0 ≤ n ∧ n < 10
    · exact rwrite_small n h.1 h.2 w
    · exact rwrite_step n.natAbs (fun k hk hkr w => ih k (by omega) hkr w) (fun n h0 h1 w => rwrite_small n h0 h1 w) n rfl hr (by omega) w
end Go.Proofs.YtgaknbnhmoddcaaGreatDoor
namespace Go.Proofs.YtgaknbnhmoddcaaGreatDoor
open Go.RowKit
/-- Where the items, the members, begin. -/
def plcJ (val : List Cel → Option Nat) (V : List Cel) : Nat → Nat → List Nat
  | 0, _ => []
  | n + 1, p => p :: plcJ val V n (p + (val (V.drop p)).getD 0)
theorem plcJ_len (val : List Cel → Option Nat) (V : List Cel) : ∀ n p, (plcJ val V n p).length = n
  | 0, _ => rfl
  | n + 1, p => by rw [plcJ, List.length_cons, plcJ_len val V n]
theorem OwnI.form {B : Nat} {v : Value} {l : List Nat} {w : World} (h : OwnI B v l w) : ∃ a c, v = .slice a l.length c ∧ (0 < l.length → ∃ g, a = some ⟨g, 0, none⟩ ∧ ∀ (i : Nat) (hi : i < l.length), w.cell? ⟨g, 0 + i, none⟩ = some (.int .i64 (l[i] : Int))) := by
  obtain ⟨h1, h2⟩ := h
  rcases h2 with ⟨rfl, h3⟩ | ⟨g, cap, cur, hv, hB, hg, hn, hc, hcs, ht⟩
  · exact ⟨none, 0, by rw [h3], fun h => by omega⟩
  · refine ⟨_, cap, hv, fun _ => ⟨g, rfl, fun i hi => ?_⟩⟩
    rw [Nat.mul_one] at ht
    have e : cur.toList[i]? = some (.int .i64 (l[i] : Int)) := by
      have : (cur.toList.take l.length)[i]? = some (.int .i64 (l[i] : Int)) := by rw [ht]; unfold natCells; simp [hi]
      rw [List.getElem?_take] at this
      simpa [hi] using this
    rw [Nat.zero_add]
    refine (Lib.cell_of_heap hg i).trans ?_
    simpa using e
theorem OwnI.lower {B B' : Nat} {v : Value} {l : List Nat} {w : World} (h : OwnI B v l w) (hB : B' ≤ B) : OwnI B' v l w := by
  obtain ⟨h1, h2⟩ := h
  refine ⟨h1, ?_⟩
  rcases h2 with h2 | ⟨g, cap, cur, hv, hb, hrest⟩
  · exact Or.inl h2
  · exact Or.inr ⟨g, cap, cur, hv, by omega, hrest⟩
set_option maxRecDepth 100000 in
set_option maxHeartbeats 1000000 in
theorem runder_any (V : List Cel) (b off cap : Nat) (W : World) (k : Nat) (kk : Nat) (nx tx : ByteArray) (nu : Int) (m : Nat) (hk : k < V.length) (hl : V.length ≤ 2048)
    (c0 : W.cell? ⟨b, off + k * 5, none⟩ = some (.int .u8 (kk : Int))) (c1 : W.cell? ⟨b, off + k * 5 + 1, none⟩ = some (.string nx)) (c2 : W.cell? ⟨b, off + k * 5 + 2, none⟩ = some (.string tx)) (c3 : W.cell? ⟨b, off + k * 5 + 3, none⟩ = some (.int .i64 nu)) (c4 : W.cell? ⟨b, off + k * 5 + 4, none⟩ = some (.int .i64 (m : Int)))
    (hmx : (m : Int) ≤ 9223372036854775807) (HROW : Hid (CelRow b off V W)) (d1 n : Nat) (hd : d1 ≤ 16) (isL : Bool) (hkids : KS V d1 k isL (some n) m [] 0)
    (HBE : Hid (∀ (W' : World) (p : Nat), p < V.length → CelRow b off V W' → Calls Tryz.prog 96 #[.slice (some ⟨b, off, none⟩) V.length cap, .int .i64 (p : Int), .int .i64 16] W' fun e w' => e = .returned (.int .i64 (endI V p 16)) ∧ Below W'.heap.size W' w')) :
    Calls Tryz.prog 71 #[.slice (some ⟨b, off, none⟩) V.length cap, .int .i64 (k : Int)] W fun e w' => ∃ v, e = .returned v ∧ OwnI W.heap.size v (plcJ (valN d1) V m (k + 1)) w' ∧ Below W.heap.size W w' := by
  have HK0 := Lib.hid hkids
  obtain ⟨P, hP⟩ : ∃ P, plcJ (valN d1) V m (k + 1) = P := ⟨_, rfl⟩
  have HP : Hid ([] ++ plcJ (valN d1) V m (k + 1) = P) := Lib.hid hP
  rw [hP]
  clear hP hkids
  go_enter Tryz.func71, Tryz.ntmps71
  go_wp2_with fail
  obtain ⟨wc, hwc⟩ : ∃ wc, W.alloc (.cells #[.int .u8 (kk : Int), .string nx, .string tx, .int .i64 nu, .int .i64 (m : Int)] 63) = wc := ⟨_, rfl⟩
  have hc : wc.heap[W.heap.size]? = some (.cells #[.int .u8 (kk : Int), .string nx, .string tx, .int .i64 nu, .int .i64 (m : Int)] 63 (0, 0)) := by rw [← hwc]; exact heap_alloc_new W _
  have hbc : Below W.heap.size W wc := by rw [← hwc]; exact (Below.refl _ _).alloc (Nat.le_refl _) _
  have hcz : W.heap.size < wc.heap.size := heap_lt hc
  rw [hwc]
  have HC := Lib.hid hc
  have HBC := Lib.hid hbc
  clear hwc hc hbc
  go_loopg [1, 5, 7] m (fun gk at_ nv ct wr => ∃ (j p u : Nat) (ov : Value) (out : List Nat) (nm : List (List UInt8)), ov = nv ∧ at_ = .int .i64 (p : Int) ∧ ct = .int .i64 j ∧ (gk + j ≤ m ∧ m ≤ gk + j) ∧ p ≤ V.length ∧ Hid (p = k + 1 + u) ∧ j ≤ u ∧ out.length ≤ j ∧ Hid (KS V d1 k isL (some n) gk nm u) ∧ Hid (out ++ plcJ (valN d1) V gk p = P) ∧ Hid (OwnI wc.heap.size ov out wr) ∧ Hid (Below wc.heap.size wc wr))
  case atStart => exact ⟨0, k + 1, 0, _, [], [], rfl, by go_num, rfl, ⟨by omega, by omega⟩, by omega, Lib.hid rfl, Nat.le_refl _, Nat.le_refl _, HK0, HP, Lib.hid (OwnI.nil _ _), Lib.hid (Below.refl _ _)⟩
  case round =>
    rename World => wr
    obtain ⟨j, p, u, ov, out, nm, rfl, rfl, rfl, ⟨hj, hj'⟩, hp, HPU, hju, hout, HKS, HPP, HO2, HB⟩ := hrel
    have e4 : wr.cell? ⟨W.heap.size, 4, none⟩ = some (.int .i64 (m : Int)) := by rw [Lib.cell_of_heap ((HB.out.block _ hcz).trans HC.out)]; rfl
    have hwz := HB.out.size
    by_cases hg0 : gk = 0
    · subst hg0
      have HF : Hid (out = P) := Lib.hid (by have := HPP.out; rw [plcJ, List.append_nil] at this; exact this)
      have HOF : Hid (OwnI W.heap.size ov P wr) := Lib.hid (by rw [← HF.out]; exact OwnI.lower HO2.out HBC.out.size)
      have hjn : ¬ j < m := by omega
      have HBF : Hid (Below W.heap.size W wr) := Lib.hid (HBC.out.trans (HB.out.mono HBC.out.size))
      clear hj hj' hju HO2
      go_wp2_with fail
      go_ret
      exact ⟨_, rfl, HOF.out, HBF.out⟩
    · obtain ⟨g1, rfl⟩ : ∃ g1, gk = g1 + 1 := ⟨gk - 1, by omega⟩
      have hjm : j < m := by omega
      clear hg0
      obtain ⟨hpl, n1, hv1, hks⟩ := HKS.out.step HPU.out
      have hn1 := (valN_le _ _ _ hv1).1
      have hn2 := (valN_le _ _ _ hv1).2
      rw [List.length_drop] at hn2
      have hpp := HPP.out
      rw [plcJ, hv1, Option.getD_some] at hpp
      obtain ⟨p2, hp2⟩ : ∃ p2, p + n1 = p2 := ⟨_, rfl⟩
      have HP2 : Hid (p2 = k + 1 + (u + n1)) := Lib.hid (by rw [← hp2, HPU.out]; omega)
      have hp3 : p2 ≤ V.length := by omega
      have HKS2 := Lib.hid hks
      rw [hp2] at hpp
      have HPN : Hid ((out ++ [p]) ++ plcJ (valN d1) V g1 p2 = P) := Lib.hid (by rw [← hpp]; simp)
      have HI : Hid (∀ W', CelRow b off V W' → Calls Tryz.prog 96 #[.slice (some ⟨b, off, none⟩) V.length cap, .int .i64 (p : Int), .int .i64 16] W' fun e w' => e = .returned (.int .i64 (p2 : Int)) ∧ Below W'.heap.size W' w') := Lib.hid fun W' h => by
        have := HBE.out W' p hpl h
        rw [endI_some (valN_mono hd _ _ hv1), hp2] at this
        exact this
      have hun : u ≤ 100000 := by have := HPU.out; omega
      clear hpp hks hv1 hp2 hn2
      go_wp2_with (at_builtin; refine wpList_pushI rfl _ _ rfl wc.heap.size ov out rfl (HO2.out.alloc _) ⟨wr.heap.size, 0, none⟩ 1 p rfl (new_cell0 wr _ _) ?c1 ?c2 ?_)
      case c1 => omega
      case c2 => simp; omega
      intro v' w3 hown' hgrow
      have HB3 : Hid (Below wc.heap.size wc w3) := Lib.hid ((HB.out.alloc hwz _).grown hgrow (by simp; omega) HO2.out.lt)
      have HBW3 : Hid (Below W.heap.size W w3) := Lib.hid (HBC.out.trans (HB3.out.mono HBC.out.size))
      have HO5 := Lib.hid hown'
      clear hown' hgrow e4
      go_wp2_with fail
      refine (HI.out _ (HROW.out.below' HBW3.out)).mono ?_; rintro e w6 ⟨rfl, hb6⟩
      have HB6 := Lib.hid (HB3.out.trans (hb6.mono HB3.out.size))
      have HO6 := Lib.hid (HO5.out.below hb6)
      clear hb6
      go_wp2_with fail
      go_roundg g1
      case measure => omega
      case rel => exact ⟨j + 1, p2, u + n1, _, out ++ [p], _, rfl, rfl, by go_num, ⟨by omega, by omega⟩, hp3, HP2, by omega, by simp; omega, HKS2, HPN, HO6, HB6⟩
end Go.Proofs.YtgaknbnhmoddcaaGreatDoor
namespace Go.Proofs.YtgaknbnhmoddcaaGreatDoor
open Go.RowKit
/-- Tokens that were just laid. -/
theorem OwnT.freshN {L : List Tok} {C : Array Value} {k : Nat} (hk : k = L.length) (hC : C.toList = tokCells L) (hl : L.length ≤ 1000000) (W : World) : OwnT W.heap.size (.slice (some ⟨W.heap.size, 0, none⟩) k k) L (W.alloc (.cells C 72)) := by
  have hs : C.size = L.length * 3 := by
    have := congrArg List.length hC
    rw [tokCells_len] at this
    simpa using this
  refine ⟨tokCells_len L, Or.inr ⟨W.heap.size, k, C, by rw [hk], Nat.le_refl _, heap_new W _ _ rfl, by omega, by unfold maxLen; omega, by omega, ?_⟩⟩
  rw [List.take_of_length_le (by simp; omega)]
  exact hC
theorem tok_cells1 (k : UInt8) (kd : Int) (hk : (k.toNat : Int) = kd) (s : ByteArray) : (#[Value.int .u8 kd, .string s, .int .i64 0] : Array Value).toList = tokCells [⟨k, s.data.toList, 0⟩] := by
  subst hk
  simp [tokCells]
theorem OwnT.one (k : UInt8) (kd : Int) (hk : (k.toNat : Int) = kd) (s : ByteArray) (W : World) : OwnT W.heap.size (.slice (some ⟨W.heap.size, 0, none⟩) 1 1) [⟨k, s.data.toList, 0⟩] (W.alloc (.cells #[.int .u8 kd, .string s, .int .i64 0] 72)) := OwnT.freshN rfl (tok_cells1 k kd hk s) (by simp) W
theorem OwnT.two (k : UInt8) (kd : Int) (hk : (k.toNat : Int) = kd) (s : ByteArray) (k2 : UInt8) (kd2 : Int) (hk2 : (k2.toNat : Int) = kd2) (s2 : ByteArray) (W : World) : OwnT W.heap.size (.slice (some ⟨W.heap.size, 0, none⟩) 2 2) [⟨k, s.data.toList, 0⟩, ⟨k2, s2.data.toList, 0⟩] (W.alloc (.cells #[.int .u8 kd, .string s, .int .i64 0, .int .u8 kd2, .string s2, .int .i64 0] 72)) :=
  OwnT.freshN rfl (by
    subst hk hk2
    simp [tokCells]) (by simp) W
set_option maxRecDepth 100000 in
theorem rname18 (s : ByteArray) (w : World) : Calls Tryz.prog 68 #[.string s] w fun e w' => e = .returned (.agg #[.int .u8 1, .string s, .int .i64 0]) ∧ Below w.heap.size w w' := by
  go_enter Tryz.func68, Tryz.ntmps68
  go_wp2_with fail
  go_returns
  exact ⟨rfl, (Below.refl _ _).alloc (Nat.le_refl _) _⟩
set_option maxRecDepth 100000 in
theorem rmark18 (s : ByteArray) (w : World) : Calls Tryz.prog 70 #[.string s] w fun e w' => e = .returned (.agg #[.int .u8 4, .string s, .int .i64 0]) ∧ Below w.heap.size w w' := by
  go_enter Tryz.func70, Tryz.ntmps70
  go_wp2_with fail
  go_returns
  exact ⟨rfl, (Below.refl _ _).alloc (Nat.le_refl _) _⟩
theorem keep_cell {W W' : World} {b i : Nat} {v : Value} (hb : Below W.heap.size W W') (h : W.cell? ⟨b, i, none⟩ = some v) : W'.cell? ⟨b, i, none⟩ = some v := (hb.cell (p := ⟨b, i, none⟩) (lt_of_cell h)).trans h
/-- What Of says. -/
def OfS (L : List Tok) (W : World) (e : Ending) (w' : World) : Prop := (∃ v, e = .returned v ∧ OwnT W.heap.size v L w') ∧ Below W.heap.size W w'
set_option maxRecDepth 100000 in
set_option maxHeartbeats 2000000 in
theorem of_null (V : List Cel) (b off cap : Nat) (W : World) (k : Nat) (kk : Nat) (nx tx : ByteArray) (nu mn : Int)
    (hk : k < V.length) (hl : V.length ≤ 2048)
    (c0 : W.cell? ⟨b, off + k * 5, none⟩ = some (.int .u8 (kk : Int))) (c1 : W.cell? ⟨b, off + k * 5 + 1, none⟩ = some (.string nx)) (c2 : W.cell? ⟨b, off + k * 5 + 2, none⟩ = some (.string tx)) (c3 : W.cell? ⟨b, off + k * 5 + 3, none⟩ = some (.int .i64 nu)) (c4 : W.cell? ⟨b, off + k * 5 + 4, none⟩ = some (.int .i64 mn))
    (h0 : kk = 0) :
    Calls Tryz.prog 37 #[.slice (some ⟨b, off, none⟩) V.length cap, .int .i64 (k : Int)] W (OfS [nmT [110, 117, 108, 108]] W) := by
  subst h0
  go_enter Tryz.func37, Tryz.ntmps37
  go_wp2_with fail
  refine (rname18 _ _).mono ?_; rintro e w1 ⟨rfl, hb⟩
  have HB1 : Hid (Below W.heap.size W w1) := Lib.hid (((Below.refl _ _).alloc (Nat.le_refl _) _).trans (hb.mono (by simp)))
  clear hb
  go_wp2_with fail
  go_ret
  exact ⟨⟨_, rfl, (OwnT.one 1 1 rfl ⟨#[110, 117, 108, 108]⟩ _).lessU HB1.out.size⟩, HB1.out.alloc HB1.out.size _⟩
set_option maxRecDepth 100000 in
set_option maxHeartbeats 2000000 in
theorem of_true (V : List Cel) (b off cap : Nat) (W : World) (k : Nat) (kk : Nat) (nx tx : ByteArray) (nu mn : Int)
    (hk : k < V.length) (hl : V.length ≤ 2048)
    (c0 : W.cell? ⟨b, off + k * 5, none⟩ = some (.int .u8 (kk : Int))) (c1 : W.cell? ⟨b, off + k * 5 + 1, none⟩ = some (.string nx)) (c2 : W.cell? ⟨b, off + k * 5 + 2, none⟩ = some (.string tx)) (c3 : W.cell? ⟨b, off + k * 5 + 3, none⟩ = some (.int .i64 nu)) (c4 : W.cell? ⟨b, off + k * 5 + 4, none⟩ = some (.int .i64 mn))
    (h0 : kk = 1) (h1 : nu = 1) :
    Calls Tryz.prog 37 #[.slice (some ⟨b, off, none⟩) V.length cap, .int .i64 (k : Int)] W (OfS [nmT [116, 114, 117, 101]] W) := by
  subst h0
  subst h1
  go_enter Tryz.func37, Tryz.ntmps37
  have ix := fun w : World => (show (Instr.index 128 (.agg #[.string ⟨#[102, 97, 108, 115, 101]⟩, .string ⟨#[116, 114, 117, 101]⟩]) (.int .i64 1)).run Tryz.prog w = .ok (.string ⟨#[116, 114, 117, 101]⟩) w by kernel_rfl)
  go_wp2_with fail
  refine (rname18 _ _).mono ?_; rintro e w1 ⟨rfl, hb⟩
  have HB1 : Hid (Below W.heap.size W w1) := Lib.hid (((Below.refl _ _).alloc (Nat.le_refl _) _).trans (hb.mono (by simp)))
  clear hb
  go_wp2_with fail
  go_ret
  exact ⟨⟨_, rfl, (OwnT.one 1 1 rfl ⟨#[116, 114, 117, 101]⟩ _).lessU HB1.out.size⟩, HB1.out.alloc HB1.out.size _⟩
set_option maxRecDepth 100000 in
set_option maxHeartbeats 2000000 in
theorem of_false (V : List Cel) (b off cap : Nat) (W : World) (k : Nat) (kk : Nat) (nx tx : ByteArray) (nu mn : Int)
    (hk : k < V.length) (hl : V.length ≤ 2048)
    (c0 : W.cell? ⟨b, off + k * 5, none⟩ = some (.int .u8 (kk : Int))) (c1 : W.cell? ⟨b, off + k * 5 + 1, none⟩ = some (.string nx)) (c2 : W.cell? ⟨b, off + k * 5 + 2, none⟩ = some (.string tx)) (c3 : W.cell? ⟨b, off + k * 5 + 3, none⟩ = some (.int .i64 nu)) (c4 : W.cell? ⟨b, off + k * 5 + 4, none⟩ = some (.int .i64 mn))
    (h0 : kk = 1) (h1 : nu = 0) :
    Calls Tryz.prog 37 #[.slice (some ⟨b, off, none⟩) V.length cap, .int .i64 (k : Int)] W (OfS [nmT [102, 97, 108, 115, 101]] W) := by
  subst h0
  subst h1
  go_enter Tryz.func37, Tryz.ntmps37
  have ix := fun w : World => (show (Instr.index 128 (.agg #[.string ⟨#[102, 97, 108, 115, 101]⟩, .string ⟨#[116, 114, 117, 101]⟩]) (.int .i64 0)).run Tryz.prog w = .ok (.string ⟨#[102, 97, 108, 115, 101]⟩) w by kernel_rfl)
  go_wp2_with fail
  refine (rname18 _ _).mono ?_; rintro e w1 ⟨rfl, hb⟩
  have HB1 : Hid (Below W.heap.size W w1) := Lib.hid (((Below.refl _ _).alloc (Nat.le_refl _) _).trans (hb.mono (by simp)))
  clear hb
  go_wp2_with fail
  go_ret
  exact ⟨⟨_, rfl, (OwnT.one 1 1 rfl ⟨#[102, 97, 108, 115, 101]⟩ _).lessU HB1.out.size⟩, HB1.out.alloc HB1.out.size _⟩
set_option maxRecDepth 100000 in
set_option maxHeartbeats 2000000 in
theorem of_int (V : List Cel) (b off cap : Nat) (W : World) (k : Nat) (kk : Nat) (nx tx : ByteArray) (nu mn : Int)
    (hk : k < V.length) (hl : V.length ≤ 2048)
    (c0 : W.cell? ⟨b, off + k * 5, none⟩ = some (.int .u8 (kk : Int))) (c1 : W.cell? ⟨b, off + k * 5 + 1, none⟩ = some (.string nx)) (c2 : W.cell? ⟨b, off + k * 5 + 2, none⟩ = some (.string tx)) (c3 : W.cell? ⟨b, off + k * 5 + 3, none⟩ = some (.int .i64 nu)) (c4 : W.cell? ⟨b, off + k * 5 + 4, none⟩ = some (.int .i64 mn))
    (h0 : kk = 2) (q : ByteArray)
    (HQ : Hid (∀ W' : World, Calls Tryz.prog 69 #[.int .i64 nu] W' fun e w' => e = .returned (.string q) ∧ Below W'.heap.size W' w')) :
    Calls Tryz.prog 37 #[.slice (some ⟨b, off, none⟩) V.length cap, .int .i64 (k : Int)] W (OfS [⟨2, q.data.toList, 0⟩] W) := by
  subst h0
  go_enter Tryz.func37, Tryz.ntmps37
  go_wp2_with fail
  refine (HQ.out _).mono ?_; rintro e w1 ⟨rfl, hb1⟩
  have HB1 : Hid (Below W.heap.size W w1) := Lib.hid (((Below.refl _ _).alloc (Nat.le_refl _) _).trans (hb1.mono (by simp)))
  clear hb1
  go_wp2_with fail
  go_ret
  exact ⟨⟨_, rfl, (OwnT.one 2 2 rfl q _).lessU HB1.out.size⟩, HB1.out.alloc HB1.out.size _⟩
set_option maxRecDepth 100000 in
set_option maxHeartbeats 2000000 in
theorem of_text (V : List Cel) (b off cap : Nat) (W : World) (k : Nat) (kk : Nat) (nx tx : ByteArray) (nu mn : Int)
    (hk : k < V.length) (hl : V.length ≤ 2048)
    (c0 : W.cell? ⟨b, off + k * 5, none⟩ = some (.int .u8 (kk : Int))) (c1 : W.cell? ⟨b, off + k * 5 + 1, none⟩ = some (.string nx)) (c2 : W.cell? ⟨b, off + k * 5 + 2, none⟩ = some (.string tx)) (c3 : W.cell? ⟨b, off + k * 5 + 3, none⟩ = some (.int .i64 nu)) (c4 : W.cell? ⟨b, off + k * 5 + 4, none⟩ = some (.int .i64 mn))
    (h0 : kk = 3) :
    Calls Tryz.prog 37 #[.slice (some ⟨b, off, none⟩) V.length cap, .int .i64 (k : Int)] W (OfS [⟨3, tx.data.toList, 0⟩] W) := by
  subst h0
  go_enter Tryz.func37, Tryz.ntmps37
  go_wp2_with fail
  go_ret
  have HB1 : Hid (Below W.heap.size W (W.alloc (.cells #[.int .u8 3, .string nx, .string tx, .int .i64 nu, .int .i64 mn] 63))) := Lib.hid ((Below.refl _ _).alloc (Nat.le_refl _) _)
  have hO := (OwnT.one 3 3 rfl tx (W.alloc (.cells #[.int .u8 3, .string nx, .string tx, .int .i64 nu, .int .i64 mn] 63))).lessU HB1.out.size
  rw [World.size_alloc] at hO
  exact ⟨⟨_, rfl, hO⟩, HB1.out.alloc HB1.out.size _⟩
set_option maxRecDepth 100000 in
set_option maxHeartbeats 2000000 in
theorem of_enum (V : List Cel) (b off cap : Nat) (W : World) (k : Nat) (kk : Nat) (nx tx : ByteArray) (nu mn : Int)
    (hk : k < V.length) (hl : V.length ≤ 2048)
    (c0 : W.cell? ⟨b, off + k * 5, none⟩ = some (.int .u8 (kk : Int))) (c1 : W.cell? ⟨b, off + k * 5 + 1, none⟩ = some (.string nx)) (c2 : W.cell? ⟨b, off + k * 5 + 2, none⟩ = some (.string tx)) (c3 : W.cell? ⟨b, off + k * 5 + 3, none⟩ = some (.int .i64 nu)) (c4 : W.cell? ⟨b, off + k * 5 + 4, none⟩ = some (.int .i64 mn))
    (h0 : kk = 4) :
    Calls Tryz.prog 37 #[.slice (some ⟨b, off, none⟩) V.length cap, .int .i64 (k : Int)] W (OfS [nmT tx.data.toList] W) := by
  subst h0
  go_enter Tryz.func37, Tryz.ntmps37
  go_wp2_with fail
  refine (rname18 _ _).mono ?_; rintro e w1 ⟨rfl, hb⟩
  have HB1 : Hid (Below W.heap.size W w1) := Lib.hid (((Below.refl _ _).alloc (Nat.le_refl _) _).trans (hb.mono (by simp)))
  clear hb
  go_wp2_with fail
  go_ret
  exact ⟨⟨_, rfl, (OwnT.one 1 1 rfl tx _).lessU HB1.out.size⟩, HB1.out.alloc HB1.out.size _⟩
set_option maxRecDepth 100000 in
set_option maxHeartbeats 2000000 in
theorem of_var (V : List Cel) (b off cap : Nat) (W : World) (k : Nat) (kk : Nat) (nx tx : ByteArray) (nu mn : Int)
    (hk : k < V.length) (hl : V.length ≤ 2048)
    (c0 : W.cell? ⟨b, off + k * 5, none⟩ = some (.int .u8 (kk : Int))) (c1 : W.cell? ⟨b, off + k * 5 + 1, none⟩ = some (.string nx)) (c2 : W.cell? ⟨b, off + k * 5 + 2, none⟩ = some (.string tx)) (c3 : W.cell? ⟨b, off + k * 5 + 3, none⟩ = some (.int .i64 nu)) (c4 : W.cell? ⟨b, off + k * 5 + 4, none⟩ = some (.int .i64 mn))
    (h0 : kk = 5) :
    Calls Tryz.prog 37 #[.slice (some ⟨b, off, none⟩) V.length cap, .int .i64 (k : Int)] W (OfS [mkT [36], nmT tx.data.toList] W) := by
  subst h0
  go_enter Tryz.func37, Tryz.ntmps37
  go_upto_region 14 with fail
  obtain ⟨wc, hwc⟩ : ∃ wc, W.alloc (.cells #[.int .u8 5, .string nx, .string tx, .int .i64 nu, .int .i64 mn] 63) = wc := ⟨_, rfl⟩
  have hc : wc.heap[W.heap.size]? = some (.cells #[.int .u8 5, .string nx, .string tx, .int .i64 nu, .int .i64 mn] 63 (0, 0)) := by rw [← hwc]; exact heap_new W _ _ rfl
  have HBd : Below W.heap.size W wc.drew := below_dN 1 (by rw [← hwc]; exact (Below.refl _ _).alloc (Nat.le_refl _) _)
  have e2d : wc.drew.cell? ⟨W.heap.size, 2, none⟩ = some (.string tx) := by show wc.cell? _ = _; rw [Lib.cell_of_heap hc]; rfl
  rw [hwc]
  clear hwc hc c0 c1 c2 c3 c4
  go_region_with (first | (refine (rmark18 _ _).mono ?_; rintro e w1 ⟨rfl, hb⟩; have e2d := keep_cell hb e2d; have HBd := Below.trans HBd (hb.mono HBd.size); clear hb) | (refine (rname18 _ _).mono ?_; rintro e w1 ⟨rfl, hb⟩; have e2d := keep_cell hb e2d; have HBd := Below.trans HBd (hb.mono HBd.size); clear hb))
  all_goals
    go_wp2_with fail
    go_ret
    exact ⟨⟨_, rfl, (OwnT.two 4 4 rfl ⟨#[36]⟩ 1 1 rfl tx _).lessU HBd.size⟩, HBd.alloc HBd.size _⟩
end Go.Proofs.YtgaknbnhmoddcaaGreatDoor
namespace Go.Proofs.YtgaknbnhmoddcaaGreatDoor
open Go.RowKit
theorem plcJ_at {val : List Cel → Option Nat} {V : List Cel} {g p j : Nat} {P : List Nat} (h : plcJ val V (g + 1) p = P.drop j) : ∃ hj : j < P.length, P[j] = p ∧ plcJ val V g (p + (val (V.drop p)).getD 0) = P.drop (j + 1) := by
  have hj : j < P.length := by
    rcases Nat.lt_or_ge j P.length with h' | h'
    · exact h'
    · rw [List.drop_eq_nil_of_le h'] at h; cases h
  rw [List.drop_eq_getElem_cons hj, plcJ] at h
  injection h with h1 h2
  exact ⟨hj, h1.symm, h2⟩
end Go.Proofs.YtgaknbnhmoddcaaGreatDoor
namespace Go.Proofs.YtgaknbnhmoddcaaGreatDoor
open Go.RowKit Go.Lib
theorem LV.other {p tb off cap : Nat} {T : List Tok} {fx : Bool} {w : World} {v0 v : Value} {out : List Cel} {k : Nat} {op : Int} {W : World} (h : LV p tb off cap T fx w v0 v out k op W) (C i : Nat) (u : Value) (hC : w.heap.size ≤ C) (hp : p < C) (hv : v.ownBlock ≠ some C) : LV p tb off cap T fx w v0 v out k op (W.setCell ⟨C, i, none⟩ u) := by
  have htb := h.st.2.2.1
  refine ⟨h.st.same ?_ ?_, h.own.mk (m := C) ⟨(Below.refl p W).setCell (p := ⟨C, i, none⟩) (Nat.le_of_lt hp) u, fun k o hk h1 h2 => ?_⟩ (Nat.lt_succ_self p) hv, ⟨h.vk.1.setCell (p := ⟨C, i, none⟩) (Nat.le_of_lt hp) u, fun k o hk h1 h2 => ?_⟩, h.ob⟩
  · exact Below.heap_setCell _ _ _ _ (by show p ≠ C; omega)
  · exact Below.heap_setCell _ _ _ _ (by show tb ≠ C; omega)
  · rw [Below.heap_setCell _ _ _ _ (by show k ≠ C; exact h2)]; exact hk
  · rw [Below.heap_setCell _ _ _ _ (by show k ≠ C; have := heap_lt hk; omega)]; exact h.vk.2 k o hk h1 h2
end Go.Proofs.YtgaknbnhmoddcaaGreatDoor
namespace Go.Proofs.YtgaknbnhmoddcaaGreatDoor
open Go.RowKit Go.Lib
theorem LV.join {p tb off cap : Nat} {T : List Tok} {fx : Bool} {w : World} {v0 v v2 : Value} {out out2 : List Cel} {k k' : Nat} {op op' : Int} {W W' : World} (h : LV p tb off cap T fx w v0 v out k op W) (h' : LV p tb off cap T fx W v v2 out2 k' op' W') : LV p tb off cap T fx w v0 v2 out2 k' op' W' :=
  ⟨h'.st, h'.own, h.vk.trans h'.vk h.ob, fun k hk => by
    rcases h'.ob k hk with e | e
    · exact h.ob k e
    · have := h.size; exact Or.inr (by omega)⟩
/-- Inside of brackets. -/
structure LI (p bm C tb off cap : Nat) (T : List Tok) (fx : Bool) (w : World) (v0 v : Value) (out : List Cel) (k : Nat) (op : Int) (nm : List (List UInt8)) (cc : Array Value) (W : World) : Prop where
  vp : LV p tb off cap T fx w v0 v out k op W
  nm : NamesM bm nm W
  cc : W.heap[C]? = some (.cells cc 63 (0, 0))
  lo : w.heap.size ≤ C
  lt : C < bm
  pl : p < w.heap.size
  ne : v.ownBlock ≠ some bm
  nc : v.ownBlock ≠ some C
section
variable {p bm C tb off cap : Nat} {T : List Tok} {fx : Bool} {w : World} {v0 v : Value} {out : List Cel} {k k' : Nat} {op op' : Int} {nm nm' : List (List UInt8)} {cc : Array Value} {W W' : World}
theorem LI.rk (h : LI p bm C tb off cap T fx w v0 v out k op nm cc W) (hs : LS p tb off cap T fx k' op' v W') (hk : RK p W W') : LI p bm C tb off cap T fx w v0 v out k' op' nm cc W' :=
  ⟨h.vp.rk hs hk, h.nm.rk hk (by have := h.lo; have := h.lt; have := h.pl; omega), hk.2 C _ h.cc (by have := h.lo; have := h.pl; omega), h.lo, h.lt, h.pl, h.ne, h.nc⟩
theorem LI.below (h : LI p bm C tb off cap T fx w v0 v out k op nm cc W) (hb : Below W.heap.size W W') : LI p bm C tb off cap T fx w v0 v out k op nm cc W' := h.rk (h.vp.st.below hb) (RK.of_below hb h.vp.st.lt)
theorem LI.drewN (h : LI p bm C tb off cap T fx w v0 v out k op nm cc W) (n : Nat) : LI p bm C tb off cap T fx w v0 v out k op nm cc (W.drewN n) := h.below (below_dN n (Below.refl _ _))
theorem LI.val {v2 : Value} {out2 : List Cel} (h : LI p bm C tb off cap T fx w v0 v out k op nm cc W) (h' : LV p tb off cap T fx W v v2 out2 k' op' W') : LI p bm C tb off cap T fx w v0 v2 out2 k' op' nm cc W' := by
  have hlt := h.nm.lt
  have hlc := heap_lt h.cc
  refine ⟨h.vp.join h', h.nm.keep ?_, ?_, h.lo, h.lt, h.pl, fun e => ?_, fun e => ?_⟩
  · have := Array.getElem?_eq_getElem hlt
    rw [this]
    exact h'.vk.2 bm _ this (by have := h.lo; have := h.lt; have := h.pl; omega) h.ne
  · exact h'.vk.2 C _ h.cc (by have := h.lo; have := h.pl; omega) h.nc
  · rcases h'.ob bm e with e | e
    · exact h.ne e
    · omega
  · rcases h'.ob C e with e | e
    · exact h.nc e
    · omega
theorem LI.set {g i m c : Nat} {u : Value} {out' : List Cel} (h : LI p bm C tb off cap T fx w v0 v out k op nm cc W) (hv : v = .slice (some ⟨g, 0, none⟩) m c) (hr : p < g) (hl : out'.length = out.length) (hf : celFlat out' = (celFlat out).set i u) : LI p bm C tb off cap T fx w v0 v out' k op nm cc (W.setCell ⟨g, i, none⟩ u) := by
  have hgm : g ≠ bm := fun e => h.ne (by rw [hv, e]; rfl)
  have hgc : g ≠ C := fun e => h.nc (by rw [hv, e]; rfl)
  refine ⟨h.vp.set hv hr hl hf, h.nm.keep ?_, ?_, h.lo, h.lt, h.pl, h.ne, h.nc⟩
  · exact Below.heap_setCell _ _ _ _ (by show bm ≠ g; omega)
  · exact (Below.heap_setCell _ _ _ _ (by show C ≠ g; omega)).trans h.cc
end
end Go.Proofs.YtgaknbnhmoddcaaGreatDoor
namespace Go.Proofs.YtgaknbnhmoddcaaGreatDoor
open Go.RowKit Go.Lib
section
variable {p tb off cap : Nat} {T : List Tok} {fx : Bool} {k : Nat} {op : Int} {v : Value}
end
section
variable {p bm C tb off cap : Nat} {T : List Tok} {fx : Bool} {w : World} {v0 v : Value} {out : List Cel} {k k' : Nat} {op op' : Int} {nm nm' : List (List UInt8)} {cc : Array Value} {W W' : World}
theorem LI.grown {v' : Value} {out' : List Cel} {H : Nat} (h : LI p bm C tb off cap T fx w v0 v out k op nm cc W) (ho : OwnC (p + 1) v' out' W') (hg : W.grownBy W' v.ownBlock) (hat : v'.ownBlock = v.ownBlock ∨ v'.ownBlock = some H) (hH : W.heap.size = H) : LS p tb off cap T fx k op v W' ∧ LI p bm C tb off cap T fx w v0 v' out' k op nm cc (W'.setCell ⟨p, 4, none⟩ v') := by
  have h1 := h.lo; have h2 := h.lt; have h3 := h.pl
  have hlc := heap_lt h.cc
  have hlb := h.nm.lt
  obtain ⟨hs, hl⟩ := h.vp.grown ho hg hat hH
  refine ⟨hs, hl, (h.nm.grown hg (fun e => h.ne e.symm)).rk (RK.set p 4 _ _) (by omega), ?_, h.lo, h.lt, h.pl, fun e => ?_, fun e => ?_⟩
  · rw [Below.heap_setCell _ _ _ _ (by show C ≠ p; omega), hg.block C hlc (fun e => h.nc e.symm)]; exact h.cc
  · rcases hat with e1 | e1
    · exact h.ne (e1 ▸ e)
    · rw [e1] at e; injection e with e; omega
  · rcases hat with e1 | e1
    · exact h.nc (e1 ▸ e)
    · rw [e1] at e; injection e with e; omega
end
end Go.Proofs.YtgaknbnhmoddcaaGreatDoor
namespace Go.Proofs.YtgaknbnhmoddcaaGreatDoor
open Go.RowKit Go.Lib
/-- What Read tells: of any bytes. -/
def PReadE (B : Nat) (o : Except Int (List Cel)) (x : Ending) (W : World) : Prop := match o with
  | .error e => x = .returned (.tuple #[.slice none 0 0, .int .i64 e])
  | .ok out => out.length ≤ 2048 ∧ ∃ u, x = .returned (.tuple #[u, .int .i64 0]) ∧ OwnC B u out W
end Go.Proofs.YtgaknbnhmoddcaaGreatDoor
namespace Go.Proofs.YtgaknbnhmoddcaaGreatDoor
open Go.RowKit Go.Lib
theorem VK.nil {r : Nat} {W W' : World} (h : VK r (.slice none 0 0) W W') : RK r W W' := ⟨h.1, fun k o hk hne => h.2 k o hk hne (by intro e; cases e)⟩
end Go.Proofs.YtgaknbnhmoddcaaGreatDoor
namespace Go.Proofs.YtgaknbnhmoddcaaGreatDoor
open Go.Lib
def hidC (c : UInt8) : Bool := c == 32 || c == 9 || c == 13 || c == 10 || c == 44
def bomL : List UInt8 := [239, 187, 191]
/-- What counts for nothing, dropped (but for remarks). -/
def hidG : Nat → List UInt8 → List UInt8
  | 0, l => l
  | _ + 1, [] => []
  | f + 1, c :: r => if hidC c then hidG f r else if bomL.isPrefixOf (c :: r) then hidG f ((c :: r).drop 3) else c :: r
def hid0 (l : List UInt8) : List UInt8 := hidG l.length l
def lineC (c : UInt8) : Bool := c != 10 && c != 13
def badC (c : UInt8) : Bool := decide (c.toNat < 32) && c != 9
/-- What counts for nothing, dropped; false: behind it stands what may not be. -/
def skipG : Nat → List UInt8 → List UInt8 × Bool
  | 0, l => (l, true)
  | f + 1, l => match hid0 l with
    | [] => ([], true)
    | c :: r => if c = 35 then
        (let ln := (c :: r).takeWhile lineC
         if ln.any badC then ((c :: r).drop (ln.takeWhile fun x => !badC x).length, false) else skipG f ((c :: r).dropWhile lineC))
      else (c :: r, true)
def skip0 (l : List UInt8) : List UInt8 × Bool := skipG (l.length + 1) l
def nameT (l : List UInt8) : Option (List UInt8) := let a := l.takeWhile nameC; if nameB a then some a else none
def numTk (l : List UInt8) : Option (List UInt8) :=
  let d := (body l).takeWhile isDig
  let r := (body l).dropWhile isDig
  if okDigits d && !((r.head?.map fun c => nameC c || c == 46).getD false) then some ((if below l then [45] else []) ++ d) else none
/-- Behind a quote, up to the next one that no backslash stands ahead of: the bytes, tabs as \\t; how many. -/
def scanT : Bool → List UInt8 → Option (List UInt8 × Nat)
  | _, [] => none
  | q, c :: r => if !q && c == 34 then some ([], 1) else
    (scanT (!q && c == 92) r).map fun x => ((if c == 9 && !q then [92, 116] else [c]) ++ x.1, x.2 + 1)
/-- What json.Read tells of any bytes. -/
def jsonT (l : List UInt8) : Except Int (List Cel) := if 16384 < l.length then .error 4 else if !validD l then .error 10 else readJ l
def txtT (l : List UInt8) : Option (List UInt8 × Nat) := match l with
  | [] => none
  | c :: r => if c ≠ 34 ∨ [34, 34, 34].isPrefixOf (c :: r) then none else match scanT false r with
    | none => none
    | some (b, n) => match jsonT (34 :: (b ++ [34])) with
      | .error _ => none
      | .ok v => some ((v.headD ⟨0, [], [], 0, 0⟩).text, n + 1)
def punT (l : List UInt8) : Option (List UInt8) := if [46, 46, 46].isPrefixOf l then some [46, 46, 46] else match l with
  | [] => none
  | c :: _ => if marksL.contains c then some [c] else none
/-- The token that stands at the beginning: its kind, its text, how many bytes it has. -/
def tokG (l : List UInt8) : Option (UInt8 × List UInt8 × Nat) := match nameT l with
  | some a => some (1, a, a.length)
  | none => match numTk l with
    | some a => some (2, a, a.length)
    | none => match txtT l with
      | some (a, n) => some (3, a, n)
      | none => (punT l).map fun a => (4, a, a.length)
/-- The tokens, so many at most; or the error, and where. -/
def lexG : Nat → Nat → List UInt8 → List Tok → Except (Int × Nat) (List Tok)
  | k, at_, l, acc => match skip0 l with
    | (l1, ok) =>
      let at1 := at_ + (l.length - l1.length)
      if !ok then .error (170, at1) else if l1.isEmpty then .ok (acc ++ [⟨0, [], (at1 : Int)⟩]) else match k with
        | 0 => .error (171, at1)
        | k + 1 => match tokG l1 with
          | none => .error (170, at1)
          | some (kd, tx, n) => lexG k (at1 + n) (l1.drop n) (acc ++ [⟨kd, tx, (at1 : Int)⟩])
def lex0 (l : List UInt8) : Except (Int × Nat) (List Tok) := if 16384 < l.length then .error (4, 0) else if !validD l then .error (10, 0) else lexG 1024 0 l []
end Go.Proofs.YtgaknbnhmoddcaaGreatDoor
namespace Go.Proofs.YtgaknbnhmoddcaaGreatDoor
open Go.Lib
def kt (t : Tok) : UInt8 × List UInt8 := (t.kind, t.text)
end Go.Proofs.YtgaknbnhmoddcaaGreatDoor
namespace Go.Proofs.YtgaknbnhmoddcaaGreatDoor
open Go.Lib
/-- A cell that was read, of so many bytes. -/
def OkO (n : Nat) (x : Cel) : Prop := (x.kind == 4 || x.kind == 5) = false ∧ R x.num ∧ R x.many ∧ x.text.length ≤ n
theorem OkO.mono {n m : Nat} {x : Cel} (h : OkO n x) (hm : n ≤ m) : OkO m x := ⟨h.1, h.2.1, h.2.2.1, Nat.le_trans h.2.2.2 hm⟩
end Go.Proofs.YtgaknbnhmoddcaaGreatDoor
namespace Go.Proofs.YtgaknbnhmoddcaaGreatDoor
open Go.RowKit
/-- The string's iterator stands at a place; nothing older has turned. -/
def It (s : ByteArray) (B i : Nat) (w W : World) : Prop := W.heap[B]? = some (.stringIter s i) ∧ B < W.heap.size ∧ Below B w W
theorem It.start (s : ByteArray) (w : World) : It s w.heap.size 0 w (w.iter s 0) := by
  refine ⟨heap_alloc_new w _, ?_, ?_⟩
  · unfold World.iter; simp
  · unfold World.iter; exact (Below.refl _ _).alloc (Nat.le_refl _) _
theorem It.step {s : ByteArray} {B i : Nat} {w W : World} (h : It s B i w W) (j : Nat) : It s B j w (W.iterAt B s j) :=
  ⟨Lib.iterAt_heap W B s i j h.1, by rw [Lib.iterAt_size]; exact h.2.1, Lib.below_iterAt h.2.2 (Nat.le_refl _) s j⟩
theorem It.below {s : ByteArray} {B i : Nat} {w W w1 : World} (h : It s B i w W) (hB : B = w.heap.size) (hb : Below W.heap.size W w1) : It s B i w w1 :=
  ⟨(hb.block _ h.2.1).trans h.1, Nat.lt_of_lt_of_le h.2.1 hb.size, h.2.2.trans (hb.mono (Nat.le_of_lt h.2.1))⟩
end Go.Proofs.YtgaknbnhmoddcaaGreatDoor
namespace Go.Proofs.YtgaknbnhmoddcaaGreatDoor
open Go.RowKit
def fr (ms l : List UInt8) : List UInt8 := l.takeWhile (ms.contains ·)
theorem fr_take (ms l : List UInt8) : l.take (fr ms l).length = fr ms l := by
  unfold fr
  induction l with
  | nil => rfl
  | cons a l ih =>
    rw [List.takeWhile_cons]
    split
    · simp only [List.length_cons, List.take_succ_cons]; rw [ih]
    · rfl
set_option maxRecDepth 100000 in
set_option maxHeartbeats 1000000 in
theorem front_any (s ms : ByteArray) (hs : s.size ≤ 1000000) (w : World) :
    Calls Tryz.prog 73 #[.string s, .string ms] w fun e w' => e = .returned (.string ⟨(fr ms.data.toList s.data.toList).toArray⟩) ∧ w = w' := by
  obtain ⟨R, hR⟩ : ∃ R, (fr ms.data.toList s.data.toList).length = R := ⟨_, rfl⟩
  have ht := fr_take ms.data.toList s.data.toList
  rw [hR] at ht
  have HT := Lib.hid ht
  have HR : Hid (0 + (fr ms.data.toList (s.data.toList.drop 0)).length = R) := Lib.hid (by rw [List.drop_zero, Nat.zero_add]; exact hR)
  rw [← ht]
  clear hR ht
  go_enter Tryz.func73, Tryz.ntmps73
  go_wp2_with fail
  go_loop [8] (fun i => ∃ k : Nat, k ≤ s.size ∧ i = .int .i64 k ∧ Hid (k + (fr ms.data.toList (s.data.toList.drop k)).length = R)) (fun i => s.size - (intOf i).toNat)
  case atStart => exact ⟨0, Nat.zero_le _, rfl, HR⟩
  case round =>
    obtain ⟨k, hk, rfl, HK⟩ := hrel
    by_cases hlt : k < s.size
    · have hd := drop_at s k hlt
      have H1 : ∀ w, Calls Tryz.prog 72 #[.string ms, .int .u8 (s[k].toNat : Int)] w fun e w' => e = .returned (.int .i64 (Lib.indexByte ms.data.toList s[k])) ∧ w = w' := fun w => by
        have := Tryz.strings_IndexByte ms (s[k].toNat : Int) w
        rw [show ((s[k].toNat : Int)).toNat.toUInt8 = s[k] by simp] at this
        exact this.mono fun e w' ⟨h1, h2⟩ => ⟨h1, h2.symm⟩
      have hf : fr ms.data.toList (s.data.toList.drop k) = if ms.data.toList.contains s[k] then s[k] :: fr ms.data.toList (s.data.toList.drop (k + 1)) else [] := by
        rw [hd]; unfold fr; rw [List.takeWhile_cons]
      rcases ib_cases s[k] ms.data.toList with ⟨g1, n, g2⟩ | ⟨g1, g2⟩
      · rw [g1] at hf
        rw [g2] at H1
        have HK2 : Hid (k + 1 + (fr ms.data.toList (s.data.toList.drop (k + 1))).length = R) := Lib.hid (by have := HK.out; rw [hf] at this; simp at this; omega)
        have HI := Lib.hid H1
        have hn : ¬ (n : Int) < 0 := by omega
        clear hf H1 g1 g2 hd
        go_wp2_with fail
        refine (HI.out _).mono ?_; rintro e w1 ⟨rfl, rfl⟩
        go_wp2_with fail
        go_round
        case rel => exact ⟨k + 1, by omega, by go_num, HK2⟩
        case measure => simp [intOf]; omega
      · rw [g1] at hf
        rw [g2] at H1
        have HK2 : Hid (k = R) := Lib.hid (by have := HK.out; rw [hf] at this; simpa using this)
        have HI := Lib.hid H1
        have b1 : (k : Int) ≤ s.size := by omega
        have b2 : (0 : Int) ≤ k := by omega
        have HX : Hid (s.extract 0 k = ⟨(s.data.toList.take R).toArray⟩) := Lib.hid (by
          rw [← HK2.out]
          apply ByteArray.ext
          apply Array.ext'
          rw [ByteArray.data_extract, Array.toList_extract, List.extract_eq_take_drop]
          simp)
        clear hf H1 g1 g2 hd
        go_wp2_with fail
        refine (HI.out _).mono ?_; rintro e w1 ⟨rfl, rfl⟩
        go_wp2_with fail
        go_ret
        exact ⟨congrArg (fun z : ByteArray => Ending.returned (Value.string z)) HX.out, rfl⟩
    · have HX : Hid (s = ⟨(s.data.toList.take R).toArray⟩) := Lib.hid (by
        have := HK.out
        rw [List.drop_of_length_le (by rw [Array.length_toList]; exact Nat.le_of_not_lt hlt)] at this
        have hRs : s.size ≤ R := by simp [fr] at this; omega
        rw [List.take_of_length_le (by rw [Array.length_toList]; exact hRs)])
      go_wp2_with fail
      go_ret
      exact ⟨congrArg (fun z : ByteArray => Ending.returned (Value.string z)) HX.out, rfl⟩
end Go.Proofs.YtgaknbnhmoddcaaGreatDoor
namespace Go.Proofs.YtgaknbnhmoddcaaGreatDoor
open Go.RowKit
theorem fr_all (ms l : List UInt8) : (fr ms l == l) = l.all (ms.contains ·) := by
  unfold fr
  induction l with
  | nil => rfl
  | cons a l ih =>
    rw [List.takeWhile_cons, List.all_cons]
    cases ms.contains a with
    | true => simpa using ih
    | false => rfl
set_option maxRecDepth 100000 in
set_option maxHeartbeats 1000000 in
theorem lname_any (s : ByteArray) (hs : s.size ≤ 1000000) (w : World) :
    Calls Tryz.prog 38 #[.string s] w fun e w' => e = .returned (.bool (nameB s.data.toList)) ∧ w = w' := by
  rcases empty_z s with ⟨h0, h1, h2, h3⟩ | ⟨h0, h1, h2, h3⟩
  · have hr : nameB s.data.toList = (!isDig s[0] && (fr nameMs s.data.toList == s.data.toList)) := by
      rw [fr_all, show (nameMs.contains ·) = nameC from funext name_ms]
      have := head_z s h0
      rw [this]; rfl
    have H1 : ∀ w, Calls Tryz.prog 72 #[.string ⟨#[48, 49, 50, 51, 52, 53, 54, 55, 56, 57]⟩, .int .u8 (s[0].toNat : Int)] w fun e w' => e = .returned (.int .i64 (if isDig s[0] then ((s[0].toNat - 48 : Nat) : Int) else -1)) ∧ w = w' := fun w => by
      have := Tryz.strings_IndexByte ⟨#[48, 49, 50, 51, 52, 53, 54, 55, 56, 57]⟩ (s[0].toNat : Int) w
      rw [show ((s[0].toNat : Int)).toNat.toUInt8 = s[0] by simp, ib_dig] at this
      exact this.mono fun e w' ⟨h1, h2⟩ => ⟨h1, h2.symm⟩
    have H2 := Lib.hid (fun w => front_any s ⟨nameMs.toArray⟩ hs w)
    obtain ⟨r, hr2⟩ : ∃ r, nameB s.data.toList = r := ⟨_, rfl⟩
    rw [hr2]
    rw [hr2] at hr
    obtain ⟨F, hF⟩ : ∃ F : ByteArray, (⟨(fr (⟨nameMs.toArray⟩ : ByteArray).data.toList s.data.toList).toArray⟩ : ByteArray) = F := ⟨_, rfl⟩
    rw [hF] at H2
    have hc : (F.toList == s.toList) = (fr nameMs s.data.toList == s.data.toList) := by rw [← hF, ByteArray.toList_eq, ByteArray.toList_eq]
    rw [← hc] at hr
    have HR := Lib.hid hr
    unfold nameMs at H2
    clear hr hr2 hF hc
    cases hd : isDig s[0] with
    | true =>
      rw [hd] at H1 HR
      simp only [if_true] at H1
      have HI := Lib.hid H1
      have HF : Hid (false = r) := Lib.hid (by rw [HR.out]; rfl)
      clear H1 HR hd
      generalize s[0].toNat - 48 = n at *
      have hn : ¬ (n : Int) < 0 := by omega
      go_enter Tryz.func38, Tryz.ntmps38
      go_wp2_with fail
      refine (HI.out _).mono ?_; rintro e w1 ⟨rfl, rfl⟩
      go_wp2_with fail
      go_ret
      exact ⟨ret_b HF.out, rfl⟩
    | false =>
      rw [hd] at H1 HR
      simp only [Bool.false_eq_true, if_false] at H1
      have HI := Lib.hid H1
      have HF : Hid ((F.toList == s.toList) = r) := Lib.hid (by rw [HR.out]; rfl)
      clear H1 HR hd
      go_enter Tryz.func38, Tryz.ntmps38
      go_wp2_with fail
      refine (HI.out _).mono ?_; rintro e w1 ⟨rfl, rfl⟩
      go_wp2_with fail
      refine (H2.out _).mono ?_; rintro e w1 ⟨rfl, rfl⟩
      go_wp2_with fail
      go_ret
      exact ⟨ret_b HF.out, rfl⟩
  · have hr : nameB s.data.toList = false := by rw [h3]; rfl
    rw [hr]
    clear h0 h3 hr
    go_enter Tryz.func38, Tryz.ntmps38
    go_wp2_with fail
    go_ret
    exact ⟨rfl, rfl⟩
end Go.Proofs.YtgaknbnhmoddcaaGreatDoor
namespace Go.Proofs.YtgaknbnhmoddcaaGreatDoor
open Go.Lib
/-- What is left, and no line end ahead of it. -/
def Nl (l t : List UInt8) : Prop := ∃ u, l = u ++ t ∧ ∀ c ∈ u, c ≠ 10
theorem Nl.refl (l : List UInt8) : Nl l l := ⟨[], rfl, fun c h => by cases h⟩
theorem Nl.trans {l t v : List UInt8} (h : Nl l t) (h' : Nl t v) : Nl l v := by
  obtain ⟨u, rfl, hu⟩ := h
  obtain ⟨w, rfl, hw⟩ := h'
  refine ⟨u ++ w, by rw [List.append_assoc], fun c hc => ?_⟩
  rcases List.mem_append.1 hc with hc | hc
  · exact hu c hc
  · exact hw c hc
theorem Nl.one {c : UInt8} {r : List UInt8} (h : c ≠ 10) : Nl (c :: r) r := ⟨[c], rfl, fun x hx => by rw [List.mem_singleton] at hx; subst hx; exact h⟩
end Go.Proofs.YtgaknbnhmoddcaaGreatDoor
namespace Go.Proofs.YtgaknbnhmoddcaaGreatDoor
open Go.RowKit
/-- Nothing bad so far. -/
def Good (R : List UInt8) (k : Nat) : Prop := (R.take k).any badC = false
theorem Good.step {R : List UInt8} {k : Nat} (h : Good R k) (hk : k < R.length) (hb : badC R[k] = false) : Good R (k + 1) := by
  unfold Good at *
  rw [List.take_succ_eq_append_getElem hk, List.any_append, h]
  simp [hb]
end Go.Proofs.YtgaknbnhmoddcaaGreatDoor
namespace Go.Proofs.YtgaknbnhmoddcaaGreatDoor
open Go.Lib
/-- So far: what has been put, whether a backslash stands ahead, what is left, how many bytes have been passed. -/
def Sc (r pre : List UInt8) (q : Bool) (t : List UInt8) (k : Nat) : Prop := scanT false r = (scanT q t).map fun x => (pre ++ x.1, x.2 + k)
theorem Sc.start (r : List UInt8) : Sc r [] false r 0 := by
  unfold Sc
  cases scanT false r <;> simp
theorem Sc.step {r pre t : List UInt8} {q : Bool} {c : UInt8} {k : Nat} (h : Sc r pre q (c :: t) k) (hc : (!q && c == 34) = false) :
    Sc r (pre ++ (if c == 9 && !q then [92, 116] else [c])) (!q && c == 92) t (k + 1) := by
  unfold Sc at *
  rw [h, scanT, hc]
  simp only [Bool.false_eq_true, if_false, Option.map_map]
  cases scanT (!q && c == 92) t with
  | none => rfl
  | some x =>
    simp only [Option.map_some, Function.comp]
    rw [List.append_assoc, Nat.add_assoc, Nat.add_comm 1 k]
end Go.Proofs.YtgaknbnhmoddcaaGreatDoor
namespace Go.Proofs.YtgaknbnhmoddcaaGreatDoor
open Go.RowKit
def rdErr (o : Except Int (List Cel)) : Int := match o with | .error e => e | .ok _ => 0
def rdOut (o : Except Int (List Cel)) : List Cel := match o with | .error _ => [] | .ok l => l
theorem CelSl.nil (W : World) : CelSl (.slice none 0 0) [] W := (OwnC.nil 0 W).sl
theorem PReadE.sl {B : Nat} {o : Except Int (List Cel)} {x : Ending} {W : World} (h : PReadE B o x W) : (rdOut o).length ≤ 2048 ∧ ∃ u, x = .returned (.tuple #[u, .int .i64 (rdErr o)]) ∧ CelSl u (rdOut o) W := by
  cases o with
  | error e => exact ⟨by simp [rdOut], _, h, CelSl.nil W⟩
  | ok out => obtain ⟨h1, u, h2, h3⟩ := h; exact ⟨h1, u, h2, h3.sl⟩
end Go.Proofs.YtgaknbnhmoddcaaGreatDoor
namespace Go.Proofs.YtgaknbnhmoddcaaGreatDoor
open Go.RowKit
/-- A builder in block b that holds these bytes. -/
def Bld (B b : Nat) (l : List UInt8) (w : World) : Prop := Lib.IsBuilder 261 5 B b (Lib.byteCells l) w
theorem wdone (B b : Nat) (l : List UInt8) (w : World) (h : Bld B b l w) (hBw : B ≤ w.heap.size) :
    Calls Tryz.prog 207 #[.pointer (some ⟨b, 0, none⟩)] w fun e w' => e = .returned (.string ⟨l.toArray⟩) ∧ Below B w w' :=
  Tryz.Builder_String_any B b l w h hBw
end Go.Proofs.YtgaknbnhmoddcaaGreatDoor
namespace Go.Proofs.YtgaknbnhmoddcaaGreatDoor
open Go.RowKit
/-- While a text is read: the token's cells, the builder. -/
structure TX (w : World) (pre : List UInt8) (W : World) : Prop where
  ht : W.heap[w.heap.size + 1]? = some (.cells #[.int .u8 0, .string ⟨#[]⟩, .int .i64 0] 72 (0, 0))
  hb : Bld (w.heap.size + 2) (w.heap.size + 2) pre W
  bel : Below w.heap.size w W
  sz : w.heap.size + 2 ≤ W.heap.size
theorem TX.step {w W W' : World} {pre pre' : List UInt8} (h : TX w pre W) (hb : Bld (w.heap.size + 2) (w.heap.size + 2) pre' W') (h1 : Below (w.heap.size + 2) W W') : TX w pre' W' :=
  ⟨(h1.block _ (by omega)).trans h.ht, hb, h.bel.trans (h1.mono (by omega)), Nat.le_trans h.sz h1.size⟩
theorem TX.start (w : World) : TX w [] (((w.alloc (.cells #[] 99)).alloc (.cells #[.int .u8 0, .string ⟨#[]⟩, .int .i64 0] 72)).alloc (.cells #[.pointer none, .slice none 0 0] 261)) := by
  refine ⟨?_, ?_, ?_, by simp⟩
  · exact heap_old (heap_new _ _ _ (by simp))
  · exact Or.inl ⟨by omega, .slice none 0 0, heap_new _ _ _ (by simp), World.ownsRow_nil _ _ _ _, by simp [Value.ownBlock]⟩
  · exact (((Below.refl _ _).alloc (Nat.le_refl _) _).alloc (by simp) _).alloc (by simp; omega) _
/-- The token's cells, and nothing older has turned. -/
structure TZ (w : World) (A : Array Value) (W : World) : Prop where
  ht : W.heap[w.heap.size + 1]? = some (.cells A 72 (0, 0))
  bel : Below w.heap.size w W
theorem TZ.step {w W W' : World} {A : Array Value} (h : TZ w A W) (hb : Below W.heap.size W W') : TZ w A W' := ⟨(hb.block _ (heap_lt h.ht)).trans h.ht, h.bel.trans (hb.mono h.bel.size)⟩
theorem TX.done {w W : World} {pre : List UInt8} (h : TX w pre W) : Calls Tryz.prog 207 #[.pointer (some ⟨w.heap.size + 1 + 1, 0, none⟩)] W fun e w' => e = .returned (.string ⟨pre.toArray⟩) ∧ TZ w #[.int .u8 0, .string ⟨#[]⟩, .int .i64 0] w' :=
  (wdone (w.heap.size + 2) (w.heap.size + 2) pre W h.hb h.sz).mono fun e w' ⟨h1, h2⟩ => ⟨h1, (h2.block _ (by omega)).trans h.ht, h.bel.trans (h2.mono (by omega))⟩
end Go.Proofs.YtgaknbnhmoddcaaGreatDoor
namespace Go.Proofs.YtgaknbnhmoddcaaGreatDoor
open Go.RowKit
/-- What Lex holds: its fuel, its readers, the tokens so far. -/
structure LX (w : World) (F f : Nat) (v : Value) (L : List Tok) (W : World) : Prop where
  hf : W.heap[F]? = some (.cells #[.int .i32 (f : Int)] 96 (0, 0))
  ha : W.heap[F + 1]? = some (.cells #[.iface 97 (.agg #[]), .iface 98 (.agg #[]), .iface 99 (.agg #[]), .iface 100 (.agg #[])] 106 (0, 0))
  own : OwnT (F + 2) v L W
  bel : Below w.heap.size w W
  le : w.heap.size ≤ F
section
variable {w W W' : World} {F f : Nat} {v v' : Value} {L L' : List Tok}
theorem LX.lt (h : LX w F f v L W) : F + 1 < W.heap.size := heap_lt h.ha
theorem LX.below (h : LX w F f v L W) (hb : Below W.heap.size W W') : LX w F f v L W' :=
  ⟨(hb.block _ (heap_lt h.hf)).trans h.hf, (hb.block _ (heap_lt h.ha)).trans h.ha, h.own.below hb, h.bel.trans (hb.mono h.bel.size), h.le⟩
theorem own_at {B b : Nat} (h : OwnT B v L W) (u : Value) (i : Nat) (hne : v.ownBlock ≠ some b) : OwnT B v L (W.setCell ⟨b, i, none⟩ u) := by
  obtain ⟨h1, h2⟩ := h
  refine ⟨h1, ?_⟩
  rcases h2 with h2 | ⟨g, cap, cur, hv, hB, hg, hrest⟩
  · exact Or.inl h2
  · refine Or.inr ⟨g, cap, cur, hv, hB, ?_, hrest⟩
    rw [Below.heap_setCell _ _ _ _ (show g ≠ b from fun e => hne (by rw [hv, ← e]; rfl))]
    exact hg
theorem LX.set {b : Nat} (h : LX w F f v L W) (i : Nat) (u : Value) (hb : F + 2 ≤ b) (hne : v.ownBlock ≠ some b) : LX w F f v L (W.setCell ⟨b, i, none⟩ u) := by
  refine ⟨?_, ?_, own_at h.own _ _ hne, h.bel.setCell (p := ⟨b, i, none⟩) (by have := h.le; show w.heap.size ≤ b; omega) _, h.le⟩
  · rw [Below.heap_setCell _ _ _ _ (show F ≠ b by omega)]; exact h.hf
  · rw [Below.heap_setCell _ _ _ _ (show F + 1 ≠ b by omega)]; exact h.ha
theorem LX.grown (h : LX w F f v L W) (ho : OwnT (F + 2) v' L' W') (hg : W.grownBy W' v.ownBlock) : LX w F f v' L' W' := by
  have hlt := h.lt
  refine ⟨?_, ?_, ho, ?_, h.le⟩
  · rw [hg.block F (by omega) (fun e => by have := h.own.lt F e.symm; omega)]; exact h.hf
  · rw [hg.block (F + 1) (by omega) (fun e => by have := h.own.lt (F + 1) e.symm; omega)]; exact h.ha
  · exact h.bel.grown hg h.bel.size (fun k hk => by have := h.own.lt k hk; have := h.le; omega)
end
end Go.Proofs.YtgaknbnhmoddcaaGreatDoor
namespace Go.Proofs.YtgaknbnhmoddcaaGreatDoor
open Go.Lib
/-- Are these a text's tokens, and is its end where the text ends? -/
def isL (l : List UInt8) (want : List (UInt8 × List UInt8)) : Bool := match lex0 l with
  | .error _ => false
  | .ok L => L.map kt == want ++ [(0, [])] && (L.getLastD ⟨0, [], -1⟩).pos == (l.length : Int)
end Go.Proofs.YtgaknbnhmoddcaaGreatDoor
namespace Go.Proofs.YtgaknbnhmoddcaaGreatDoor
open Go.RowKit
set_option maxRecDepth 100000 in
theorem rsame17_len (v1 v2 : Option Addr) (c1 c2 : Nat) (at_ : Bool) (n m : Nat) (hn : n ≤ 100000) (hm : m ≤ 100000) (hne : n ≠ m) (w : World) :
    Calls Tryz.prog 19 #[.slice v1 n c1, .slice v2 m c2, .bool at_] w fun e w' => e = .returned (.bool false) ∧ Below w.heap.size w w' := by
  have h1 : ((n : Int) != (m : Int)) = true := by rw [bne_iff_ne]; omega
  clear hne
  go_enter Tryz.func19, Tryz.ntmps19
  go_wp2_with fail
  go_ret
  exact ⟨rfl, Below.refl _ _⟩
set_option maxRecDepth 100000 in
set_option maxHeartbeats 1000000 in
theorem rsame17_row (L M : List Tok) (b1 o1 c1 b2 o2 c2 : Nat) (at_ : Bool) (hl : L.length ≤ 100000) (hlm : L.length = M.length) (w : World) (h1 : TokRow b1 o1 L w) (h2 : TokRow b2 o2 M w) :
    Calls Tryz.prog 19 #[.slice (some ⟨b1, o1, none⟩) L.length c1, .slice (some ⟨b2, o2, none⟩) L.length c2, .bool at_] w fun e w' => e = .returned (.bool (sameT at_ L M)) ∧ Below w.heap.size w w' := by
  have H1 := Lib.hid h1
  have H2 := Lib.hid h2
  have HM := Lib.hid hlm
  obtain ⟨r, hr⟩ : ∃ r, sameT at_ L M = r := ⟨_, rfl⟩
  have HR : Hid (sameT at_ (L.drop 0) (M.drop 0) = r) := Lib.hid hr
  rw [hr]
  clear hr h1 h2 hlm
  have hnn : ((L.length : Int) != (L.length : Int)) = false := by rw [bne_eq_false_iff_eq]
  go_enter Tryz.func19, Tryz.ntmps19
  go_wp2_with fail
  go_loopw [7] (fun i wr => ∃ k : Nat, k ≤ L.length ∧ i = .int .i64 k ∧ Hid (sameT at_ (L.drop k) (M.drop k) = r) ∧ Hid (Below w.heap.size w wr)) (fun i wr => L.length - (intOf i).toNat)
  case atStart => exact ⟨0, Nat.zero_le _, rfl, HR, Lib.hid (Below.refl _ _)⟩
  case round =>
    rename World => wr
    obtain ⟨k, hk, rfl, HS, HB⟩ := hrel
    by_cases hlt : k < L.length
    · have hltm : k < M.length := by rw [← HM.out]; exact hlt
      obtain ⟨a0, a1, a2⟩ := (H1.out.below' HB.out) k hlt
      obtain ⟨d0, d1, d2⟩ := (H2.out.below' HB.out) k hltm
      have hstep := HS.out
      rw [sameT_drop _ _ _ k hlt hltm] at hstep
      have hP : sameP at_ L[k] M[k] = (L[k].kind == M[k].kind && L[k].text == M[k].text && (!at_ || L[k].pos == M[k].pos)) := rfl
      generalize sameP at_ L[k] M[k] = sp at *
      have hkk : ((L[k].kind.toNat : Int) = (M[k].kind.toNat : Int)) ↔ L[k].kind = M[k].kind := by
        constructor
        · intro h; exact UInt8.toNat_inj.1 (by omega)
        · intro h; rw [h]
      generalize (L[k].kind.toNat : Int) = ka at *
      generalize (M[k].kind.toNat : Int) = kb at *
      generalize L[k].pos = pa at *
      generalize M[k].pos = pb at *
      have hxl : (⟨L[k].text.toArray⟩ : ByteArray).toList = L[k].text := by rw [ByteArray.toList_eq]
      have hyl : (⟨M[k].text.toArray⟩ : ByteArray).toList = M[k].text := by rw [ByteArray.toList_eq]
      generalize (⟨L[k].text.toArray⟩ : ByteArray) = x at *
      generalize (⟨M[k].text.toArray⟩ : ByteArray) = y at *
      by_cases e0 : L[k].kind = M[k].kind
      · have q0 : (ka != kb) = false := by rw [bne_eq_false_iff_eq]; exact hkk.2 e0
        by_cases e1 : L[k].text = M[k].text
        · have q1 : (x.toList != y.toList) = false := by rw [hxl, hyl, bne_eq_false_iff_eq]; exact e1
          have q1' : (x.toList == y.toList) = true := by rw [hxl, hyl]; exact beq_iff_eq.2 e1
          cases at_ with
          | false =>
            have HS2 : Hid (sameT false (L.drop (k + 1)) (M.drop (k + 1)) = r) := Lib.hid (by rw [← hstep, hP, beq_iff_eq.2 e0, beq_iff_eq.2 e1]; rfl)
            clear hstep hP hkk hxl hyl e0 e1 HS
            go_wp2_with fail
            go_quiet (fail)
            go_wp2_with fail
            go_roundw
            case rel => exact ⟨k + 1, by omega, by go_num, HS2, Lib.hid (below_dN _ HB.out)⟩
            case measure => simp [intOf]; omega
          | true =>
            by_cases e2 : pa = pb
            · have q2 : (pa != pb) = false := by rw [bne_eq_false_iff_eq]; exact e2
              have HS2 : Hid (sameT true (L.drop (k + 1)) (M.drop (k + 1)) = r) := Lib.hid (by rw [← hstep, hP, beq_iff_eq.2 e0, beq_iff_eq.2 e1, beq_iff_eq.2 e2]; rfl)
              clear hstep hP hkk hxl hyl e0 e1 e2 HS
              go_wp2_with fail
              go_quiet (fail)
              go_wp2_with fail
              go_roundw
              case rel => exact ⟨k + 1, by omega, by go_num, HS2, Lib.hid (below_dN _ HB.out)⟩
              case measure => simp [intOf]; omega
            · have q2 : (pa != pb) = true := by rw [bne_iff_ne]; exact e2
              have HF : Hid (false = r) := Lib.hid (by rw [← hstep, hP, beq_eq_false_iff_ne.2 e2]; simp)
              clear hstep hP hkk hxl hyl e0 e1 e2 HS
              go_wp2_with fail
              go_quiet (fail)
              go_wp2_with fail
              go_ret
              exact ⟨ret_b HF.out, below_dN _ HB.out⟩
        · have q1 : (x.toList != y.toList) = true := by rw [hxl, hyl, bne_iff_ne]; exact e1
          have q1' : (x.toList == y.toList) = false := by rw [hxl, hyl]; exact beq_eq_false_iff_ne.2 e1
          have HF : Hid (false = r) := Lib.hid (by rw [← hstep, hP, beq_eq_false_iff_ne.2 e1]; simp)
          clear hstep hP hkk hxl hyl e0 e1 HS
          go_wp2_with fail
          go_quiet (fail)
          go_wp2_with fail
          go_ret
          exact ⟨ret_b HF.out, below_dN _ HB.out⟩
      · have q0 : (ka != kb) = true := by rw [bne_iff_ne]; exact fun h => e0 (hkk.1 h)
        have HF : Hid (false = r) := Lib.hid (by rw [← hstep, hP, beq_eq_false_iff_ne.2 e0]; simp)
        clear hstep hP hkk hxl hyl e0 HS
        go_wp2_with fail
        go_quiet (fail)
        go_wp2_with fail
        go_ret
        exact ⟨ret_b HF.out, below_dN _ HB.out⟩
    · have HF : Hid (true = r) := Lib.hid (by
        have hm : M.length = L.length := HM.out.symm
        rw [← HS.out, List.drop_of_length_le (by omega), List.drop_of_length_le (by omega)]; rfl)
      clear HS
      go_wp2_with fail
      go_ret
      exact ⟨ret_b HF.out, HB.out⟩
set_option maxRecDepth 100000 in
theorem rsame17_none (c1 : Nat) (a : Option Addr) (v : Option Addr) (c2 : Nat) (at_ : Bool) (w : World) :
    Calls Tryz.prog 19 #[.slice a 0 c1, .slice v 0 c2, .bool at_] w fun e w' => e = .returned (.bool true) ∧ Below w.heap.size w w' := by
  go_enter Tryz.func19, Tryz.ntmps19
  go_wp2_with fail
  refine wp_loop_rounds 1 ?_; rw [rounds_succ]
  go_wp2_with fail
  go_ret
  exact ⟨rfl, Below.refl _ _⟩
theorem rsame17_any (L M : List Tok) (u v : Value) (at_ : Bool) (hl : L.length ≤ 100000) (hm : M.length ≤ 100000) (w : World) (h1 : TokSl u L w) (h2 : TokSl v M w) :
    Calls Tryz.prog 19 #[u, v, .bool at_] w fun e w' => e = .returned (.bool (sameT at_ L M)) ∧ Below w.heap.size w w' := by
  by_cases hlm : L.length = M.length
  · rcases h1 with ⟨a1, c1, rfl, rfl, _⟩ | ⟨b1, o1, c1, rfl, h1⟩
    · obtain rfl : M = [] := List.eq_nil_of_length_eq_zero hlm.symm
      rcases h2 with ⟨a2, c2, rfl, _, _⟩ | ⟨b2, o2, c2, rfl, h2⟩
      · exact rsame17_none c1 a1 a2 c2 _ w
      · exact rsame17_none c1 a1 _ c2 _ w
    · rcases h2 with ⟨a2, c2, rfl, rfl, _⟩ | ⟨b2, o2, c2, rfl, h2⟩
      · obtain rfl : L = [] := List.eq_nil_of_length_eq_zero hlm
        exact rsame17_none c1 _ a2 c2 _ w
      · rw [← hlm]
        exact rsame17_row L M b1 o1 c1 b2 o2 c2 at_ hl hlm w h1 h2
  · rw [sameT_len _ _ _ hlm]
    rcases h1 with ⟨a1, c1, rfl, rfl, _⟩ | ⟨b1, o1, c1, rfl, h1⟩
    · rcases h2 with ⟨a2, c2, rfl, rfl, _⟩ | ⟨b2, o2, c2, rfl, h2⟩
      · exact absurd rfl hlm
      · exact rsame17_len a1 _ _ _ at_ 0 _ (by omega) hm hlm w
    · rcases h2 with ⟨a2, c2, rfl, rfl, _⟩ | ⟨b2, o2, c2, rfl, h2⟩
      · exact rsame17_len _ a2 _ _ at_ _ 0 hl (by omega) hlm w
      · exact rsame17_len _ _ _ _ at_ _ _ hl hm hlm w
end Go.Proofs.YtgaknbnhmoddcaaGreatDoor
namespace Go.Proofs.YtgaknbnhmoddcaaGreatDoor
open Go.RowKit
theorem OwnT.form {B : Nat} {v : Value} {L : List Tok} {W : World} (h : OwnT B v L W) : ∃ a n c, v = .slice a n c ∧ n = L.length := by
  rcases h.2 with ⟨h1, h2⟩ | ⟨g, cap, cur, hv, _⟩
  · exact ⟨none, 0, 0, h1, h2.symm⟩
  · exact ⟨_, _, _, hv, rfl⟩
/-- A slice of the call's own stays when another one grows. -/
theorem OwnT.other {B : Nat} {v : Value} {L : List Tok} {W W' : World} {r : Option Nat} (h : OwnT B v L W) (hg : W.grownBy W' r) (hne : ∀ k, v.ownBlock = some k → r ≠ some k) : OwnT B v L W' := by
  obtain ⟨h1, h2⟩ := h
  refine ⟨h1, ?_⟩
  rcases h2 with h2 | ⟨g, cap, cur, hv, hB, hgg, hrest⟩
  · exact Or.inl h2
  · refine Or.inr ⟨g, cap, cur, hv, hB, ?_, hrest⟩
    rw [hg.block g (heap_lt hgg) (fun e => hne g (by rw [hv]; rfl) e.symm)]
    exact hgg
end Go.Proofs.YtgaknbnhmoddcaaGreatDoor
namespace Go.Proofs.YtgaknbnhmoddcaaGreatDoor
open Go.Lib
def wordsK : List (List UInt8) := [[110, 117, 108, 108], [116, 114, 117, 101], [102, 97, 108, 115, 101]]
/-- May a literal be? -/
def litB (V : List Cel) : Bool := mayB V && V.all fun c => (c.name.isEmpty || nameB c.name) && !(c.kind == 4 && wordsK.contains c.text)
end Go.Proofs.YtgaknbnhmoddcaaGreatDoor
namespace Go.Proofs.YtgaknbnhmoddcaaGreatDoor
open Go.RowKit
/-- Are cells more than a statement goes through? -/
def greatV (V : List Cel) (most : Nat) : Bool := (V.take most).any (fun c => decide (300 < c.name.length) || decide (3000 < c.text.length)) || decide (most < V.length)
set_option maxRecDepth 100000 in
set_option maxHeartbeats 1000000 in
theorem rgreat03_row (V : List Cel) (most b off cap : Nat) (hl : V.length ≤ 9223372036854775807) (hm : most ≤ 100000) (w : World) (hr : CelRow b off V w) (hsz : ∀ c ∈ V, c.name.length ≤ 9223372036854775807 ∧ c.text.length ≤ 9223372036854775807) :
    Calls Tryz.prog 7 #[.slice (some ⟨b, off, none⟩) V.length cap, .int .i64 (most : Int)] w fun e w' => e = .returned (.bool (greatV V most)) ∧ w = w' := by
  have HT := Lib.hid hr
  have HZ := Lib.hid hsz
  obtain ⟨r, hr2⟩ : ∃ r, greatV V most = r := ⟨_, rfl⟩
  have HR : Hid ((((V.drop 0).take (most - 0)).any (fun c => decide (300 < c.name.length) || decide (3000 < c.text.length)) || decide (most < V.length)) = r) := Lib.hid hr2
  rw [hr2]
  clear hr hr2 hsz
  go_enter Tryz.func7, Tryz.ntmps7
  go_wp2_with fail
  go_loop [5] (fun i => ∃ k : Nat, k ≤ V.length ∧ k ≤ most ∧ i = .int .i64 k ∧ Hid ((((V.drop k).take (most - k)).any (fun c => decide (300 < c.name.length) || decide (3000 < c.text.length)) || decide (most < V.length)) = r)) (fun i => V.length - (intOf i).toNat)
  case atStart => exact ⟨0, Nat.zero_le _, Nat.zero_le _, rfl, HR⟩
  case round =>
    obtain ⟨k, hk, hkm, rfl, HS⟩ := hrel
    by_cases hlt : k < V.length ∧ k < most
    · obtain ⟨hlt, hltm⟩ := hlt
      obtain ⟨_, c1, c2, _⟩ := HT.out k hlt
      obtain ⟨z1, z2⟩ := HZ.out V[k] (List.getElem_mem _)
      have hstep := HS.out
      rw [List.drop_eq_getElem_cons hlt, show most - k = (most - (k + 1)) + 1 from by omega, List.take_succ_cons, List.any_cons] at hstep
      have hx : (⟨V[k].name.toArray⟩ : ByteArray).size = V[k].name.length := by show V[k].name.toArray.size = _; simp
      have hy : (⟨V[k].text.toArray⟩ : ByteArray).size = V[k].text.length := by show V[k].text.toArray.size = _; simp
      rw [← hx] at hstep z1
      rw [← hy] at hstep z2
      clear hx hy
      generalize (⟨V[k].name.toArray⟩ : ByteArray) = x at *
      generalize (⟨V[k].text.toArray⟩ : ByteArray) = y at *
      by_cases hbig : 300 < x.size ∨ 3000 < y.size
      · have HF : Hid (true = r) := Lib.hid (by
          rw [← hstep]
          rcases hbig with h | h <;> simp [h])
        have hbig2 := hbig
        clear hstep HS
        rcases hbig with h | h
        · clear hbig2
          go_wp2_with fail
          go_ret
          exact ⟨ret_b HF.out, rfl⟩
        · clear hbig2
          go_wp2_with fail
          all_goals
            go_ret
            exact ⟨ret_b HF.out, rfl⟩
      · have h1 : x.size ≤ 300 := by omega
        have h2 : y.size ≤ 3000 := by omega
        have e1 : decide (300 < x.size) = false := decide_eq_false (by omega)
        have e2 : decide (3000 < y.size) = false := decide_eq_false (by omega)
        rw [e1, e2, Bool.or_false, Bool.false_or] at hstep
        have HF := Lib.hid hstep
        clear hstep HS hbig
        go_wp2_with fail
        go_round
        case rel => exact ⟨k + 1, by omega, by omega, by go_num, HF⟩
        case measure => simp [intOf]; omega
    · have HF : Hid (decide (most < V.length) = r) := Lib.hid (by
        have := HS.out
        by_cases h : k < V.length
        · rw [show most - k = 0 from by omega, List.take_zero] at this
          simpa using this
        · rw [List.drop_of_length_le (by omega), List.take_nil] at this
          simpa using this)
      clear HS
      by_cases h : k < V.length
      · have h2 : ¬ k < most := by omega
        clear hlt
        go_wp2_with fail
        go_ret
        exact ⟨ret_b HF.out, rfl⟩
      · clear hlt
        go_wp2_with fail
        go_ret
        exact ⟨ret_b HF.out, rfl⟩
set_option maxRecDepth 100000 in
theorem rgreat03_none (a : Option Addr) (cap most : Nat) (hm : most ≤ 100000) (w : World) :
    Calls Tryz.prog 7 #[.slice a 0 cap, .int .i64 (most : Int)] w fun e w' => e = .returned (.bool (greatV [] most)) ∧ w = w' := by
  have hr : Hid (greatV [] most = false) := Lib.hid (by unfold greatV; simp)
  go_enter Tryz.func7, Tryz.ntmps7
  go_wp2_with fail
  refine wp_loop_rounds 1 ?_; rw [rounds_succ]
  go_wp2_with fail
  go_ret
  exact ⟨ret_b hr.out.symm, rfl⟩
theorem rgreat03_any (V : List Cel) (v : Value) (most : Nat) (hl : V.length ≤ maxLen) (hm : most ≤ 100000) (w : World) (hv : CelSl v V w) (hsz : ∀ c ∈ V, c.name.length ≤ maxLen ∧ c.text.length ≤ maxLen) :
    Calls Tryz.prog 7 #[v, .int .i64 (most : Int)] w fun e w' => e = .returned (.bool (greatV V most)) ∧ w = w' := by
  unfold maxLen at *
  rcases hv with ⟨a, c, rfl, rfl, _⟩ | ⟨b, off, cap, rfl, hrow, hpos⟩
  · exact rgreat03_none a c most hm w
  · exact rgreat03_row V most b off cap hl hm w hrow hsz
def eqC (a c : Cel) : Bool := a.kind == c.kind && (a.name == c.name && (a.text == c.text && (a.num == c.num && a.many == c.many)))
def sameV : List Cel → List Cel → Bool
  | [], [] => true
  | a :: r, c :: s => eqC a c && sameV r s
  | _, _ => false
theorem sameV_len : ∀ (L M : List Cel), L.length ≠ M.length → sameV L M = false
  | [], [], h => absurd rfl h
  | [], _ :: _, _ => rfl
  | _ :: _, [], _ => rfl
  | t :: r, u :: s, h => by
    rw [sameV, sameV_len r s (by simpa using h), Bool.and_false]
theorem eqC_iff (a c : Cel) : eqC a c = true ↔ a = c := by
  obtain ⟨k, n, t, i, m⟩ := a
  obtain ⟨k', n', t', i', m'⟩ := c
  unfold eqC
  simp
theorem sameV_iff : ∀ (L M : List Cel), sameV L M = true ↔ L = M
  | [], [] => by simp [sameV]
  | [], _ :: _ => by simp [sameV]
  | _ :: _, [] => by simp [sameV]
  | t :: r, u :: s => by
    rw [sameV, Bool.and_eq_true, eqC_iff, sameV_iff r s]; simp
theorem sameV_drop (L M : List Cel) (k : Nat) (h : k < L.length) (h' : k < M.length) : sameV (L.drop k) (M.drop k) = (eqC L[k] M[k] && sameV (L.drop (k + 1)) (M.drop (k + 1))) := by
  rw [List.drop_eq_getElem_cons h, List.drop_eq_getElem_cons h', sameV]
theorem eqC_no (a c : Cel) (h : ¬ (a.kind.toNat : Int) = (c.kind.toNat : Int) ∨ ¬ a.name = c.name ∨ ¬ a.text = c.text ∨ ¬ a.num = c.num ∨ ¬ a.many = c.many) : eqC a c = false := by
  rw [Bool.eq_false_iff]
  intro e
  have := (eqC_iff a c).1 e
  subst this
  simp at h
set_option maxRecDepth 100000 in
theorem rsame03_len (v1 v2 : Option Addr) (c1 c2 : Nat) (n m : Nat) (hn : n ≤ 100000) (hm : m ≤ 100000) (hne : n ≠ m) (w : World) :
    Calls Tryz.prog 20 #[.slice v1 n c1, .slice v2 m c2] w fun e w' => e = .returned (.bool false) ∧ Below w.heap.size w w' := by
  have h1 : ((n : Int) != (m : Int)) = true := by rw [bne_iff_ne]; omega
  clear hne
  go_enter Tryz.func20, Tryz.ntmps20
  go_wp2_with fail
  go_ret
  exact ⟨rfl, Below.refl _ _⟩
set_option maxRecDepth 100000 in
set_option maxHeartbeats 1000000 in
theorem rsame03_row (L M : List Cel) (b1 o1 c1 b2 o2 c2 : Nat) (hl : L.length ≤ 100000) (hlm : L.length = M.length) (w : World) (h1 : CelRow b1 o1 L w) (h2 : CelRow b2 o2 M w) :
    Calls Tryz.prog 20 #[.slice (some ⟨b1, o1, none⟩) L.length c1, .slice (some ⟨b2, o2, none⟩) L.length c2] w fun e w' => e = .returned (.bool (sameV L M)) ∧ Below w.heap.size w w' := by
  have H1 := Lib.hid h1
  have H2 := Lib.hid h2
  have HM := Lib.hid hlm
  obtain ⟨r, hr⟩ : ∃ r, sameV L M = r := ⟨_, rfl⟩
  have HR : Hid (sameV (L.drop 0) (M.drop 0) = r) := Lib.hid hr
  rw [hr]
  clear hr h1 h2 hlm
  have hnn : ((L.length : Int) != (L.length : Int)) = false := by rw [bne_eq_false_iff_eq]
  have hg : Tryz.prog.eqGuardType Tryz.prog.depth 63 = false := by kernel_rfl
  go_enter Tryz.func20, Tryz.ntmps20
  go_wp2_with fail
  go_loopw [5] (fun i wr => ∃ k : Nat, k ≤ L.length ∧ i = .int .i64 k ∧ Hid (sameV (L.drop k) (M.drop k) = r) ∧ Hid (Below w.heap.size w wr)) (fun i wr => L.length - (intOf i).toNat)
  case atStart => exact ⟨0, Nat.zero_le _, rfl, HR, Lib.hid (Below.refl _ _)⟩
  case round =>
    rename World => wr
    obtain ⟨k, hk, rfl, HS, HB⟩ := hrel
    by_cases hlt : k < L.length
    · have hltm : k < M.length := by rw [← HM.out]; exact hlt
      obtain ⟨a0, a1, a2, a3, a4⟩ := (H1.out.below' HB.out) k hlt
      obtain ⟨d0, d1, d2, d3, d4⟩ := (H2.out.below' HB.out) k hltm
      have hstep := HS.out
      rw [sameV_drop _ _ k hlt hltm] at hstep
      have HNO : Hid ((¬ (L[k].kind.toNat : Int) = (M[k].kind.toNat : Int) ∨ ¬ L[k].name = M[k].name ∨ ¬ L[k].text = M[k].text ∨ ¬ L[k].num = M[k].num ∨ ¬ L[k].many = M[k].many) → false = r) := Lib.hid fun h => by rw [← hstep, eqC_no _ _ h]; rfl
      have HYES : Hid ((L[k].kind.toNat : Int) = (M[k].kind.toNat : Int) → L[k].name = M[k].name → L[k].text = M[k].text → L[k].num = M[k].num → L[k].many = M[k].many → sameV (L.drop (k + 1)) (M.drop (k + 1)) = r) := Lib.hid fun h1 h2 h3 h4 h5 => by
        have : eqC L[k] M[k] = true := by
          unfold eqC
          rw [beq_iff_eq.2 (UInt8.toNat_inj.1 (by omega)), beq_iff_eq.2 h2, beq_iff_eq.2 h3, beq_iff_eq.2 h4, beq_iff_eq.2 h5]; rfl
        rw [← hstep, this, Bool.true_and]
      have hx1 : (⟨L[k].name.toArray⟩ : ByteArray).toList = L[k].name := by rw [ByteArray.toList_eq]
      have hx2 : (⟨M[k].name.toArray⟩ : ByteArray).toList = M[k].name := by rw [ByteArray.toList_eq]
      have hy1 : (⟨L[k].text.toArray⟩ : ByteArray).toList = L[k].text := by rw [ByteArray.toList_eq]
      have hy2 : (⟨M[k].text.toArray⟩ : ByteArray).toList = M[k].text := by rw [ByteArray.toList_eq]
      rw [← hx1, ← hx2, ← hy1, ← hy2] at HNO HYES
      clear hstep hx1 hx2 hy1 hy2
      generalize (L[k].kind.toNat : Int) = ka at *
      generalize (M[k].kind.toNat : Int) = kb at *
      generalize L[k].num = na at *
      generalize M[k].num = nb at *
      generalize L[k].many = ma at *
      generalize M[k].many = mb at *
      generalize (⟨L[k].name.toArray⟩ : ByteArray) = x at *
      generalize (⟨M[k].name.toArray⟩ : ByteArray) = x' at *
      generalize (⟨L[k].text.toArray⟩ : ByteArray) = y at *
      generalize (⟨M[k].text.toArray⟩ : ByteArray) = y' at *
      by_cases e0 : ka = kb
      · by_cases e1 : x.toList = x'.toList
        · by_cases e2 : y.toList = y'.toList
          · by_cases e3 : na = nb
            · by_cases e4 : ma = mb
              · have HEQ := HYES.out e0 e1 e2 e3 e4
                subst e0 e3 e4
                clear HYES HNO
                have HF := Lib.hid HEQ
                clear HEQ HS
                go_wp2_with fail
                go_quiet (fail)
                go_wp2_with fail
                go_roundw
                case rel => exact ⟨k + 1, by omega, by go_num, HF, Lib.hid (below_dN _ HB.out)⟩
                case measure => simp [intOf]; omega
              · have HN := Lib.hid (HNO.out (Or.inr (Or.inr (Or.inr (Or.inr e4)))))
                subst e0 e3
                clear HYES HNO
                clear HS
                go_wp2_with fail
                go_quiet (fail)
                go_wp2_with fail
                go_ret
                exact ⟨ret_b HN.out, below_dN _ HB.out⟩
            · have HN := Lib.hid (HNO.out (Or.inr (Or.inr (Or.inr (Or.inl e3)))))
              subst e0
              clear HYES HNO
              clear HS
              go_wp2_with fail
              go_quiet (fail)
              go_wp2_with fail
              go_ret
              exact ⟨ret_b HN.out, below_dN _ HB.out⟩
          · have HN := Lib.hid (HNO.out (Or.inr (Or.inr (Or.inl e2))))
            subst e0
            clear HYES HNO
            clear HS
            go_wp2_with fail
            go_quiet (fail)
            go_wp2_with fail
            go_ret
            exact ⟨ret_b HN.out, below_dN _ HB.out⟩
        · have HN := Lib.hid (HNO.out (Or.inr (Or.inl e1)))
          subst e0
          clear HYES HNO
          clear HS
          go_wp2_with fail
          go_quiet (fail)
          go_wp2_with fail
          go_ret
          exact ⟨ret_b HN.out, below_dN _ HB.out⟩
      · have HN := Lib.hid (HNO.out (Or.inl e0))
        clear HYES HNO
        clear HS
        go_wp2_with fail
        go_quiet (fail)
        go_wp2_with fail
        go_ret
        exact ⟨ret_b HN.out, below_dN _ HB.out⟩
    · have HF : Hid (true = r) := Lib.hid (by
        have hm : M.length = L.length := HM.out.symm
        rw [← HS.out, List.drop_of_length_le (by omega), List.drop_of_length_le (by omega)]; rfl)
      clear HS
      go_wp2_with fail
      go_ret
      exact ⟨ret_b HF.out, HB.out⟩
set_option maxRecDepth 100000 in
theorem rsame03_none (a v : Option Addr) (c1 c2 : Nat) (w : World) :
    Calls Tryz.prog 20 #[.slice a 0 c1, .slice v 0 c2] w fun e w' => e = .returned (.bool true) ∧ Below w.heap.size w w' := by
  go_enter Tryz.func20, Tryz.ntmps20
  go_wp2_with fail
  refine wp_loop_rounds 1 ?_; rw [rounds_succ]
  go_wp2_with fail
  go_ret
  exact ⟨rfl, Below.refl _ _⟩
theorem rsame03_any (L M : List Cel) (u v : Value) (hl : L.length ≤ 100000) (hm : M.length ≤ 100000) (w : World) (h1 : CelSl u L w) (h2 : CelSl v M w) :
    Calls Tryz.prog 20 #[u, v] w fun e w' => e = .returned (.bool (sameV L M)) ∧ Below w.heap.size w w' := by
  by_cases hlm : L.length = M.length
  · rcases h1 with ⟨a1, c1, rfl, rfl, _⟩ | ⟨b1, o1, c1, rfl, h1, p1⟩
    · obtain rfl : M = [] := List.eq_nil_of_length_eq_zero hlm.symm
      rcases h2 with ⟨a2, c2, rfl, _, _⟩ | ⟨b2, o2, c2, rfl, h2, p2⟩
      · exact rsame03_none a1 a2 c1 c2 w
      · exact rsame03_none a1 _ c1 c2 w
    · rcases h2 with ⟨a2, c2, rfl, rfl, _⟩ | ⟨b2, o2, c2, rfl, h2, p2⟩
      · obtain rfl : L = [] := List.eq_nil_of_length_eq_zero hlm
        exact rsame03_none _ a2 c1 c2 w
      · rw [← hlm]
        exact rsame03_row L M b1 o1 c1 b2 o2 c2 hl hlm w h1 h2
  · rw [sameV_len _ _ hlm]
    rcases h1 with ⟨a1, c1, rfl, rfl, _⟩ | ⟨b1, o1, c1, rfl, h1, p1⟩
    · rcases h2 with ⟨a2, c2, rfl, rfl, _⟩ | ⟨b2, o2, c2, rfl, h2, p2⟩
      · exact absurd rfl hlm
      · exact rsame03_len a1 _ _ _ 0 _ (by omega) hm hlm w
    · rcases h2 with ⟨a2, c2, rfl, rfl, _⟩ | ⟨b2, o2, c2, rfl, h2, p2⟩
      · exact rsame03_len _ a2 _ _ _ 0 hl (by omega) hlm w
      · exact rsame03_len _ _ _ _ _ _ hl hm hlm w
end Go.Proofs.YtgaknbnhmoddcaaGreatDoor
namespace Go.Proofs.YtgaknbnhmoddcaaGreatDoor
open Go.RowKit
/-- What a variable holds, it holds behind a call that only makes blocks. -/
theorem var_stays_w {P : Program} {w w' : World} {n : String} {cs : Array Value} (hv : w.var? P n = some cs) (hb : Below w.heap.size w w') : w'.var? P n = some cs := by
  unfold World.var? at hv
  obtain ⟨g, hg, h2⟩ := Option.bind_eq_some_iff.1 hv
  have hlt : g < w.heap.size := by
    rcases Nat.lt_or_ge g w.heap.size with h | h
    · exact h
    · rw [Array.getElem?_eq_none h] at h2; cases h2
  unfold World.var?
  rw [hg]
  simp only [Option.bind_some]
  rw [hb.block g hlt]; exact h2
/-- What the library's table of powers holds. -/
def EnvT (w : World) : Prop := Lib.TabIs Tryz.prog w "internal/strconv.uint64pow10" .u64 Lib.pow10Tab
theorem below_grow (w : World) (k : Nat) (os : Array Obj) : Below w.heap.size w (Go.Sort.grow (w.drewN k) os) := by
  refine ⟨rfl, rfl, rfl, by show w.heap.size ≤ ((w.drewN k).heap ++ os).size; rw [Array.size_append]; exact Nat.le_add_right _ _, fun i hi => ?_⟩
  show ((w.drewN k).heap ++ os)[i]? = w.heap[i]?
  rw [Array.getElem?_append_left (show i < (w.drewN k).heap.size from hi)]; rfl
theorem EnvT.stays {w w' : World} (h : EnvT w) (hb : Below w.heap.size w w') : EnvT w' := var_stays_w h hb
set_option maxHeartbeats 400000 in
theorem write_tab (n : Int) (hr : R n) (w : World) (ht : EnvT w) :
    Calls Tryz.prog 65 #[.int .i64 n] w fun e w' => e = .returned (.string ⟨(Lib.itoa n).toArray⟩) ∧ Below w.heap.size w w' := by
  have HT := Lib.hid ht
  clear ht
  go_enter Tryz.func65, Tryz.ntmps65
  go_wp2_with fail
  refine (Tryz.strconv_FormatInt_10 n hr.1 hr.2 _ HT.out).mono ?_; rintro e w1 ⟨rfl, k, os, rfl⟩
  go_wp2_with fail
  go_ret
  exact ⟨rfl, below_grow _ _ _⟩
end Go.Proofs.YtgaknbnhmoddcaaGreatDoor
namespace Go.Proofs.YtgaknbnhmoddcaaGreatDoor
open Go.RowKit
theorem put_add (q : Nat) (v : Value) (L : List Tok) (k : UInt8) (kd : Int) (hkd : (k.toNat : Int) = kd) (s : ByteArray) (lb cl : Nat) (W : World) (h : PutS q v L W) (hl : W.cell? ⟨lb, 0, none⟩ = some (.string s)) (hlb : lb ≠ q) (hL : L.length ≤ 100000) :
    Calls Tryz.prog 39 #[.pointer (some ⟨q, 0, none⟩), .int .u8 kd, .slice (some ⟨lb, 0, none⟩) 1 cl] W fun x W' => x = .returned (.tuple #[]) ∧ (∃ v', PutS q v' (L ++ [⟨k, s.data.toList, 0⟩]) W') ∧ RK q W W' := by
  subst hkd
  have h2 := h
  obtain ⟨h1, hn, hr⟩ := h
  rcases hr with ⟨rfl, e⟩ | ⟨g, cap, cur, rfl, hB, hg, hcap, hrest⟩
  · exact put_add_none q none 0 0 L k s lb cl W ⟨rfl, rfl, rfl⟩ e.symm (Nat.le_refl _) h2 hl hlb hL
  · exact put_add_some q (some ⟨g, 0, none⟩) L.length cap L k s lb cl W ⟨g, rfl⟩ rfl hcap h2 hl hlb hL
theorem PutS.rk {p q : Nat} {v : Value} {L : List Tok} {W W' : World} (h : PutS q v L W) (hb : Below W.heap.size W W') : PutS q v L W' := h.below hb
theorem CelRow.rk {b off p : Nat} {V : List Cel} {W W' : World} (h : CelRow b off V W) (hk : RK p W W') (hne : b ≠ p) : CelRow b off V W' := by
  intro i hi
  obtain ⟨h0, h1, h2, h3, h4⟩ := h i hi
  have hb : W'.heap[b]? = W.heap[b]? := by
    have hlt := lt_of_cell h0
    obtain ⟨o, ho⟩ : ∃ o, W.heap[b]? = some o := ⟨_, Array.getElem?_eq_getElem hlt⟩
    rw [ho]; exact hk.2 b o ho hne
  refine ⟨?_, ?_, ?_, ?_, ?_⟩
  · rw [← h0]; unfold World.cell?; rw [hb]
  · rw [← h1]; unfold World.cell?; rw [hb]
  · rw [← h2]; unfold World.cell?; rw [hb]
  · rw [← h3]; unfold World.cell?; rw [hb]
  · rw [← h4]; unfold World.cell?; rw [hb]
/-- What a putting leaves: the place behind; its tokens behind those that were there. -/
def PEnd (q : Nat) (L : List Tok) (n : Int) (W : World) (e : Ending) (W' : World) : Prop := e = .returned (.int .i64 n) ∧ (∃ v', PutS q v' L W') ∧ RK q W W'
theorem rk_below {q : Nat} {W W' : World} (hb : Below W.heap.size W W') (hq : q ≤ W.heap.size) : RK q W W' := ⟨hb.mono hq, fun k o hk _ => (hb.block k (heap_lt hk)).trans hk⟩
set_option maxRecDepth 100000 in
set_option maxHeartbeats 1000000 in
theorem up_null (q b off nV cap k : Nat) (pv : Value) (L : List Tok) (W : World) (kk : Nat) (nx tx : ByteArray) (nu mn : Int) (hP : PutS q pv L W)
    (hk : k < nV) (hl : nV ≤ 2048) (hL : L.length + 8 ≤ 100000)
    (c0 : W.cell? ⟨b, off + k * 5, none⟩ = some (.int .u8 (kk : Int))) (c1 : W.cell? ⟨b, off + k * 5 + 1, none⟩ = some (.string nx)) (c2 : W.cell? ⟨b, off + k * 5 + 2, none⟩ = some (.string tx)) (c3 : W.cell? ⟨b, off + k * 5 + 3, none⟩ = some (.int .i64 nu)) (c4 : W.cell? ⟨b, off + k * 5 + 4, none⟩ = some (.int .i64 mn))
    (h0 : kk = 0)  :
    Calls Tryz.prog 35 #[.pointer (some ⟨q, 0, none⟩), .slice (some ⟨b, off, none⟩) nV cap, .int .i64 (k : Int)] W fun e w' => PEnd q (L ++ [nmT [110, 117, 108, 108]]) ((k : Int) + 1) W e w' := by
  have hq := hP.lt
  have hk1 : IntKind.i64.wrap ((k : Int) + 1) = (k : Int) + 1 := IntWalk.i64_in _ (by omega)
  have hk2 : (k : Int).toNat = k := by omega
  have hk3 : (0 : Int) ≤ (k : Int) := by omega
  have hk4 : (k : Int) < (nV : Int) := by omega
  have HP := Lib.hid hP
  clear hP
  subst h0
  have hb1 : Below W.heap.size W ((W.alloc (.cells #[.int .u8 0, .string nx, .string tx, .int .i64 nu, .int .i64 mn] 63)).alloc (.cells #[.string ⟨#[110, 117, 108, 108]⟩] 9)) := ((Below.refl _ _).alloc (Nat.le_refl _) _).alloc (by simp) _
  have HP1 := Lib.hid (HP.out.below hb1)
  have HK1 : Hid (RK q W _) := Lib.hid (rk_below hb1 (Nat.le_of_lt hq))
  have hne : W.heap.size + 1 ≠ q := by omega
  have hl1 : ((W.alloc (.cells #[.int .u8 0, .string nx, .string tx, .int .i64 nu, .int .i64 mn] 63)).alloc (.cells #[.string ⟨#[110, 117, 108, 108]⟩] 9)).cell? ⟨W.heap.size + 1, 0, none⟩ = some (.string ⟨#[110, 117, 108, 108]⟩) := Lib.cell_of_heap (heap_new _ _ _ (by simp)) 0
  clear hb1
  go_enter Tryz.func35, Tryz.ntmps35
  go_wp2_with fail
  refine (put_add q pv L 1 1 rfl ⟨#[110, 117, 108, 108]⟩ _ 1 _ HP1.out hl1 hne (by omega)).mono ?_; rintro e wx ⟨rfl, hx1, hx2⟩
  have HFIN : Hid ((∃ v', PutS q v' (L ++ [nmT [110, 117, 108, 108]]) wx) ∧ RK q W wx) := Lib.hid ⟨hx1, HK1.out.trans hx2⟩
  clear hx1 hx2
  go_wp2_with fail
  go_ret
  exact ⟨rfl, HFIN.out⟩
set_option maxRecDepth 100000 in
set_option maxHeartbeats 1000000 in
theorem up_true (q b off nV cap k : Nat) (pv : Value) (L : List Tok) (W : World) (kk : Nat) (nx tx : ByteArray) (nu mn : Int) (hP : PutS q pv L W)
    (hk : k < nV) (hl : nV ≤ 2048) (hL : L.length + 8 ≤ 100000)
    (c0 : W.cell? ⟨b, off + k * 5, none⟩ = some (.int .u8 (kk : Int))) (c1 : W.cell? ⟨b, off + k * 5 + 1, none⟩ = some (.string nx)) (c2 : W.cell? ⟨b, off + k * 5 + 2, none⟩ = some (.string tx)) (c3 : W.cell? ⟨b, off + k * 5 + 3, none⟩ = some (.int .i64 nu)) (c4 : W.cell? ⟨b, off + k * 5 + 4, none⟩ = some (.int .i64 mn))
    (h0 : kk = 1) (h1 : nu = 1) :
    Calls Tryz.prog 35 #[.pointer (some ⟨q, 0, none⟩), .slice (some ⟨b, off, none⟩) nV cap, .int .i64 (k : Int)] W fun e w' => PEnd q (L ++ [nmT [116, 114, 117, 101]]) ((k : Int) + 1) W e w' := by
  have hq := hP.lt
  have hk1 : IntKind.i64.wrap ((k : Int) + 1) = (k : Int) + 1 := IntWalk.i64_in _ (by omega)
  have hk2 : (k : Int).toNat = k := by omega
  have hk3 : (0 : Int) ≤ (k : Int) := by omega
  have hk4 : (k : Int) < (nV : Int) := by omega
  have HP := Lib.hid hP
  clear hP
  subst h0
  subst h1
  have ix := fun w : World => (show (Instr.index 128 (.agg #[.string ⟨#[102, 97, 108, 115, 101]⟩, .string ⟨#[116, 114, 117, 101]⟩]) (.int .i64 1)).run Tryz.prog w = .ok (.string ⟨#[116, 114, 117, 101]⟩) w by kernel_rfl)
  have hb1 : Below W.heap.size W ((W.alloc (.cells #[.int .u8 1, .string nx, .string tx, .int .i64 1, .int .i64 mn] 63)).alloc (.cells #[.string ⟨#[116, 114, 117, 101]⟩] 9)) := ((Below.refl _ _).alloc (Nat.le_refl _) _).alloc (by simp) _
  have HP1 := Lib.hid (HP.out.below hb1)
  have HK1 : Hid (RK q W _) := Lib.hid (rk_below hb1 (Nat.le_of_lt hq))
  have hne : W.heap.size + 1 ≠ q := by omega
  have hl1 : ((W.alloc (.cells #[.int .u8 1, .string nx, .string tx, .int .i64 1, .int .i64 mn] 63)).alloc (.cells #[.string ⟨#[116, 114, 117, 101]⟩] 9)).cell? ⟨W.heap.size + 1, 0, none⟩ = some (.string ⟨#[116, 114, 117, 101]⟩) := Lib.cell_of_heap (heap_new _ _ _ (by simp)) 0
  clear hb1
  go_enter Tryz.func35, Tryz.ntmps35
  go_wp2_with fail
  refine (put_add q pv L 1 1 rfl ⟨#[116, 114, 117, 101]⟩ _ 1 _ HP1.out hl1 hne (by omega)).mono ?_; rintro e wx ⟨rfl, hx1, hx2⟩
  have HFIN : Hid ((∃ v', PutS q v' (L ++ [nmT [116, 114, 117, 101]]) wx) ∧ RK q W wx) := Lib.hid ⟨hx1, HK1.out.trans hx2⟩
  clear hx1 hx2
  go_wp2_with fail
  go_ret
  exact ⟨rfl, HFIN.out⟩
set_option maxRecDepth 100000 in
set_option maxHeartbeats 1000000 in
theorem up_false (q b off nV cap k : Nat) (pv : Value) (L : List Tok) (W : World) (kk : Nat) (nx tx : ByteArray) (nu mn : Int) (hP : PutS q pv L W)
    (hk : k < nV) (hl : nV ≤ 2048) (hL : L.length + 8 ≤ 100000)
    (c0 : W.cell? ⟨b, off + k * 5, none⟩ = some (.int .u8 (kk : Int))) (c1 : W.cell? ⟨b, off + k * 5 + 1, none⟩ = some (.string nx)) (c2 : W.cell? ⟨b, off + k * 5 + 2, none⟩ = some (.string tx)) (c3 : W.cell? ⟨b, off + k * 5 + 3, none⟩ = some (.int .i64 nu)) (c4 : W.cell? ⟨b, off + k * 5 + 4, none⟩ = some (.int .i64 mn))
    (h0 : kk = 1) (h1 : nu = 0) :
    Calls Tryz.prog 35 #[.pointer (some ⟨q, 0, none⟩), .slice (some ⟨b, off, none⟩) nV cap, .int .i64 (k : Int)] W fun e w' => PEnd q (L ++ [nmT [102, 97, 108, 115, 101]]) ((k : Int) + 1) W e w' := by
  have hq := hP.lt
  have hk1 : IntKind.i64.wrap ((k : Int) + 1) = (k : Int) + 1 := IntWalk.i64_in _ (by omega)
  have hk2 : (k : Int).toNat = k := by omega
  have hk3 : (0 : Int) ≤ (k : Int) := by omega
  have hk4 : (k : Int) < (nV : Int) := by omega
  have HP := Lib.hid hP
  clear hP
  subst h0
  subst h1
  have ix := fun w : World => (show (Instr.index 128 (.agg #[.string ⟨#[102, 97, 108, 115, 101]⟩, .string ⟨#[116, 114, 117, 101]⟩]) (.int .i64 0)).run Tryz.prog w = .ok (.string ⟨#[102, 97, 108, 115, 101]⟩) w by kernel_rfl)
  have hb1 : Below W.heap.size W ((W.alloc (.cells #[.int .u8 1, .string nx, .string tx, .int .i64 0, .int .i64 mn] 63)).alloc (.cells #[.string ⟨#[102, 97, 108, 115, 101]⟩] 9)) := ((Below.refl _ _).alloc (Nat.le_refl _) _).alloc (by simp) _
  have HP1 := Lib.hid (HP.out.below hb1)
  have HK1 : Hid (RK q W _) := Lib.hid (rk_below hb1 (Nat.le_of_lt hq))
  have hne : W.heap.size + 1 ≠ q := by omega
  have hl1 : ((W.alloc (.cells #[.int .u8 1, .string nx, .string tx, .int .i64 0, .int .i64 mn] 63)).alloc (.cells #[.string ⟨#[102, 97, 108, 115, 101]⟩] 9)).cell? ⟨W.heap.size + 1, 0, none⟩ = some (.string ⟨#[102, 97, 108, 115, 101]⟩) := Lib.cell_of_heap (heap_new _ _ _ (by simp)) 0
  clear hb1
  go_enter Tryz.func35, Tryz.ntmps35
  go_wp2_with fail
  refine (put_add q pv L 1 1 rfl ⟨#[102, 97, 108, 115, 101]⟩ _ 1 _ HP1.out hl1 hne (by omega)).mono ?_; rintro e wx ⟨rfl, hx1, hx2⟩
  have HFIN : Hid ((∃ v', PutS q v' (L ++ [nmT [102, 97, 108, 115, 101]]) wx) ∧ RK q W wx) := Lib.hid ⟨hx1, HK1.out.trans hx2⟩
  clear hx1 hx2
  go_wp2_with fail
  go_ret
  exact ⟨rfl, HFIN.out⟩
set_option maxRecDepth 100000 in
set_option maxHeartbeats 1000000 in
theorem up_text (q b off nV cap k : Nat) (pv : Value) (L : List Tok) (W : World) (kk : Nat) (nx tx : ByteArray) (nu mn : Int) (hP : PutS q pv L W)
    (hk : k < nV) (hl : nV ≤ 2048) (hL : L.length + 8 ≤ 100000)
    (c0 : W.cell? ⟨b, off + k * 5, none⟩ = some (.int .u8 (kk : Int))) (c1 : W.cell? ⟨b, off + k * 5 + 1, none⟩ = some (.string nx)) (c2 : W.cell? ⟨b, off + k * 5 + 2, none⟩ = some (.string tx)) (c3 : W.cell? ⟨b, off + k * 5 + 3, none⟩ = some (.int .i64 nu)) (c4 : W.cell? ⟨b, off + k * 5 + 4, none⟩ = some (.int .i64 mn))
    (h0 : kk = 3) :
    Calls Tryz.prog 35 #[.pointer (some ⟨q, 0, none⟩), .slice (some ⟨b, off, none⟩) nV cap, .int .i64 (k : Int)] W fun e w' => PEnd q (L ++ [⟨3, tx.data.toList, 0⟩]) ((k : Int) + 1) W e w' := by
  have hq := hP.lt
  have hk1 : IntKind.i64.wrap ((k : Int) + 1) = (k : Int) + 1 := IntWalk.i64_in _ (by omega)
  have hk2 : (k : Int).toNat = k := by omega
  have hk3 : (0 : Int) ≤ (k : Int) := by omega
  have hk4 : (k : Int) < (nV : Int) := by omega
  have HP := Lib.hid hP
  clear hP
  subst h0
  have hb1 : Below W.heap.size W ((W.alloc (.cells #[.int .u8 3, .string nx, .string tx, .int .i64 nu, .int .i64 mn] 63)).alloc (.cells #[.string tx] 9)) := ((Below.refl _ _).alloc (Nat.le_refl _) _).alloc (by simp) _
  have HP1 := Lib.hid (HP.out.below hb1)
  have HK1 : Hid (RK q W _) := Lib.hid (rk_below hb1 (Nat.le_of_lt hq))
  have hne : W.heap.size + 1 ≠ q := by omega
  have hl1 : ((W.alloc (.cells #[.int .u8 3, .string nx, .string tx, .int .i64 nu, .int .i64 mn] 63)).alloc (.cells #[.string tx] 9)).cell? ⟨W.heap.size + 1, 0, none⟩ = some (.string tx) := Lib.cell_of_heap (heap_new _ _ _ (by simp)) 0
  clear hb1
  go_enter Tryz.func35, Tryz.ntmps35
  go_wp2_with fail
  refine (put_add q pv L 3 3 rfl tx _ 1 _ HP1.out hl1 hne (by omega)).mono ?_; rintro e wx ⟨rfl, hx1, hx2⟩
  have HFIN : Hid ((∃ v', PutS q v' (L ++ [⟨3, tx.data.toList, 0⟩]) wx) ∧ RK q W wx) := Lib.hid ⟨hx1, HK1.out.trans hx2⟩
  clear hx1 hx2
  go_wp2_with fail
  go_ret
  exact ⟨rfl, HFIN.out⟩
set_option maxRecDepth 100000 in
set_option maxHeartbeats 1000000 in
theorem up_enum (q b off nV cap k : Nat) (pv : Value) (L : List Tok) (W : World) (kk : Nat) (nx tx : ByteArray) (nu mn : Int) (hP : PutS q pv L W)
    (hk : k < nV) (hl : nV ≤ 2048) (hL : L.length + 8 ≤ 100000)
    (c0 : W.cell? ⟨b, off + k * 5, none⟩ = some (.int .u8 (kk : Int))) (c1 : W.cell? ⟨b, off + k * 5 + 1, none⟩ = some (.string nx)) (c2 : W.cell? ⟨b, off + k * 5 + 2, none⟩ = some (.string tx)) (c3 : W.cell? ⟨b, off + k * 5 + 3, none⟩ = some (.int .i64 nu)) (c4 : W.cell? ⟨b, off + k * 5 + 4, none⟩ = some (.int .i64 mn))
    (h0 : kk = 4) :
    Calls Tryz.prog 35 #[.pointer (some ⟨q, 0, none⟩), .slice (some ⟨b, off, none⟩) nV cap, .int .i64 (k : Int)] W fun e w' => PEnd q (L ++ [⟨1, tx.data.toList, 0⟩]) ((k : Int) + 1) W e w' := by
  have hq := hP.lt
  have hk1 : IntKind.i64.wrap ((k : Int) + 1) = (k : Int) + 1 := IntWalk.i64_in _ (by omega)
  have hk2 : (k : Int).toNat = k := by omega
  have hk3 : (0 : Int) ≤ (k : Int) := by omega
  have hk4 : (k : Int) < (nV : Int) := by omega
  have HP := Lib.hid hP
  clear hP
  subst h0
  have hb1 : Below W.heap.size W ((W.alloc (.cells #[.int .u8 4, .string nx, .string tx, .int .i64 nu, .int .i64 mn] 63)).alloc (.cells #[.string tx] 9)) := ((Below.refl _ _).alloc (Nat.le_refl _) _).alloc (by simp) _
  have HP1 := Lib.hid (HP.out.below hb1)
  have HK1 : Hid (RK q W _) := Lib.hid (rk_below hb1 (Nat.le_of_lt hq))
  have hne : W.heap.size + 1 ≠ q := by omega
  have hl1 : ((W.alloc (.cells #[.int .u8 4, .string nx, .string tx, .int .i64 nu, .int .i64 mn] 63)).alloc (.cells #[.string tx] 9)).cell? ⟨W.heap.size + 1, 0, none⟩ = some (.string tx) := Lib.cell_of_heap (heap_new _ _ _ (by simp)) 0
  clear hb1
  go_enter Tryz.func35, Tryz.ntmps35
  go_wp2_with fail
  refine (put_add q pv L 1 1 rfl tx _ 1 _ HP1.out hl1 hne (by omega)).mono ?_; rintro e wx ⟨rfl, hx1, hx2⟩
  have HFIN : Hid ((∃ v', PutS q v' (L ++ [⟨1, tx.data.toList, 0⟩]) wx) ∧ RK q W wx) := Lib.hid ⟨hx1, HK1.out.trans hx2⟩
  clear hx1 hx2
  go_wp2_with fail
  go_ret
  exact ⟨rfl, HFIN.out⟩
set_option maxRecDepth 100000 in
set_option maxHeartbeats 1000000 in
theorem up_int (q b off nV cap k : Nat) (pv : Value) (L : List Tok) (W : World) (kk : Nat) (nx tx : ByteArray) (nu mn : Int) (hP : PutS q pv L W)
    (hk : k < nV) (hl : nV ≤ 2048) (hL : L.length + 8 ≤ 100000)
    (c0 : W.cell? ⟨b, off + k * 5, none⟩ = some (.int .u8 (kk : Int))) (c1 : W.cell? ⟨b, off + k * 5 + 1, none⟩ = some (.string nx)) (c2 : W.cell? ⟨b, off + k * 5 + 2, none⟩ = some (.string tx)) (c3 : W.cell? ⟨b, off + k * 5 + 3, none⟩ = some (.int .i64 nu)) (c4 : W.cell? ⟨b, off + k * 5 + 4, none⟩ = some (.int .i64 mn))
    (h0 : kk = 2) (HQ : Hid (∀ W' : World, Below W.heap.size W W' → Calls Tryz.prog 65 #[.int .i64 nu] W' fun e w' => e = .returned (.string ⟨(Lib.itoa nu).toArray⟩) ∧ Below W'.heap.size W' w')) :
    Calls Tryz.prog 35 #[.pointer (some ⟨q, 0, none⟩), .slice (some ⟨b, off, none⟩) nV cap, .int .i64 (k : Int)] W fun e w' => PEnd q (L ++ [⟨2, Lib.itoa nu, 0⟩]) ((k : Int) + 1) W e w' := by
  have hq := hP.lt
  have hk1 : IntKind.i64.wrap ((k : Int) + 1) = (k : Int) + 1 := IntWalk.i64_in _ (by omega)
  have hk2 : (k : Int).toNat = k := by omega
  have hk3 : (0 : Int) ≤ (k : Int) := by omega
  have hk4 : (k : Int) < (nV : Int) := by omega
  have HP := Lib.hid hP
  clear hP
  subst h0
  obtain ⟨ib, hib⟩ : ∃ ib : ByteArray, (⟨(Lib.itoa nu).toArray⟩ : ByteArray) = ib := ⟨_, rfl⟩
  have hid1 : ib.data.toList = Lib.itoa nu := by rw [← hib]
  rw [hib] at HQ
  rw [← hid1]
  clear hib hid1
  have hb1 : Below W.heap.size W (W.alloc (.cells #[.int .u8 2, .string nx, .string tx, .int .i64 nu, .int .i64 mn] 63)) := ((Below.refl _ _).alloc (Nat.le_refl _) _)
  have HB1 := Lib.hid hb1
  clear hb1
  go_enter Tryz.func35, Tryz.ntmps35
  go_wp2_with fail
  refine (HQ.out _ HB1.out).mono ?_; rintro e w1 ⟨rfl, hb⟩
  have hb2 : Below W.heap.size W (w1.alloc (.cells #[.string ib] 9)) := (HB1.out.trans (hb.mono HB1.out.size)).alloc (Nat.le_trans HB1.out.size hb.size) _
  have HP1 := Lib.hid (HP.out.below hb2)
  have HK1 : Hid (RK q W _) := Lib.hid (rk_below hb2 (Nat.le_of_lt hq))
  have hne : w1.heap.size ≠ q := by have := HB1.out.size; have := hb.size; omega
  clear hb hb2
  go_wp2_with fail
  refine (put_add q pv L 2 2 rfl ib _ 1 _ HP1.out (new_cell0 _ _ _) hne (by omega)).mono ?_; rintro e wx ⟨rfl, hx1, hx2⟩
  have HFIN : Hid ((∃ v', PutS q v' (L ++ [⟨2, ib.data.toList, 0⟩]) wx) ∧ RK q W wx) := Lib.hid ⟨hx1, HK1.out.trans hx2⟩
  clear hx1 hx2
  go_wp2_with fail
  go_ret
  exact ⟨rfl, HFIN.out⟩
set_option maxRecDepth 100000 in
set_option maxHeartbeats 1000000 in
theorem up_var (q b off nV cap k : Nat) (pv : Value) (L : List Tok) (W : World) (kk : Nat) (nx tx : ByteArray) (nu mn : Int) (hP : PutS q pv L W)
    (hk : k < nV) (hl : nV ≤ 2048) (hL : L.length + 8 ≤ 100000)
    (c0 : W.cell? ⟨b, off + k * 5, none⟩ = some (.int .u8 (kk : Int))) (c1 : W.cell? ⟨b, off + k * 5 + 1, none⟩ = some (.string nx)) (c2 : W.cell? ⟨b, off + k * 5 + 2, none⟩ = some (.string tx)) (c3 : W.cell? ⟨b, off + k * 5 + 3, none⟩ = some (.int .i64 nu)) (c4 : W.cell? ⟨b, off + k * 5 + 4, none⟩ = some (.int .i64 mn))
    (h0 : kk = 5) :
    Calls Tryz.prog 35 #[.pointer (some ⟨q, 0, none⟩), .slice (some ⟨b, off, none⟩) nV cap, .int .i64 (k : Int)] W fun e w' => PEnd q (L ++ [mkT [36], nmT tx.data.toList]) ((k : Int) + 1) W e w' := by
  have hq := hP.lt
  have hk1 : IntKind.i64.wrap ((k : Int) + 1) = (k : Int) + 1 := IntWalk.i64_in _ (by omega)
  have hk2 : (k : Int).toNat = k := by omega
  have hk3 : (0 : Int) ≤ (k : Int) := by omega
  have hk4 : (k : Int) < (nV : Int) := by omega
  have HP := Lib.hid hP
  clear hP
  subst h0
  have hb1 : Below W.heap.size W ((W.alloc (.cells #[.int .u8 5, .string nx, .string tx, .int .i64 nu, .int .i64 mn] 63)).alloc (.cells #[.string ⟨#[36]⟩] 9)) := ((Below.refl _ _).alloc (Nat.le_refl _) _).alloc (by simp) _
  have HP1 := Lib.hid (HP.out.below hb1)
  have HK1 : Hid (RK q W _) := Lib.hid (rk_below hb1 (Nat.le_of_lt hq))
  have hne : W.heap.size + 1 ≠ q := by omega
  have hl1 : ((W.alloc (.cells #[.int .u8 5, .string nx, .string tx, .int .i64 nu, .int .i64 mn] 63)).alloc (.cells #[.string ⟨#[36]⟩] 9)).cell? ⟨W.heap.size + 1, 0, none⟩ = some (.string ⟨#[36]⟩) := Lib.cell_of_heap (heap_new _ _ _ (by simp)) 0
  have HC1 : Hid (((W.alloc (.cells #[.int .u8 5, .string nx, .string tx, .int .i64 nu, .int .i64 mn] 63)).alloc (.cells #[.string ⟨#[36]⟩] 9)).heap[W.heap.size]? = some (.cells #[.int .u8 5, .string nx, .string tx, .int .i64 nu, .int .i64 mn] 63 (0, 0))) := Lib.hid (heap_old (heap_new _ _ _ rfl))
  clear hb1
  go_enter Tryz.func35, Tryz.ntmps35
  go_wp2_with fail
  refine (put_add q pv L 4 4 rfl ⟨#[36]⟩ _ 1 _ HP1.out hl1 hne (by omega)).mono ?_; rintro e w2 ⟨rfl, ⟨pv2, hx1⟩, hx2⟩
  have HC2 := Lib.hid (hx2.2 _ _ HC1.out (by omega))
  have e2 : w2.cell? ⟨W.heap.size, 2, none⟩ = some (.string tx) := by rw [Lib.cell_of_heap HC2.out]; rfl
  have hb2 : Below w2.heap.size w2 (w2.alloc (.cells #[.string tx] 9)) := ((Below.refl _ _).alloc (Nat.le_refl _) _)
  have HP2 := Lib.hid (hx1.below hb2)
  have hq2 := hx1.lt
  have HK2 : Hid (RK q W (w2.alloc (.cells #[.string tx] 9))) := Lib.hid ((HK1.out.trans hx2).trans (rk_below hb2 (Nat.le_of_lt hq2)))
  have hne2 : w2.heap.size ≠ q := by omega
  clear hx1 hx2 hb2
  go_wp2_with fail
  refine (put_add q pv2 _ 1 1 rfl tx _ 1 _ HP2.out (new_cell0 _ _ _) hne2 (by simp; omega)).mono ?_; rintro e wx ⟨rfl, hx1, hx2⟩
  have HFIN : Hid ((∃ v', PutS q v' (L ++ [mkT [36], nmT tx.data.toList]) wx) ∧ RK q W wx) := Lib.hid ⟨by simpa [mkT, nmT] using hx1, HK2.out.trans hx2⟩
  clear hx1 hx2
  go_wp2_with fail
  go_ret
  exact ⟨rfl, HFIN.out⟩
end Go.Proofs.YtgaknbnhmoddcaaGreatDoor
namespace Go.Proofs.YtgaknbnhmoddcaaGreatDoor
open Go.RowKit
set_option maxRecDepth 100000 in
set_option maxHeartbeats 4000000 in
theorem up_list (q b off cap k : Nat) (V : List Cel) (pv : Value) (L : List Tok) (W : World) (nx tx : ByteArray) (nu : Int) (m : Nat) (hP : PutS q pv L W)
    (hk : k < V.length) (hl : V.length ≤ 2048) (hrow : CelRow b off V W) (hbq : b < q)
    (c0 : W.cell? ⟨b, off + k * 5, none⟩ = some (.int .u8 6)) (c1 : W.cell? ⟨b, off + k * 5 + 1, none⟩ = some (.string nx)) (c2 : W.cell? ⟨b, off + k * 5 + 2, none⟩ = some (.string tx)) (c3 : W.cell? ⟨b, off + k * 5 + 3, none⟩ = some (.int .i64 nu)) (c4 : W.cell? ⟨b, off + k * 5 + 4, none⟩ = some (.int .i64 (m : Int)))
    (hmx : (m : Int) ≤ 9223372036854775807) (d1 n : Nat) (hkids : KS V d1 k true (some n) m [] 0) (hroom : L.length + 4 * (n + 2) ≤ 90000)
    (HTL : Hid (∀ (p n1 : Nat), valN d1 (V.drop p) = some n1 → (tokK d1 (V.drop p)).length + 2 ≤ 4 * n1))
    (HIH : Hid (∀ (W' : World) (pv' : Value) (L' : List Tok) (p n1 : Nat), RK q W W' → p < V.length → valN d1 (V.drop p) = some n1 → L'.length + 4 * (n1 + 1) ≤ 90000 → PutS q pv' L' W' → CelRow b off V W' → Calls Tryz.prog 35 #[.pointer (some ⟨q, 0, none⟩), .slice (some ⟨b, off, none⟩) V.length cap, .int .i64 (p : Int)] W' fun e w' => PEnd q (L' ++ tokK d1 (V.drop p)) ((p + n1 : Nat) : Int) W' e w')) :
    Calls Tryz.prog 35 #[.pointer (some ⟨q, 0, none⟩), .slice (some ⟨b, off, none⟩) V.length cap, .int .i64 (k : Int)] W fun e w' => PEnd q (L ++ (mkT [91] :: (kidsK (valN d1) (tokK d1) false m (V.drop (k + 1)) ++ [mkT [93]]))) ((k + 1 + n : Nat) : Int) W e w' := by
  have hq := hP.lt
  have hk1 : IntKind.i64.wrap ((k : Int) + 1) = (k : Int) + 1 := IntWalk.i64_in _ (by omega)
  have hk2 : (k : Int).toNat = k := by omega
  have hk3 : (0 : Int) ≤ (k : Int) := by omega
  have hk4 : (k : Int) < (V.length : Int) := by omega
  have HK0 := Lib.hid hkids
  have HROOM := Lib.hid hroom
  have HROW := Lib.hid hrow
  have hLL : L.length ≤ 100000 := by omega
  obtain ⟨R, hR⟩ : ∃ R, L ++ (mkT [91] :: (kidsK (valN d1) (tokK d1) false m (V.drop (k + 1)) ++ [mkT [93]])) = R := ⟨_, rfl⟩
  have HR0 : Hid ((L ++ [mkT [91]]) ++ (kidsK (valN d1) (tokK d1) false m (V.drop (k + 1)) ++ [mkT [93]]) = R) := Lib.hid (by rw [← hR]; simp)
  rw [hR]
  obtain ⟨K, hK⟩ : ∃ K, k + 1 + n = K := ⟨_, rfl⟩
  have HK := Lib.hid hK
  rw [hK]
  obtain ⟨W3, hW3⟩ : ∃ W3, (((W.alloc (.cells #[.int .u8 6, .string nx, .string tx, .int .i64 nu, .int .i64 (m : Int)] 63 (0, 0))).alloc (.cells #[.string ⟨#[91]⟩, .string ⟨#[93]⟩] 128 (0, 0))).alloc (.cells #[.string ⟨#[91]⟩] 9 (0, 0))) = W3 := ⟨_, rfl⟩
  have hb3 : Below W.heap.size W W3 := by
    rw [← hW3]; exact (((Below.refl _ _).alloc (Nat.le_refl _) _).alloc (by simp) _).alloc (by simp; omega) _
  have HP3 := Lib.hid (hP.below hb3)
  have HK3 : Hid (RK q W W3) := Lib.hid (rk_below hb3 (Nat.le_of_lt hq))
  have HCB : Hid (W3.heap[W.heap.size]? = some (.cells #[.int .u8 6, .string nx, .string tx, .int .i64 nu, .int .i64 (m : Int)] 63 (0, 0))) := Lib.hid (by rw [← hW3]; exact heap_old (heap_old (heap_new _ _ _ rfl)))
  have HEB : Hid (W3.heap[W.heap.size + 1]? = some (.cells #[.string ⟨#[91]⟩, .string ⟨#[93]⟩] 128 (0, 0))) := Lib.hid (by rw [← hW3]; exact heap_old (heap_new _ _ _ (by simp)))
  have hl3 : W3.cell? ⟨W.heap.size + 1 + 1, 0, none⟩ = some (.string ⟨#[91]⟩) := by rw [← hW3]; exact Lib.cell_of_heap (heap_new _ _ _ (by simp)) 0
  have hne : W.heap.size + 1 + 1 ≠ q := by omega
  have HW3 := Lib.hid hW3
  clear hR hK hkids hroom hP hrow hb3 hW3
  go_enter Tryz.func35, Tryz.ntmps35
  go_wp2_with fail
  rw [HW3.out]
  refine (put_add q pv L 4 4 rfl ⟨#[91]⟩ _ 1 W3 HP3.out hl3 hne hLL).mono ?_; rintro e w1 ⟨rfl, ⟨pv1, hx1⟩, hx2⟩
  have HP4 : Hid (PutS q pv1 (L ++ [mkT [91]]) w1) := Lib.hid hx1
  have HK4 := Lib.hid (HK3.out.trans hx2)
  have HC4 := Lib.hid (hx2.2 _ _ HCB.out (by omega))
  have HE4 := Lib.hid (hx2.2 _ _ HEB.out (by omega))
  have m4 : w1.cell? ⟨W.heap.size, 4, none⟩ = some (.int .i64 (m : Int)) := by rw [Lib.cell_of_heap HC4.out]; rfl
  clear hx1 hx2 hl3 hne HW3 HP3 HK3 HCB HEB c0 c1 c2 c3 c4
  go_wp2_with fail
  clear m4
  have hcq : W.heap.size ≠ q := by omega
  have heq' : W.heap.size + 1 ≠ q := by omega
  generalize W.heap.size + 1 = eb at *
  generalize W.heap.size = cb at *
  go_loopg [2, 29] m (fun gk at_ ct wr => ∃ (j p u : Nat) (nm : List (List UInt8)) (L1 : List Tok) (pv1 : Value), at_ = .int .i64 (p : Int) ∧ ct = .int .i64 j ∧ (gk + j ≤ m ∧ m ≤ gk + j) ∧ p ≤ V.length ∧ Hid (p = k + 1 + u) ∧ j ≤ u ∧ Hid (L1.length ≤ L.length + 1 + 4 * u ∧ u ≤ n) ∧ Hid (KS V d1 k true (some n) gk nm u) ∧ Hid (L1 ++ (kidsK (valN d1) (tokK d1) false gk (V.drop p) ++ [mkT [93]]) = R) ∧ Hid (PutS q pv1 L1 wr) ∧ Hid (RK q W wr) ∧ Hid (wr.heap[cb]? = some (.cells #[.int .u8 6, .string nx, .string tx, .int .i64 nu, .int .i64 (m : Int)] 63 (0, 0))) ∧ Hid (wr.heap[eb]? = some (.cells #[.string ⟨#[91]⟩, .string ⟨#[93]⟩] 128 (0, 0))))
  case atStart => exact ⟨0, k + 1, 0, [], _, pv1, by go_num, rfl, ⟨by omega, by omega⟩, by omega, Lib.hid rfl, Nat.le_refl _, Lib.hid ⟨by simp, Nat.zero_le _⟩, HK0, HR0, HP4, HK4, HC4, HE4⟩
  case round =>
    clear HP4 HK4 HC4 HE4 HR0 HK0 hk1 hk2 hk3 hk4
    rename World => wr
    obtain ⟨j, p, u, nm, L1, pv1, rfl, rfl, ⟨hj, hj'⟩, hp, HPU, hju, HLEN, HKS, HRR, HPr, HKr, HCr, HEr⟩ := hrel
    have e0 : wr.cell? ⟨cb, 0, none⟩ = some (.int .u8 6) := by rw [Lib.cell_of_heap HCr.out]; rfl
    have hL1 : L1.length ≤ 90000 := by have z1 := HROOM.out; have z2 := HLEN.out.1; have z3 := HLEN.out.2; omega
    have hqr := HPr.out.lt
    by_cases hg0 : gk = 0
    · subst hg0
      have hdone := HKS.out.done
      have hjn : ¬ j < m := by omega
      have hu : u = n := (Option.some.inj hdone).symm
      have HPK : Hid (p = K) := Lib.hid (by rw [HPU.out, hu]; exact HK.out)
      have HF : Hid (L1 ++ [mkT [93]] = R) := Lib.hid (by have := HRR.out; rw [show kidsK (valN d1) (tokK d1) false 0 (V.drop p) = [] from rfl] at this; exact this)
      have z1 : wr.cell? ⟨eb, 1, none⟩ = some (.string ⟨#[93]⟩) := by rw [Lib.cell_of_heap HEr.out]; rfl
      have hb5 : Below wr.heap.size wr (wr.alloc (.cells #[.string ⟨#[93]⟩] 9 (0, 0))) := (Below.refl _ _).alloc (Nat.le_refl _) _
      have HP5 := Lib.hid (HPr.out.below hb5)
      have HK5 : Hid (RK q W _) := Lib.hid (HKr.out.trans (rk_below hb5 (Nat.le_of_lt hqr)))
      have hne5 : wr.heap.size ≠ q := by omega
      clear hdone hu hj hj' hju hb5
      go_wp2_with fail
      refine (put_add q pv1 L1 4 4 rfl ⟨#[93]⟩ _ 1 _ HP5.out (new_cell0 _ _ _) hne5 (by omega)).mono ?_; rintro e wx ⟨rfl, hx1, hx2⟩
      have HFIN : Hid (PEnd q R (K : Int) W (.returned (.int .i64 (p : Int))) wx) := Lib.hid (by
        rw [← HF.out, HPK.out]
        exact ⟨rfl, hx1, HK5.out.trans hx2⟩)
      clear hx1 hx2
      go_wp2_with fail
      go_ret
      exact HFIN.out
    · obtain ⟨g1, rfl⟩ : ∃ g1, gk = g1 + 1 := ⟨gk - 1, by omega⟩
      have hjm : j < m := by omega
      clear hg0
      obtain ⟨hpl, n1, hv1, hks⟩ := HKS.out.step HPU.out
      have hn1 := (valN_le _ _ _ hv1).1
      have hn2 := (valN_le _ _ _ hv1).2
      have hun1 : u + n1 ≤ n := by
        have := hks
        unfold KS at this
        obtain ⟨x, _, hx⟩ := Option.map_eq_some_iff.1 this
        omega
      rw [List.length_drop] at hn2
      have HT1 := Lib.hid (HTL.out p n1 hv1)
      have HUN := Lib.hid hun1
      clear hun1
      have hrr := HRR.out
      rw [kidsK, hv1, Option.getD_some, List.drop_drop] at hrr
      have HI : Hid (∀ (W' : World) (pv' : Value) (L' : List Tok), RK q W W' → L'.length + 4 * (n1 + 1) ≤ 90000 → PutS q pv' L' W' → CelRow b off V W' → Calls Tryz.prog 35 #[.pointer (some ⟨q, 0, none⟩), .slice (some ⟨b, off, none⟩) V.length cap, .int .i64 (p : Int)] W' fun e w' => PEnd q (L' ++ tokK d1 (V.drop p)) ((p + n1 : Nat) : Int) W' e w') := Lib.hid fun W' pv' L' h0 h1 h2 h3 => HIH.out W' pv' L' p n1 h0 hpl hv1 h1 h2 h3
      obtain ⟨p2, hp2⟩ : ∃ p2, p + n1 = p2 := ⟨_, rfl⟩
      have HP2 : Hid (p2 = k + 1 + (u + n1)) := Lib.hid (by rw [← hp2, HPU.out]; omega)
      have hp3 : p2 ≤ V.length := by omega
      have HKS2 := Lib.hid hks
      rw [hp2] at HI hrr
      have p5 : (p : Int).toNat = p := by omega
      have p6 : (0 : Int) ≤ (p : Int) := by omega
      have p7 : (p : Int) < (V.length : Int) := by omega
      have hbw : b ≠ q := by omega
      unfold preK at hrr
      rw [if_neg (by simp)] at hrr
      clear hv1 hks
      generalize tokK d1 (V.drop p) = tj at *
      have HRX : Hid ((L1 ++ tj) ++ (kidsK (valN d1) (tokK d1) false g1 (V.drop p2) ++ [mkT [93]]) = R) := Lib.hid (by rw [← hrr]; simp)
      have HJJ := Lib.hid (And.intro hj (And.intro hj' hju))
      clear hrr hj hj' hju
      have HP7 := HPr
      have HK7 : Hid (RK q wr wr) := Lib.hid ⟨Below.refl _ _, fun k o h _ => h⟩
      go_wp2_with fail
      refine (HI.out wr pv1 (L1) (HKr.out.trans HK7.out) (by have z1 := HROOM.out; have z2 := HLEN.out.1; have z3 := HLEN.out.2; have z4 := HT1.out; have z5 := HUN.out; (try simp only [List.length_append, List.length_cons, List.length_nil]); omega) HP7.out ((HROW.out.rk HKr.out hbw).rk HK7.out hbw)).mono ?_; rintro e w8 ⟨rfl, ⟨pv8, hx1⟩, hx2⟩
      have HP8 := Lib.hid hx1
      have hk8 := HK7.out.trans hx2
      have HK8 := Lib.hid (HKr.out.trans hk8)
      have HC8 := Lib.hid (hk8.2 _ _ HCr.out hcq)
      have HE8 := Lib.hid (hk8.2 _ _ HEr.out heq')
      have hz8 : IntKind.i64.wrap ((j : Int) + 1) = ((j + 1 : Nat) : Int) := by rw [IntWalk.i64_in _ (by omega)]; omega
      clear hx1 hx2 hk8
      go_wp2_with fail
      obtain ⟨hj, hj', hju⟩ := HJJ.out
      go_roundg g1
      case measure => omega
      case rel => exact ⟨j + 1, p2, u + n1, _, _, pv8, rfl, by first | rfl | go_num, ⟨by omega, by omega⟩, hp3, HP2, by omega, Lib.hid ⟨by have z1 := HROOM.out; have z2 := HLEN.out.1; have z3 := HLEN.out.2; have z4 := HT1.out; have z5 := HUN.out; (try simp only [List.length_append, List.length_cons, List.length_nil]); omega, HUN.out⟩, HKS2, HRX, HP8, HK8, HC8, HE8⟩
set_option maxRecDepth 100000 in
set_option maxHeartbeats 4000000 in
theorem up_obj (q b off cap k : Nat) (V : List Cel) (pv : Value) (L : List Tok) (W : World) (nx tx : ByteArray) (nu : Int) (m : Nat) (hP : PutS q pv L W)
    (hk : k < V.length) (hl : V.length ≤ 2048) (hrow : CelRow b off V W) (hbq : b < q)
    (c0 : W.cell? ⟨b, off + k * 5, none⟩ = some (.int .u8 7)) (c1 : W.cell? ⟨b, off + k * 5 + 1, none⟩ = some (.string nx)) (c2 : W.cell? ⟨b, off + k * 5 + 2, none⟩ = some (.string tx)) (c3 : W.cell? ⟨b, off + k * 5 + 3, none⟩ = some (.int .i64 nu)) (c4 : W.cell? ⟨b, off + k * 5 + 4, none⟩ = some (.int .i64 (m : Int)))
    (hmx : (m : Int) ≤ 9223372036854775807) (d1 n : Nat) (hkids : KS V d1 k false (some n) m [] 0) (hroom : L.length + 4 * (n + 2) ≤ 90000)
    (HTL : Hid (∀ (p n1 : Nat), valN d1 (V.drop p) = some n1 → (tokK d1 (V.drop p)).length + 2 ≤ 4 * n1))
    (HIH : Hid (∀ (W' : World) (pv' : Value) (L' : List Tok) (p n1 : Nat), RK q W W' → p < V.length → valN d1 (V.drop p) = some n1 → L'.length + 4 * (n1 + 1) ≤ 90000 → PutS q pv' L' W' → CelRow b off V W' → Calls Tryz.prog 35 #[.pointer (some ⟨q, 0, none⟩), .slice (some ⟨b, off, none⟩) V.length cap, .int .i64 (p : Int)] W' fun e w' => PEnd q (L' ++ tokK d1 (V.drop p)) ((p + n1 : Nat) : Int) W' e w')) :
    Calls Tryz.prog 35 #[.pointer (some ⟨q, 0, none⟩), .slice (some ⟨b, off, none⟩) V.length cap, .int .i64 (k : Int)] W fun e w' => PEnd q (L ++ (mkT [123] :: (kidsK (valN d1) (tokK d1) true m (V.drop (k + 1)) ++ [mkT [125]]))) ((k + 1 + n : Nat) : Int) W e w' := by
  have hq := hP.lt
  have hk1 : IntKind.i64.wrap ((k : Int) + 1) = (k : Int) + 1 := IntWalk.i64_in _ (by omega)
  have hk2 : (k : Int).toNat = k := by omega
  have hk3 : (0 : Int) ≤ (k : Int) := by omega
  have hk4 : (k : Int) < (V.length : Int) := by omega
  have HK0 := Lib.hid hkids
  have HROOM := Lib.hid hroom
  have HROW := Lib.hid hrow
  have hLL : L.length ≤ 100000 := by omega
  obtain ⟨R, hR⟩ : ∃ R, L ++ (mkT [123] :: (kidsK (valN d1) (tokK d1) true m (V.drop (k + 1)) ++ [mkT [125]])) = R := ⟨_, rfl⟩
  have HR0 : Hid ((L ++ [mkT [123]]) ++ (kidsK (valN d1) (tokK d1) true m (V.drop (k + 1)) ++ [mkT [125]]) = R) := Lib.hid (by rw [← hR]; simp)
  rw [hR]
  obtain ⟨K, hK⟩ : ∃ K, k + 1 + n = K := ⟨_, rfl⟩
  have HK := Lib.hid hK
  rw [hK]
  obtain ⟨W3, hW3⟩ : ∃ W3, (((W.alloc (.cells #[.int .u8 7, .string nx, .string tx, .int .i64 nu, .int .i64 (m : Int)] 63 (0, 0))).alloc (.cells #[.string ⟨#[123]⟩, .string ⟨#[125]⟩] 128 (0, 0))).alloc (.cells #[.string ⟨#[123]⟩] 9 (0, 0))) = W3 := ⟨_, rfl⟩
  have hb3 : Below W.heap.size W W3 := by
    rw [← hW3]; exact (((Below.refl _ _).alloc (Nat.le_refl _) _).alloc (by simp) _).alloc (by simp; omega) _
  have HP3 := Lib.hid (hP.below hb3)
  have HK3 : Hid (RK q W W3) := Lib.hid (rk_below hb3 (Nat.le_of_lt hq))
  have HCB : Hid (W3.heap[W.heap.size]? = some (.cells #[.int .u8 7, .string nx, .string tx, .int .i64 nu, .int .i64 (m : Int)] 63 (0, 0))) := Lib.hid (by rw [← hW3]; exact heap_old (heap_old (heap_new _ _ _ rfl)))
  have HEB : Hid (W3.heap[W.heap.size + 1]? = some (.cells #[.string ⟨#[123]⟩, .string ⟨#[125]⟩] 128 (0, 0))) := Lib.hid (by rw [← hW3]; exact heap_old (heap_new _ _ _ (by simp)))
  have hl3 : W3.cell? ⟨W.heap.size + 1 + 1, 0, none⟩ = some (.string ⟨#[123]⟩) := by rw [← hW3]; exact Lib.cell_of_heap (heap_new _ _ _ (by simp)) 0
  have hne : W.heap.size + 1 + 1 ≠ q := by omega
  have HW3 := Lib.hid hW3
  clear hR hK hkids hroom hP hrow hb3 hW3
  go_enter Tryz.func35, Tryz.ntmps35
  go_wp2_with fail
  rw [HW3.out]
  refine (put_add q pv L 4 4 rfl ⟨#[123]⟩ _ 1 W3 HP3.out hl3 hne hLL).mono ?_; rintro e w1 ⟨rfl, ⟨pv1, hx1⟩, hx2⟩
  have HP4 : Hid (PutS q pv1 (L ++ [mkT [123]]) w1) := Lib.hid hx1
  have HK4 := Lib.hid (HK3.out.trans hx2)
  have HC4 := Lib.hid (hx2.2 _ _ HCB.out (by omega))
  have HE4 := Lib.hid (hx2.2 _ _ HEB.out (by omega))
  have m4 : w1.cell? ⟨W.heap.size, 4, none⟩ = some (.int .i64 (m : Int)) := by rw [Lib.cell_of_heap HC4.out]; rfl
  clear hx1 hx2 hl3 hne HW3 HP3 HK3 HCB HEB c0 c1 c2 c3 c4
  go_wp2_with fail
  clear m4
  have hcq : W.heap.size ≠ q := by omega
  have heq' : W.heap.size + 1 ≠ q := by omega
  generalize W.heap.size + 1 = eb at *
  generalize W.heap.size = cb at *
  go_loopg [2, 29] m (fun gk at_ ct wr => ∃ (j p u : Nat) (nm : List (List UInt8)) (L1 : List Tok) (pv1 : Value), at_ = .int .i64 (p : Int) ∧ ct = .int .i64 j ∧ (gk + j ≤ m ∧ m ≤ gk + j) ∧ p ≤ V.length ∧ Hid (p = k + 1 + u) ∧ j ≤ u ∧ Hid (L1.length ≤ L.length + 1 + 4 * u ∧ u ≤ n) ∧ Hid (KS V d1 k false (some n) gk nm u) ∧ Hid (L1 ++ (kidsK (valN d1) (tokK d1) true gk (V.drop p) ++ [mkT [125]]) = R) ∧ Hid (PutS q pv1 L1 wr) ∧ Hid (RK q W wr) ∧ Hid (wr.heap[cb]? = some (.cells #[.int .u8 7, .string nx, .string tx, .int .i64 nu, .int .i64 (m : Int)] 63 (0, 0))) ∧ Hid (wr.heap[eb]? = some (.cells #[.string ⟨#[123]⟩, .string ⟨#[125]⟩] 128 (0, 0))))
  case atStart => exact ⟨0, k + 1, 0, [], _, pv1, by go_num, rfl, ⟨by omega, by omega⟩, by omega, Lib.hid rfl, Nat.le_refl _, Lib.hid ⟨by simp, Nat.zero_le _⟩, HK0, HR0, HP4, HK4, HC4, HE4⟩
  case round =>
    clear HP4 HK4 HC4 HE4 HR0 HK0 hk1 hk2 hk3 hk4
    rename World => wr
    obtain ⟨j, p, u, nm, L1, pv1, rfl, rfl, ⟨hj, hj'⟩, hp, HPU, hju, HLEN, HKS, HRR, HPr, HKr, HCr, HEr⟩ := hrel
    have e0 : wr.cell? ⟨cb, 0, none⟩ = some (.int .u8 7) := by rw [Lib.cell_of_heap HCr.out]; rfl
    have hL1 : L1.length ≤ 90000 := by have z1 := HROOM.out; have z2 := HLEN.out.1; have z3 := HLEN.out.2; omega
    have hqr := HPr.out.lt
    by_cases hg0 : gk = 0
    · subst hg0
      have hdone := HKS.out.done
      have hjn : ¬ j < m := by omega
      have hu : u = n := (Option.some.inj hdone).symm
      have HPK : Hid (p = K) := Lib.hid (by rw [HPU.out, hu]; exact HK.out)
      have HF : Hid (L1 ++ [mkT [125]] = R) := Lib.hid (by have := HRR.out; rw [show kidsK (valN d1) (tokK d1) true 0 (V.drop p) = [] from rfl] at this; exact this)
      have z1 : wr.cell? ⟨eb, 1, none⟩ = some (.string ⟨#[125]⟩) := by rw [Lib.cell_of_heap HEr.out]; rfl
      have hb5 : Below wr.heap.size wr (wr.alloc (.cells #[.string ⟨#[125]⟩] 9 (0, 0))) := (Below.refl _ _).alloc (Nat.le_refl _) _
      have HP5 := Lib.hid (HPr.out.below hb5)
      have HK5 : Hid (RK q W _) := Lib.hid (HKr.out.trans (rk_below hb5 (Nat.le_of_lt hqr)))
      have hne5 : wr.heap.size ≠ q := by omega
      clear hdone hu hj hj' hju hb5
      go_wp2_with fail
      refine (put_add q pv1 L1 4 4 rfl ⟨#[125]⟩ _ 1 _ HP5.out (new_cell0 _ _ _) hne5 (by omega)).mono ?_; rintro e wx ⟨rfl, hx1, hx2⟩
      have HFIN : Hid (PEnd q R (K : Int) W (.returned (.int .i64 (p : Int))) wx) := Lib.hid (by
        rw [← HF.out, HPK.out]
        exact ⟨rfl, hx1, HK5.out.trans hx2⟩)
      clear hx1 hx2
      go_wp2_with fail
      go_ret
      exact HFIN.out
    · obtain ⟨g1, rfl⟩ : ∃ g1, gk = g1 + 1 := ⟨gk - 1, by omega⟩
      have hjm : j < m := by omega
      clear hg0
      obtain ⟨hpl, n1, hv1, hks⟩ := HKS.out.step HPU.out
      have hn1 := (valN_le _ _ _ hv1).1
      have hn2 := (valN_le _ _ _ hv1).2
      have hun1 : u + n1 ≤ n := by
        have := hks
        unfold KS at this
        obtain ⟨x, _, hx⟩ := Option.map_eq_some_iff.1 this
        omega
      rw [List.length_drop] at hn2
      have HT1 := Lib.hid (HTL.out p n1 hv1)
      have HUN := Lib.hid hun1
      clear hun1
      have hrr := HRR.out
      rw [kidsK, hv1, Option.getD_some, List.drop_drop] at hrr
      have HI : Hid (∀ (W' : World) (pv' : Value) (L' : List Tok), RK q W W' → L'.length + 4 * (n1 + 1) ≤ 90000 → PutS q pv' L' W' → CelRow b off V W' → Calls Tryz.prog 35 #[.pointer (some ⟨q, 0, none⟩), .slice (some ⟨b, off, none⟩) V.length cap, .int .i64 (p : Int)] W' fun e w' => PEnd q (L' ++ tokK d1 (V.drop p)) ((p + n1 : Nat) : Int) W' e w') := Lib.hid fun W' pv' L' h0 h1 h2 h3 => HIH.out W' pv' L' p n1 h0 hpl hv1 h1 h2 h3
      obtain ⟨p2, hp2⟩ : ∃ p2, p + n1 = p2 := ⟨_, rfl⟩
      have HP2 : Hid (p2 = k + 1 + (u + n1)) := Lib.hid (by rw [← hp2, HPU.out]; omega)
      have hp3 : p2 ≤ V.length := by omega
      have HKS2 := Lib.hid hks
      rw [hp2] at HI hrr
      have p5 : (p : Int).toNat = p := by omega
      have p6 : (0 : Int) ≤ (p : Int) := by omega
      have p7 : (p : Int) < (V.length : Int) := by omega
      have hbw : b ≠ q := by omega
      have hhd : ((V.drop p).headD ⟨0, [], [], 0, 0⟩).name = V[p].name := by rw [List.drop_eq_getElem_cons hpl]; rfl
      unfold preK at hrr
      rw [hhd, if_pos rfl] at hrr
      obtain ⟨_, r1, _⟩ := (HROW.out.rk HKr.out hbw) p hpl
      obtain ⟨xn, hxn⟩ : ∃ x : ByteArray, (⟨V[p].name.toArray⟩ : ByteArray) = x := ⟨_, rfl⟩
      have hxl : xn.data.toList = V[p].name := by rw [← hxn]
      rw [hxn] at r1
      rw [← hxl] at hrr
      clear hhd hxn hxl hv1 hks
      generalize tokK d1 (V.drop p) = tj at *
      have HRX : Hid ((L1 ++ [nmT xn.data.toList] ++ [mkT [58]] ++ tj) ++ (kidsK (valN d1) (tokK d1) true g1 (V.drop p2) ++ [mkT [125]]) = R) := Lib.hid (by rw [← hrr]; simp)
      have HJJ := Lib.hid (And.intro hj (And.intro hj' hju))
      clear hrr hj hj' hju
      have hb5 : Below wr.heap.size wr (wr.alloc (.cells #[.string xn] 9 (0, 0))) := (Below.refl _ _).alloc (Nat.le_refl _) _
      have HP5 := Lib.hid (HPr.out.below hb5)
      have HK5 : Hid (RK q wr _) := Lib.hid (rk_below hb5 (Nat.le_of_lt hqr))
      have hne5 : wr.heap.size ≠ q := by omega
      clear hb5
      go_wp2_with fail
      refine (put_add q pv1 L1 1 1 rfl xn _ 1 _ HP5.out (new_cell0 _ _ _) hne5 (by omega)).mono ?_; rintro e w2 ⟨rfl, ⟨pv2, hx1⟩, hx2⟩
      have hb6 : Below w2.heap.size w2 (w2.alloc (.cells #[.string ⟨#[58]⟩] 9 (0, 0))) := (Below.refl _ _).alloc (Nat.le_refl _) _
      have HP6 : Hid (PutS q pv2 (L1 ++ [nmT xn.data.toList]) _) := Lib.hid (hx1.below hb6)
      have HK6 : Hid (RK q wr _) := Lib.hid ((HK5.out.trans hx2).trans (rk_below hb6 (Nat.le_of_lt hx1.lt)))
      have hne6 : w2.heap.size ≠ q := by have := hx1.lt; omega
      clear hx1 hx2 hb6 r1
      go_wp2_with fail
      refine (put_add q pv2 _ 4 4 rfl ⟨#[58]⟩ _ 1 _ HP6.out (new_cell0 _ _ _) hne6 (by simp; omega)).mono ?_; rintro e w3 ⟨rfl, ⟨pv3, hx1⟩, hx2⟩
      have HP7 : Hid (PutS q pv3 (L1 ++ [nmT xn.data.toList] ++ [mkT [58]]) w3) := Lib.hid hx1
      have HK7 := Lib.hid (HK6.out.trans hx2)
      clear hx1 hx2
      go_wp2_with fail
      refine (HI.out w3 pv3 (L1 ++ [nmT xn.data.toList] ++ [mkT [58]]) (HKr.out.trans HK7.out) (by have z1 := HROOM.out; have z2 := HLEN.out.1; have z3 := HLEN.out.2; have z4 := HT1.out; have z5 := HUN.out; (try simp only [List.length_append, List.length_cons, List.length_nil]); omega) HP7.out ((HROW.out.rk HKr.out hbw).rk HK7.out hbw)).mono ?_; rintro e w8 ⟨rfl, ⟨pv8, hx1⟩, hx2⟩
      have HP8 := Lib.hid hx1
      have hk8 := HK7.out.trans hx2
      have HK8 := Lib.hid (HKr.out.trans hk8)
      have HC8 := Lib.hid (hk8.2 _ _ HCr.out hcq)
      have HE8 := Lib.hid (hk8.2 _ _ HEr.out heq')
      have hz8 : IntKind.i64.wrap ((j : Int) + 1) = ((j + 1 : Nat) : Int) := by rw [IntWalk.i64_in _ (by omega)]; omega
      clear hx1 hx2 hk8
      go_wp2_with fail
      obtain ⟨hj, hj', hju⟩ := HJJ.out
      go_roundg g1
      case measure => omega
      case rel => exact ⟨j + 1, p2, u + n1, _, _, pv8, rfl, by first | rfl | go_num, ⟨by omega, by omega⟩, hp3, HP2, by omega, Lib.hid ⟨by have z1 := HROOM.out; have z2 := HLEN.out.1; have z3 := HLEN.out.2; have z4 := HT1.out; have z5 := HUN.out; (try simp only [List.length_append, List.length_cons, List.length_nil]); omega, HUN.out⟩, HKS2, HRX, HP8, HK8, HC8, HE8⟩
end Go.Proofs.YtgaknbnhmoddcaaGreatDoor
namespace Go.Proofs.YtgaknbnhmoddcaaGreatDoor
open Go.RowKit
theorem kind_k (c : Cel) (k : Nat) (hk : k < 256) (h : c.kind.toNat = k) : c.kind = UInt8.ofNat k := by
  refine UInt8.toNat_inj.1 ?_
  rw [UInt8.toNat_ofNat', h]; omega
def NumV (V : List Cel) : Prop := ∀ c ∈ V, R c.num ∧ R c.many
set_option maxRecDepth 100000 in
set_option maxHeartbeats 2000000 in
theorem up_case (w0 : World) (V : List Cel) (q b off cap : Nat) (hs : NumV V) (hl : V.length ≤ 2048) (hET : EnvT w0) (hq0 : w0.heap.size ≤ q) (hbq : b < q)
    (d : Nat) (W : World) (pv : Value) (L : List Tok) (k n : Nat) (hk : k < V.length) (hv : valN d (V.drop k) = some n) (hroom : L.length + 4 * (n + 1) ≤ 90000) (hP : PutS q pv L W) (hrow : CelRow b off V W) (hW : Below w0.heap.size w0 W)
    (HIH : ∀ d1, d = d1 + 1 → Hid (∀ (W' : World) (pv' : Value) (L' : List Tok) (p n1 : Nat), RK q W W' → p < V.length → valN d1 (V.drop p) = some n1 → L'.length + 4 * (n1 + 1) ≤ 90000 → PutS q pv' L' W' → CelRow b off V W' → Calls Tryz.prog 35 #[.pointer (some ⟨q, 0, none⟩), .slice (some ⟨b, off, none⟩) V.length cap, .int .i64 (p : Int)] W' fun e w' => PEnd q (L' ++ tokK d1 (V.drop p)) ((p + n1 : Nat) : Int) W' e w')) :
    Calls Tryz.prog 35 #[.pointer (some ⟨q, 0, none⟩), .slice (some ⟨b, off, none⟩) V.length cap, .int .i64 (k : Int)] W fun e w' => PEnd q (L ++ tokK d (V.drop k)) ((k + n : Nat) : Int) W e w' := by
  obtain ⟨c0, c1, c2, c3, c4⟩ := hrow k hk
  obtain ⟨s3, s4⟩ := hs V[k] (List.getElem_mem _)
  have hval := valN_drop V k d hk
  rw [hv] at hval
  have hnest := nest_kind V[k]
  have hone := one_kind V[k]
  have hkl := UInt8.toNat_lt V[k].kind
  have ho : oneC V[k] = true := by
    cases h : oneC V[k] with
    | true => rfl
    | false => rw [h] at hval; cases hval
  rw [ho, if_pos rfl] at hval
  rw [ho] at hone
  have h7 : V[k].kind.toNat ≤ 7 := by
    have := hone.symm
    simp only [Bool.and_eq_true, decide_eq_true_eq] at this
    exact this.1
  have hdrop := List.drop_eq_getElem_cons hk
  have hlit : nestC V[k] = false → tokK d (V.drop k) = litK V[k] ∧ n = 1 := by
    intro h
    rw [h, if_neg Bool.false_ne_true] at hval
    refine ⟨?_, Option.some.inj hval⟩
    rw [hdrop]
    cases d with
    | zero => rw [tokK_zero, headK_cons, h]; rfl
    | succ d => rw [tokK_more, headK_cons, h]; rfl
  have hcast : ((k + 1 : Nat) : Int) = (k : Int) + 1 := by omega
  have hll : L.length + 8 ≤ 100000 := by omega
  have htl : (⟨V[k].text.toArray⟩ : ByteArray).data.toList = V[k].text := by simp
  have h8 : V[k].kind.toNat = 0 ∨ V[k].kind.toNat = 1 ∨ V[k].kind.toNat = 2 ∨ V[k].kind.toNat = 3 ∨ V[k].kind.toNat = 4 ∨ V[k].kind.toNat = 5 ∨ V[k].kind.toNat = 6 ∨ V[k].kind.toNat = 7 := by omega
  rcases h8 with h | h | h | h | h | h | h | h
  · obtain ⟨e1, rfl⟩ := hlit (by rw [hnest, h]; rfl)
    have hk0 := kind_k V[k] 0 (by omega) h
    rw [e1, hcast]
    have : litK V[k] = [nmT [110, 117, 108, 108]] := by unfold litK; rw [hk0]; rfl
    rw [this]
    exact up_null q b off V.length cap k pv L W _ _ _ _ _ hP hk hl hll c0 c1 c2 c3 c4 h
  · obtain ⟨e1, rfl⟩ := hlit (by rw [hnest, h]; rfl)
    have hk0 := kind_k V[k] 1 (by omega) h
    rw [e1, hcast]
    have hnum : V[k].num = 0 ∨ V[k].num = 1 := by
      rw [h] at hone
      have := hone.symm
      simp only [Bool.and_eq_true] at this
      have h2 := this.2.1.2
      unfold cnum at h2
      simpa using h2
    rcases hnum with hn0 | hn1
    · have : litK V[k] = [nmT [102, 97, 108, 115, 101]] := by unfold litK; rw [hk0, hn0]; rfl
      rw [this]
      exact up_false q b off V.length cap k pv L W _ _ _ _ _ hP hk hl hll c0 c1 c2 c3 c4 h hn0
    · have : litK V[k] = [nmT [116, 114, 117, 101]] := by unfold litK; rw [hk0, hn1]; rfl
      rw [this]
      exact up_true q b off V.length cap k pv L W _ _ _ _ _ hP hk hl hll c0 c1 c2 c3 c4 h hn1
  · obtain ⟨e1, rfl⟩ := hlit (by rw [hnest, h]; rfl)
    have hk0 := kind_k V[k] 2 (by omega) h
    rw [e1, hcast]
    have : litK V[k] = [⟨2, Lib.itoa V[k].num, 0⟩] := by unfold litK; rw [hk0]; rfl
    rw [this]
    exact up_int q b off V.length cap k pv L W _ _ _ _ _ hP hk hl hll c0 c1 c2 c3 c4 h (Lib.hid fun W' hW' => write_tab V[k].num s3 W' (hET.stays (hW.trans (hW'.mono hW.size))))
  · obtain ⟨e1, rfl⟩ := hlit (by rw [hnest, h]; rfl)
    have hk0 := kind_k V[k] 3 (by omega) h
    rw [e1, hcast]
    have : litK V[k] = [⟨3, (⟨V[k].text.toArray⟩ : ByteArray).data.toList, 0⟩] := by unfold litK; rw [hk0, htl]; rfl
    rw [this]
    exact up_text q b off V.length cap k pv L W _ _ _ _ _ hP hk hl hll c0 c1 c2 c3 c4 h
  · obtain ⟨e1, rfl⟩ := hlit (by rw [hnest, h]; rfl)
    have hk0 := kind_k V[k] 4 (by omega) h
    rw [e1, hcast]
    have : litK V[k] = [⟨1, (⟨V[k].text.toArray⟩ : ByteArray).data.toList, 0⟩] := by unfold litK; rw [hk0, htl]; rfl
    rw [this]
    exact up_enum q b off V.length cap k pv L W _ _ _ _ _ hP hk hl hll c0 c1 c2 c3 c4 h
  · obtain ⟨e1, rfl⟩ := hlit (by rw [hnest, h]; rfl)
    have hk0 := kind_k V[k] 5 (by omega) h
    rw [e1, hcast]
    have : litK V[k] = [mkT [36], nmT (⟨V[k].text.toArray⟩ : ByteArray).data.toList] := by unfold litK; rw [hk0, htl]; rfl
    rw [this]
    exact up_var q b off V.length cap k pv L W _ _ _ _ _ hP hk hl hll c0 c1 c2 c3 c4 h
  all_goals
    have hcn : cnest V[k].kind.toNat = true := by rw [h]; rfl
    rw [hnest, hcn, if_pos rfl] at hval
    cases d with
    | zero => cases hval
    | succ d1 =>
      dsimp only at hval
      obtain ⟨n', hn', hnn⟩ := Option.map_eq_some_iff.1 hval.symm
      have hm : 0 ≤ V[k].many := by
        have := hone.symm
        rw [hcn] at this
        simp only [Bool.and_eq_true, if_pos rfl, decide_eq_true_eq] at this
        simpa using this.2.2
      obtain ⟨m, hm2⟩ := Int.eq_ofNat_of_zero_le hm
      have hmt : V[k].many.toNat = m := by rw [hm2]; rfl
      have hmx : (m : Int) ≤ 9223372036854775807 := by rw [← hm2]; exact s4.2
      rw [hmt] at hn'
      rw [hm2] at c4
      have htext : tokK (d1 + 1) (V.drop k) = opnK V[k] :: (kidsK (valN d1) (tokK d1) (!(V[k].kind == 6)) m (V.drop (k + 1)) ++ [shtK V[k]]) := by
        rw [hdrop, tokK_more, headK_cons, hnest, hcn, if_pos rfl, hmt]
      have hKn : ((k + n : Nat) : Int) = ((k + 1 + n' : Nat) : Int) := by omega
      have HTL : Hid (∀ (p n1 : Nat), valN d1 (V.drop p) = some n1 → (tokK d1 (V.drop p)).length + 2 ≤ 4 * n1) := Lib.hid fun p n1 h => tokK_len d1 _ n1 h
      rw [htext, hKn]
      unfold opnK shtK
      rw [h] at c0
      first
        | (have hk6 : (V[k].kind == 6) = true := beq_iff_eq.2 (kind_k V[k] 6 (by omega) h)
           rw [hk6] at hn' ⊢
           rw [if_pos rfl, if_pos rfl, Bool.not_true]
           have hks := KS.start hn'
           have hrm : L.length + 4 * (n' + 2) ≤ 90000 := by omega
           exact up_list q b off cap k V pv L W _ _ _ m hP hk hl hrow hbq c0 c1 c2 c3 c4 hmx d1 n' hks hrm HTL (HIH d1 rfl))
        | (have hk6 : (V[k].kind == 6) = false := beq_eq_false_iff_ne.2 fun e => by rw [e] at h; exact absurd h (by decide)
           rw [hk6] at hn' ⊢
           rw [if_neg Bool.false_ne_true, if_neg Bool.false_ne_true, Bool.not_false]
           have hks := KS.start hn'
           have hrm : L.length + 4 * (n' + 2) ≤ 90000 := by omega
           exact up_obj q b off cap k V pv L W _ _ _ m hP hk hl hrow hbq c0 c1 c2 c3 c4 hmx d1 n' hks hrm HTL (HIH d1 rfl))
theorem up_any (w0 : World) (V : List Cel) (q b off cap : Nat) (hs : NumV V) (hl : V.length ≤ 2048) (hET : EnvT w0) (hq0 : w0.heap.size ≤ q) (hbq : b < q) :
    ∀ (d : Nat) (W : World) (pv : Value) (L : List Tok) (k n : Nat), k < V.length → valN d (V.drop k) = some n → L.length + 4 * (n + 1) ≤ 90000 → PutS q pv L W → CelRow b off V W → Below w0.heap.size w0 W →
    Calls Tryz.prog 35 #[.pointer (some ⟨q, 0, none⟩), .slice (some ⟨b, off, none⟩) V.length cap, .int .i64 (k : Int)] W fun e w' => PEnd q (L ++ tokK d (V.drop k)) ((k + n : Nat) : Int) W e w' := by
  intro d
  induction d with
  | zero => intro W pv L k n hk hv hr hP hrow hW; exact up_case w0 V q b off cap hs hl hET hq0 hbq 0 W pv L k n hk hv hr hP hrow hW (fun d1 h => by omega)
  | succ d ih =>
    intro W pv L k n hk hv hr hP hrow hW
    refine up_case w0 V q b off cap hs hl hET hq0 hbq (d + 1) W pv L k n hk hv hr hP hrow hW (fun d1 h => ?_)
    obtain rfl : d = d1 := by omega
    exact Lib.hid fun W' pv' L' p n1 h0 h1 h2 h3 h4 h5 => ih W' pv' L' p n1 h1 h2 h3 h4 h5 (hW.trans (h0.1.mono hq0))
end Go.Proofs.YtgaknbnhmoddcaaGreatDoor
namespace Go.Proofs.YtgaknbnhmoddcaaGreatDoor
open Go.RowKit
set_option maxRecDepth 100000 in
theorem ixw_0 (s : ByteArray) (lb c : Nat) (W : World) (h0 : W.cell? ⟨lb, 0, none⟩ = some (.string ⟨#[110, 117, 108, 108]⟩)) (h1 : W.cell? ⟨lb, 1, none⟩ = some (.string ⟨#[116, 114, 117, 101]⟩)) (h2 : W.cell? ⟨lb, 2, none⟩ = some (.string ⟨#[102, 97, 108, 115, 101]⟩)) (t0 : (s.toList == [110, 117, 108, 108]) = true) :
    Calls Tryz.prog 94 #[.slice (some ⟨lb, 0, none⟩) 3 c, .string s] W fun e w' => e = .returned (.int .i64 (0)) ∧ W = w' := by
  go_enter Tryz.func94, Tryz.ntmps94
  go_wp2_with fail
  refine wp_loop_rounds 4 ?_
  repeat any_goals (rw [rounds_succ]; go_wp2_with fail)
  all_goals (go_ret; exact ⟨rfl, rfl⟩)
set_option maxRecDepth 100000 in
theorem ixw_1 (s : ByteArray) (lb c : Nat) (W : World) (h0 : W.cell? ⟨lb, 0, none⟩ = some (.string ⟨#[110, 117, 108, 108]⟩)) (h1 : W.cell? ⟨lb, 1, none⟩ = some (.string ⟨#[116, 114, 117, 101]⟩)) (h2 : W.cell? ⟨lb, 2, none⟩ = some (.string ⟨#[102, 97, 108, 115, 101]⟩)) (t0 : (s.toList == [110, 117, 108, 108]) = false) (t1 : (s.toList == [116, 114, 117, 101]) = true) :
    Calls Tryz.prog 94 #[.slice (some ⟨lb, 0, none⟩) 3 c, .string s] W fun e w' => e = .returned (.int .i64 (1)) ∧ W = w' := by
  go_enter Tryz.func94, Tryz.ntmps94
  go_wp2_with fail
  refine wp_loop_rounds 4 ?_
  repeat any_goals (rw [rounds_succ]; go_wp2_with fail)
  all_goals (go_ret; exact ⟨rfl, rfl⟩)
set_option maxRecDepth 100000 in
theorem ixw_2 (s : ByteArray) (lb c : Nat) (W : World) (h0 : W.cell? ⟨lb, 0, none⟩ = some (.string ⟨#[110, 117, 108, 108]⟩)) (h1 : W.cell? ⟨lb, 1, none⟩ = some (.string ⟨#[116, 114, 117, 101]⟩)) (h2 : W.cell? ⟨lb, 2, none⟩ = some (.string ⟨#[102, 97, 108, 115, 101]⟩)) (t0 : (s.toList == [110, 117, 108, 108]) = false) (t1 : (s.toList == [116, 114, 117, 101]) = false) (t2 : (s.toList == [102, 97, 108, 115, 101]) = true) :
    Calls Tryz.prog 94 #[.slice (some ⟨lb, 0, none⟩) 3 c, .string s] W fun e w' => e = .returned (.int .i64 (2)) ∧ W = w' := by
  go_enter Tryz.func94, Tryz.ntmps94
  go_wp2_with fail
  refine wp_loop_rounds 4 ?_
  repeat any_goals (rw [rounds_succ]; go_wp2_with fail)
  all_goals (go_ret; exact ⟨rfl, rfl⟩)
set_option maxRecDepth 100000 in
theorem ixw_no (s : ByteArray) (lb c : Nat) (W : World) (h0 : W.cell? ⟨lb, 0, none⟩ = some (.string ⟨#[110, 117, 108, 108]⟩)) (h1 : W.cell? ⟨lb, 1, none⟩ = some (.string ⟨#[116, 114, 117, 101]⟩)) (h2 : W.cell? ⟨lb, 2, none⟩ = some (.string ⟨#[102, 97, 108, 115, 101]⟩)) (t0 : (s.toList == [110, 117, 108, 108]) = false) (t1 : (s.toList == [116, 114, 117, 101]) = false) (t2 : (s.toList == [102, 97, 108, 115, 101]) = false) :
    Calls Tryz.prog 94 #[.slice (some ⟨lb, 0, none⟩) 3 c, .string s] W fun e w' => e = .returned (.int .i64 (-1)) ∧ W = w' := by
  go_enter Tryz.func94, Tryz.ntmps94
  go_wp2_with fail
  refine wp_loop_rounds 4 ?_
  repeat any_goals (rw [rounds_succ]; go_wp2_with fail)
  all_goals (go_ret; exact ⟨rfl, rfl⟩)
theorem ixw_any (s : ByteArray) (lb c : Nat) (W : World) (h0 : W.cell? ⟨lb, 0, none⟩ = some (.string ⟨#[110, 117, 108, 108]⟩)) (h1 : W.cell? ⟨lb, 1, none⟩ = some (.string ⟨#[116, 114, 117, 101]⟩)) (h2 : W.cell? ⟨lb, 2, none⟩ = some (.string ⟨#[102, 97, 108, 115, 101]⟩)) :
    ∃ i : Int, (decide (0 ≤ i) = wordsK.contains s.data.toList) ∧ Calls Tryz.prog 94 #[.slice (some ⟨lb, 0, none⟩) 3 c, .string s] W fun e w' => e = .returned (.int .i64 i) ∧ W = w' := by
  have e : wordsK.contains s.data.toList = (s.toList == [110, 117, 108, 108] || s.toList == [116, 114, 117, 101] || s.toList == [102, 97, 108, 115, 101]) := by
    unfold wordsK
    rw [ByteArray.toList_eq]
    simp only [List.contains_cons, List.contains_nil, Bool.or_false, Bool.or_assoc]
  rw [e]
  cases t0 : (s.toList == [110, 117, 108, 108]) with
  | true => exact ⟨0, rfl, ixw_0 s lb c W h0 h1 h2 t0⟩
  | false =>
    cases t1 : (s.toList == [116, 114, 117, 101]) with
    | true => exact ⟨1, rfl, ixw_1 s lb c W h0 h1 h2 t0 t1⟩
    | false =>
      cases t2 : (s.toList == [102, 97, 108, 115, 101]) with
      | true => exact ⟨2, rfl, ixw_2 s lb c W h0 h1 h2 t0 t1 t2⟩
      | false => exact ⟨-1, rfl, ixw_no s lb c W h0 h1 h2 t0 t1 t2⟩
set_option maxRecDepth 100000 in
theorem words_any (s : ByteArray) (lb c : Nat) (W : World) (h0 : W.cell? ⟨lb, 0, none⟩ = some (.string ⟨#[110, 117, 108, 108]⟩)) (h1 : W.cell? ⟨lb, 1, none⟩ = some (.string ⟨#[116, 114, 117, 101]⟩)) (h2 : W.cell? ⟨lb, 2, none⟩ = some (.string ⟨#[102, 97, 108, 115, 101]⟩)) :
    Calls Tryz.prog 64 #[.slice (some ⟨lb, 0, none⟩) 3 c, .string s] W fun e w' => e = .returned (.bool (wordsK.contains s.data.toList)) ∧ W = w' := by
  obtain ⟨i, hi, hc⟩ := ixw_any s lb c W h0 h1 h2
  have HC := Lib.hid hc
  clear hc h0 h1 h2
  cases hw : wordsK.contains s.data.toList with
  | true =>
    rw [hw] at hi
    have h0 : (0 : Int) ≤ i := of_decide_eq_true hi
    clear hi hw
    go_enter Tryz.func64, Tryz.ntmps64
    go_wp2_with fail
    refine HC.out.mono ?_; rintro e w1 ⟨rfl, rfl⟩
    go_wp2_with fail
    go_ret
    exact ⟨by first | rfl | simp [h0], rfl⟩
  | false =>
    rw [hw] at hi
    have h0 : ¬ (0 : Int) ≤ i := of_decide_eq_false hi
    clear hi hw
    go_enter Tryz.func64, Tryz.ntmps64
    go_wp2_with fail
    refine HC.out.mono ?_; rintro e w1 ⟨rfl, rfl⟩
    go_wp2_with fail
    go_ret
    exact ⟨by first | rfl | simp [h0], rfl⟩
/-- What stands against a cell of a literal. -/
def badL (c : Cel) : Bool := (!c.name.isEmpty && !nameB c.name) || (c.kind == 4 && wordsK.contains c.text)
theorem litB_bad (V : List Cel) : litB V = (mayB V && !V.any badL) := by
  unfold litB
  congr 1
  induction V with
  | nil => rfl
  | cons c r ih =>
    rw [List.all_cons, List.any_cons, ih]
    unfold badL
    cases c.name.isEmpty <;> cases nameB c.name <;> cases (c.kind == 4) <;> cases wordsK.contains c.text <;> simp
theorem str_ne {x : ByteArray} (h : x.data.toList.isEmpty = false) : ¬ x.toList = [] ∧ x.toList.isEmpty = false := by
  rw [ByteArray.toList_eq]
  refine ⟨fun e => ?_, h⟩
  rw [e] at h; cases h
theorem str_nil {x : ByteArray} (h : x.data.toList.isEmpty = true) : x = ⟨#[]⟩ := by
  apply ByteArray.ext; apply Array.toList_inj.1
  cases hx : x.data.toList with
  | nil => rfl
  | cons a b => rw [hx] at h; cases h
set_option maxRecDepth 100000 in
theorem lclo_e4 (k : Int) (x y : ByteArray) (nu ma : Int) (w : World) (h0 : x.data.toList.isEmpty = true) (h4 : (k == 4) = true) :
    Calls Tryz.prog 63 #[.agg #[.int .u8 k, .string x, .string y, .int .i64 nu, .int .i64 ma]] w fun e w' => e = .returned (.bool (wordsK.contains y.data.toList)) ∧ Below w.heap.size w w' := by
  have hxe := str_nil h0
  subst hxe
  go_enter Tryz.func63, Tryz.ntmps63
  go_wp2_with fail
  refine (words_any y _ 3 ((w.alloc (.cells #[.int .u8 k, .string ⟨#[]⟩, .string y, .int .i64 nu, .int .i64 ma] 63 (0, 0))).alloc (.cells #[.string ⟨#[110, 117, 108, 108]⟩, .string ⟨#[116, 114, 117, 101]⟩, .string ⟨#[102, 97, 108, 115, 101]⟩] 9 (0, 0))) (Lib.cell_of_heap (heap_new _ _ _ (by simp)) 0) (Lib.cell_of_heap (heap_new _ _ _ (by simp)) 1) (Lib.cell_of_heap (heap_new _ _ _ (by simp)) 2)).mono ?_; rintro e w2 ⟨rfl, rfl⟩
  have HB9 : Hid (Below w.heap.size w ((w.alloc (.cells #[.int .u8 k, .string ⟨#[]⟩, .string y, .int .i64 nu, .int .i64 ma] 63 (0, 0))).alloc (.cells #[.string ⟨#[110, 117, 108, 108]⟩, .string ⟨#[116, 114, 117, 101]⟩, .string ⟨#[102, 97, 108, 115, 101]⟩] 9 (0, 0)))) := Lib.hid (((Below.refl _ _).alloc (Nat.le_refl _) _).alloc (by simp) _)
  go_wp2_with fail
  go_ret
  exact ⟨ret_b (by simp), HB9.out⟩
set_option maxRecDepth 100000 in
theorem lclo_e0 (k : Int) (x y : ByteArray) (nu ma : Int) (w : World) (h0 : x.data.toList.isEmpty = true) (h4 : (k == 4) = false) :
    Calls Tryz.prog 63 #[.agg #[.int .u8 k, .string x, .string y, .int .i64 nu, .int .i64 ma]] w fun e w' => e = .returned (.bool false) ∧ Below w.heap.size w w' := by
  have hxe := str_nil h0
  subst hxe
  have HB9 : Hid (Below w.heap.size w (w.alloc (.cells #[.int .u8 k, .string ⟨#[]⟩, .string y, .int .i64 nu, .int .i64 ma] 63 (0, 0)))) := Lib.hid ((Below.refl _ _).alloc (Nat.le_refl _) _)
  go_enter Tryz.func63, Tryz.ntmps63
  go_wp2_with fail
  go_ret
  exact ⟨ret_b (by simp), HB9.out⟩
set_option maxRecDepth 100000 in
theorem lclo_nb (k : Int) (x y : ByteArray) (nu ma : Int) (w : World) (h0 : x.data.toList.isEmpty = false) (HNM : Hid (∀ W, Calls Tryz.prog 38 #[.string x] W fun e w' => e = .returned (.bool false) ∧ W = w')) :
    Calls Tryz.prog 63 #[.agg #[.int .u8 k, .string x, .string y, .int .i64 nu, .int .i64 ma]] w fun e w' => e = .returned (.bool true) ∧ Below w.heap.size w w' := by
  obtain ⟨h1, h2⟩ := str_ne h0
  have HB9 : Hid (Below w.heap.size w (w.alloc (.cells #[.int .u8 k, .string x, .string y, .int .i64 nu, .int .i64 ma] 63 (0, 0)))) := Lib.hid ((Below.refl _ _).alloc (Nat.le_refl _) _)
  go_enter Tryz.func63, Tryz.ntmps63
  go_wp2_with fail
  refine (HNM.out _).mono ?_; rintro e w1 ⟨rfl, rfl⟩
  go_wp2_with fail
  go_ret
  exact ⟨ret_b (by simp), HB9.out⟩
set_option maxRecDepth 100000 in
theorem lclo_n4 (k : Int) (x y : ByteArray) (nu ma : Int) (w : World) (h0 : x.data.toList.isEmpty = false) (HNM : Hid (∀ W, Calls Tryz.prog 38 #[.string x] W fun e w' => e = .returned (.bool true) ∧ W = w')) (h4 : (k == 4) = true) :
    Calls Tryz.prog 63 #[.agg #[.int .u8 k, .string x, .string y, .int .i64 nu, .int .i64 ma]] w fun e w' => e = .returned (.bool (wordsK.contains y.data.toList)) ∧ Below w.heap.size w w' := by
  obtain ⟨h1, h2⟩ := str_ne h0
  go_enter Tryz.func63, Tryz.ntmps63
  go_wp2_with fail
  refine (HNM.out _).mono ?_; rintro e w1 ⟨rfl, rfl⟩
  go_wp2_with fail
  refine (words_any y _ 3 ((w.alloc (.cells #[.int .u8 k, .string x, .string y, .int .i64 nu, .int .i64 ma] 63 (0, 0))).alloc (.cells #[.string ⟨#[110, 117, 108, 108]⟩, .string ⟨#[116, 114, 117, 101]⟩, .string ⟨#[102, 97, 108, 115, 101]⟩] 9 (0, 0))) (Lib.cell_of_heap (heap_new _ _ _ (by simp)) 0) (Lib.cell_of_heap (heap_new _ _ _ (by simp)) 1) (Lib.cell_of_heap (heap_new _ _ _ (by simp)) 2)).mono ?_; rintro e w2 ⟨rfl, rfl⟩
  have HB9 : Hid (Below w.heap.size w ((w.alloc (.cells #[.int .u8 k, .string x, .string y, .int .i64 nu, .int .i64 ma] 63 (0, 0))).alloc (.cells #[.string ⟨#[110, 117, 108, 108]⟩, .string ⟨#[116, 114, 117, 101]⟩, .string ⟨#[102, 97, 108, 115, 101]⟩] 9 (0, 0)))) := Lib.hid (((Below.refl _ _).alloc (Nat.le_refl _) _).alloc (by simp) _)
  go_wp2_with fail
  go_ret
  exact ⟨ret_b (by simp), HB9.out⟩
set_option maxRecDepth 100000 in
theorem lclo_n0 (k : Int) (x y : ByteArray) (nu ma : Int) (w : World) (h0 : x.data.toList.isEmpty = false) (HNM : Hid (∀ W, Calls Tryz.prog 38 #[.string x] W fun e w' => e = .returned (.bool true) ∧ W = w')) (h4 : (k == 4) = false) :
    Calls Tryz.prog 63 #[.agg #[.int .u8 k, .string x, .string y, .int .i64 nu, .int .i64 ma]] w fun e w' => e = .returned (.bool false) ∧ Below w.heap.size w w' := by
  obtain ⟨h1, h2⟩ := str_ne h0
  have HB9 : Hid (Below w.heap.size w (w.alloc (.cells #[.int .u8 k, .string x, .string y, .int .i64 nu, .int .i64 ma] 63 (0, 0)))) := Lib.hid ((Below.refl _ _).alloc (Nat.le_refl _) _)
  go_enter Tryz.func63, Tryz.ntmps63
  go_wp2_with fail
  refine (HNM.out _).mono ?_; rintro e w1 ⟨rfl, rfl⟩
  go_wp2_with fail
  go_ret
  exact ⟨ret_b (by simp), HB9.out⟩
theorem lclo_any (c : Cel) (w : World) (hn : c.name.length ≤ 1000000) :
    Calls Tryz.prog 63 #[.agg (celCells c)] w fun e w' => e = .returned (.bool (badL c)) ∧ Below w.heap.size w w' := by
  have hxl : (⟨c.name.toArray⟩ : ByteArray).data.toList = c.name := by simp
  have hyl : (⟨c.text.toArray⟩ : ByteArray).data.toList = c.text := by simp
  have hxz : (⟨c.name.toArray⟩ : ByteArray).size ≤ 1000000 := by rw [← bsz, hxl]; exact hn
  have hkk := kind_eq c 4
  have HN := fun W => lname_any ⟨c.name.toArray⟩ hxz W
  rw [hxl] at HN
  unfold celCells badL
  rw [hkk]
  cases h0 : c.name.isEmpty with
  | true =>
    cases h4 : ((c.kind.toNat : Int) == ((4 : UInt8).toNat : Int)) with
    | true =>
      have := lclo_e4 (c.kind.toNat : Int) ⟨c.name.toArray⟩ ⟨c.text.toArray⟩ c.num c.many w (by rw [hxl]; exact h0) h4
      rw [hyl] at this
      simpa using this
    | false => simpa using lclo_e0 (c.kind.toNat : Int) ⟨c.name.toArray⟩ ⟨c.text.toArray⟩ c.num c.many w (by rw [hxl]; exact h0) h4
  | false =>
    cases hb : nameB c.name with
    | false =>
      rw [hb] at HN
      simpa using lclo_nb (c.kind.toNat : Int) ⟨c.name.toArray⟩ ⟨c.text.toArray⟩ c.num c.many w (by rw [hxl]; exact h0) (Lib.hid HN)
    | true =>
      rw [hb] at HN
      cases h4 : ((c.kind.toNat : Int) == ((4 : UInt8).toNat : Int)) with
      | true =>
        have := lclo_n4 (c.kind.toNat : Int) ⟨c.name.toArray⟩ ⟨c.text.toArray⟩ c.num c.many w (by rw [hxl]; exact h0) (Lib.hid HN) h4
        rw [hyl] at this
        simpa using this
      | false => simpa using lclo_n0 (c.kind.toNat : Int) ⟨c.name.toArray⟩ ⟨c.text.toArray⟩ c.num c.many w (by rw [hxl]; exact h0) (Lib.hid HN) h4
theorem lclo_ent : ∀ args w, (callFunc 63 args).run Tryz.prog w = .ok (.enter 63 args) w := enters_of Tryz.func63 (by kernel_rfl) rfl
set_option maxRecDepth 100000 in
theorem lliteral_any (V : List Cel) (v : Value) (w : World) (hv : CelSl v V w) (hs : SmallV V) (hE : EnvU w) :
    Calls Tryz.prog 34 #[v] w fun e w' => e = .returned (.bool (litB V)) ∧ Below w.heap.size w w' := by
  have H := Lib.hid (ccheck_any V v w hv hs hE)
  have HC : Hid (∀ W : World, Below w.heap.size w W → Calls Tryz.prog 62 #[v, .func (.func 63) #[] #[]] W fun e w' => e = .returned (.bool (V.any badL)) ∧ Below W.heap.size W w') := Lib.hid fun W hW =>
    ccontains_any _ #[] lclo_ent badL V v W (hv.below hW) hs.1 (Lib.hid fun W' k hk _ => by simpa using lclo_any V[k] W' (by have := (hs.2 V[k] (List.getElem_mem _)).1; omega))
  rw [litB_bad]
  clear hv hs hE
  generalize V.any badL = ev at *
  cases hm : mayB V with
  | false =>
    rw [hm] at H
    clear hm
    go_enter Tryz.func34, Tryz.ntmps34
    go_wp2_with fail
    refine H.out.mono ?_; rintro e w1 ⟨rfl, hb⟩
    go_wp2_with fail
    go_ret
    exact ⟨rfl, hb⟩
  | true =>
    rw [hm] at H
    clear hm
    go_enter Tryz.func34, Tryz.ntmps34
    go_wp2_with fail
    refine H.out.mono ?_; rintro e w1 ⟨rfl, hb⟩
    have HB := Lib.hid hb
    have hz := hb.size
    clear hb
    go_wp2_with fail
    refine (HC.out _ HB.out).mono ?_; rintro e w2 ⟨rfl, hb⟩
    have HB2 := Lib.hid (HB.out.trans (hb.mono hz))
    clear hb
    go_wp2_with fail
    go_ret
    exact ⟨ret_b (by cases ev <;> rfl), HB2.out⟩
/-- The tokens of a literal, and the error. -/
def toksE (V : List Cel) : Int := if litB V then 0 else 8
def toksL (V : List Cel) : List Tok := if litB V then tokK 16 V else []
set_option maxRecDepth 100000 in
theorem tokens_no (V : List Cel) (v : Value) (w : World) (hv : ∃ a n c, v = .slice a n c) (H : Hid (Calls Tryz.prog 34 #[v] w fun e w' => e = .returned (.bool false) ∧ Below w.heap.size w w')) :
    Calls Tryz.prog 11 #[v] w fun e w' => e = .returned (.tuple #[.slice none 0 0, .int .i64 8]) ∧ Below w.heap.size w w' := by
  obtain ⟨a, n, c, rfl⟩ := hv
  go_enter Tryz.func11, Tryz.ntmps11
  go_wp2_with fail
  refine H.out.mono ?_; rintro e w1 ⟨rfl, hb⟩
  go_wp2_with fail
  go_ret2
  exact ⟨rfl, hb⟩
set_option maxRecDepth 100000 in
theorem tokens_yes (V : List Cel) (b off cap : Nat) (w : World) (hrow : CelRow b off V w) (hpos : 0 < V.length) (hl : V.length ≤ 2048) (hs : NumV V) (hE : EnvT w) (hval : valN 16 V = some V.length)
    (H : Hid (Calls Tryz.prog 34 #[.slice (some ⟨b, off, none⟩) V.length cap] w fun e w' => e = .returned (.bool true) ∧ Below w.heap.size w w')) :
    Calls Tryz.prog 11 #[.slice (some ⟨b, off, none⟩) V.length cap] w fun e w' => (∃ u, e = .returned (.tuple #[u, .int .i64 0]) ∧ OwnT w.heap.size u (tokK 16 V) w') ∧ Below w.heap.size w w' := by
  have hbl := hrow.lt hpos
  have HROW := Lib.hid hrow
  have HS := Lib.hid hs
  have HEE := Lib.hid hE
  have HV := Lib.hid hval
  clear hrow hs hE hval
  go_enter Tryz.func11, Tryz.ntmps11
  go_wp2_with fail
  refine H.out.mono ?_; rintro e w1 ⟨rfl, hb⟩
  have hz := hb.size
  have hb2 : Below w.heap.size w (w1.alloc (.cells #[.slice none 0 0] 78 (0, 0))) := hb.alloc hz _
  have HB2 := Lib.hid hb2
  have HP : Hid (PutS w1.heap.size (.slice none 0 0) [] (w1.alloc (.cells #[.slice none 0 0] 78 (0, 0)))) := Lib.hid ⟨heap_new _ _ _ rfl, OwnT.nil _ _⟩
  have HR2 := Lib.hid (HROW.out.below hb2 hbl)
  have HUP := Lib.hid (up_any w1 V w1.heap.size b off cap HS.out hl (HEE.out.stays hb) (Nat.le_refl _) (by omega) 16 _ _ [] 0 V.length hpos HV.out (by simp; omega) HP.out HR2.out ((Below.refl _ _).alloc (Nat.le_refl _) _))
  clear hb hb2
  go_wp2_with fail
  refine HUP.out.mono ?_; rintro e w3 ⟨rfl, ⟨v3, h3⟩, hk3⟩
  have h3c := h3.cell
  have HP3 := Lib.hid h3
  have HB3 : Hid (Below w.heap.size w w3) := Lib.hid (HB2.out.trans (hk3.1.mono hz))
  obtain ⟨a3, n3, c3, rfl⟩ : ∃ a n c, v3 = .slice a n c := by
    rcases h3.2.2 with ⟨e1, _⟩ | ⟨g, cap, cur, e1, _⟩
    · exact ⟨_, _, _, e1⟩
    · exact ⟨_, _, _, e1⟩
  clear h3 hk3
  go_wp2_with fail
  go_ret2
  refine ⟨⟨_, rfl, ?_⟩, HB3.out⟩
  have := HP3.out.2.lessU (B' := w.heap.size) (by omega)
  simpa using this
theorem mayB_parts {V : List Cel} (h : mayB V = true) : 0 < V.length ∧ V.length ≤ 2048 ∧ valN 16 V = some V.length := by
  unfold mayB at h
  simp only [Bool.and_eq_true, decide_eq_true_eq, beq_iff_eq] at h
  exact ⟨h.1.1.1, h.1.1.2, h.2⟩
theorem tokens_any (V : List Cel) (v : Value) (w : World) (hv : CelSl v V w) (hs : SmallV V) (hE : EnvU w) (hT : EnvT w) :
    Calls Tryz.prog 11 #[v] w fun e w' => (∃ u, e = .returned (.tuple #[u, .int .i64 (toksE V)]) ∧ OwnT w.heap.size u (toksL V) w') ∧ Below w.heap.size w w' := by
  have HL := Lib.hid (lliteral_any V v w hv hs hE)
  unfold toksE toksL
  cases hb : litB V with
  | false =>
    rw [hb] at HL
    refine (tokens_no V v w (by
      rcases hv with ⟨a, c, rfl, _⟩ | ⟨b, off, cap, rfl, _⟩
      · exact ⟨_, _, _, rfl⟩
      · exact ⟨_, _, _, rfl⟩) HL).mono ?_
    rintro e w' ⟨rfl, hb⟩
    exact ⟨⟨_, rfl, OwnT.nil _ _⟩, hb⟩
  | true =>
    rw [hb] at HL
    have hm : mayB V = true := by unfold litB at hb; simp only [Bool.and_eq_true] at hb; exact hb.1
    obtain ⟨h1, h2, h3⟩ := mayB_parts hm
    rcases hv with ⟨a, c, rfl, rfl, _⟩ | ⟨b, off, cap, rfl, hrow, _⟩
    · simp at h1
    · exact tokens_yes V b off cap w hrow h1 h2 (fun c hc => (hs.2 c hc).2.2) hT h3 HL
end Go.Proofs.YtgaknbnhmoddcaaGreatDoor
namespace Go.Proofs.YtgaknbnhmoddcaaGreatDoor
open Go.RowKit Go.Lib
/-- The cells of names with slices behind them. -/
def xFlat {α : Type} : List (List UInt8 × α) → List Value → List Value
  | (n, _) :: r, u :: us => .string ⟨n.toArray⟩ :: u :: xFlat r us
  | _, _ => []
theorem xFlat_len {α : Type} : ∀ (L : List (List UInt8 × α)) (U : List Value), U.length = L.length → (xFlat L U).length = L.length * 2
  | [], U, h => by cases U <;> simp [xFlat]
  | (n, x) :: r, [], h => by simp at h
  | (n, x) :: r, u :: us, h => by
    have := xFlat_len r us (by simpa using h)
    simp only [xFlat, List.length_cons, this]; omega
/-- A row of names with slices behind them, the call's own; whatever is behind each is meant by Own. -/
def OwnX {α : Type} (T : TypeId) (Own : Value → α → World → Prop) (B : Nat) (v : Value) (L : List (List UInt8 × α)) (W : World) : Prop :=
  ∃ U : List Value, U.length = L.length ∧ W.ownsRow B T 2 v L.length (xFlat L U) ∧ ∀ (i : Nat) (h : i < L.length) (h' : i < U.length), (∃ a n c, U[i] = .slice a n c) ∧ Own U[i] L[i].2 W
section
variable {α : Type} {T : TypeId} {Own : Value → α → World → Prop} {B : Nat} {v : Value} {L : List (List UInt8 × α)} {W W' : World}
theorem OwnX.nil (W : World) : OwnX T Own B (.slice none 0 0) [] W := ⟨[], rfl, World.ownsRow_nil W B T 2, fun i h => by simp at h⟩
theorem OwnX.form (h : OwnX T Own B v L W) : ∃ a c, v = .slice a L.length c := by
  obtain ⟨U, h1, h2, h3⟩ := h
  rcases h2.2 with ⟨e, e2⟩ | ⟨g, cap, cur, e, _⟩
  · exact ⟨none, 0, by rw [e, e2]⟩
  · exact ⟨_, _, e⟩
/-- What is kept where all blocks from B on stay that were there. -/
def Kp (B : Nat) (W W' : World) : Prop := ∀ (k : Nat) (o : Obj), B ≤ k → W.heap[k]? = some o → W'.heap[k]? = some o
theorem Kp.rk {p : Nat} (h : RK p W W') (hp : p < B) : Kp B W W' := fun k o hk ho => h.2 k o ho (by omega)
theorem Kp.mk {p m : Nat} (h : MK p m W W') (hp : p < B) (hm : m < B) : Kp B W W' := fun k o hk ho => h.2 k o ho (by omega) (by omega)
theorem Kp.below (h : Below W.heap.size W W') : Kp B W W' := fun k o hk ho => (h.block k (heap_lt ho)).trans ho
theorem Kp.trans {W'' : World} (h : Kp B W W') (h' : Kp B W' W'') : Kp B W W'' := fun k o hk ho => h' k o hk (h k o hk ho)
end
abbrev OwnA (B : Nat) : Value → List (List UInt8 × List Cel) → World → Prop := OwnX 65 (OwnC B) B
abbrev OwnD (B : Nat) : Value → List (List UInt8 × List (List UInt8 × List Cel)) → World → Prop := OwnX 61 (OwnA B) B
end Go.Proofs.YtgaknbnhmoddcaaGreatDoor
namespace Go.Proofs.YtgaknbnhmoddcaaGreatDoor
open Go.RowKit Go.Lib
/-- Bytes in a row that the call made; none are in no row. -/
def BytW (B : Nat) (u : Value) (ws : List UInt8) (W : World) : Prop := Own B u ws W ∧ (ws = [] → u = .slice none 0 0)
theorem BytW.nil (B : Nat) (W : World) : BytW B (.slice none 0 0) [] W := ⟨Own.nil _ _, fun _ => rfl⟩
theorem BytW.form {B : Nat} {v : Value} {l : List UInt8} {W : World} (h : BytW B v l W) : ∃ a n c, v = .slice a n c := by
  rcases h.1.2 with ⟨e1, _⟩ | ⟨g, cap, cur, e1, _⟩
  · exact ⟨_, _, _, e1⟩
  · exact ⟨_, _, _, e1⟩
theorem ref_cells {A : Nat} {W : World} {x y : Value} (h : W.heap[A]? = some (.cells #[x, y] 25 (0, 0))) : W.cell? ⟨A, 0, none⟩ = some x ∧ W.cell? ⟨A, 1, none⟩ = some y ∧ W.frozen? ⟨A, 0, none⟩ = false ∧ W.frozen? ⟨A, 1, none⟩ = false := by
  refine ⟨?_, ?_, Lib.frozen_of_heap h 0, Lib.frozen_of_heap h 1⟩
  all_goals (rw [Lib.cell_of_heap h]; rfl)
end Go.Proofs.YtgaknbnhmoddcaaGreatDoor
namespace Go.Proofs.YtgaknbnhmoddcaaGreatDoor
open Go.RowKit Go.Lib
/-- A row of names with slices behind them, read. -/
def XRow {α : Type} (Sl : Value → α → World → Prop) (b off : Nat) (L : List (List UInt8 × α)) (W : World) : Prop := ∀ (i : Nat) (h : i < L.length), W.cell? ⟨b, off + i * 2, none⟩ = some (.string ⟨L[i].1.toArray⟩) ∧ ∃ a n c, W.cell? ⟨b, off + i * 2 + 1, none⟩ = some (.slice a n c) ∧ Sl (.slice a n c) L[i].2 W
theorem XRow.below {α : Type} {Sl : Value → α → World → Prop} {b off : Nat} {L : List (List UInt8 × α)} {w w' : World} (h : XRow Sl b off L w) (hS : ∀ u x, Sl u x w → Sl u x w') (hb : Below w.heap.size w w') : XRow Sl b off L w' := by
  intro i hi
  obtain ⟨h0, a, n, c, h1, h2⟩ := h i hi
  have hlt := lt_of_cell h0
  exact ⟨(hb.cell (p := ⟨b, _, none⟩) hlt).trans h0, a, n, c, (hb.cell (p := ⟨b, _, none⟩) hlt).trans h1, hS _ _ h2⟩
def XSl {α : Type} (Sl : Value → α → World → Prop) (v : Value) (L : List (List UInt8 × α)) (W : World) : Prop := (∃ a cap, v = .slice a 0 cap ∧ L = []) ∨ ∃ b off cap, v = .slice (some ⟨b, off, none⟩) L.length cap ∧ XRow Sl b off L W ∧ 0 < L.length
theorem XSl.below {α : Type} {Sl : Value → α → World → Prop} {v : Value} {L : List (List UInt8 × α)} {w w' : World} (h : XSl Sl v L w) (hS : ∀ u x, Sl u x w → Sl u x w') (hb : Below w.heap.size w w') : XSl Sl v L w' := by
  rcases h with h | ⟨b, off, cap, h1, h2, h3⟩
  · exact Or.inl h
  · exact Or.inr ⟨b, off, cap, h1, h2.below hS hb, h3⟩
abbrev ArgSl : Value → List (List UInt8 × List Cel) → World → Prop := XSl CelSl
abbrev DirSl : Value → List (List UInt8 × List (List UInt8 × List Cel)) → World → Prop := XSl ArgSl
theorem ArgSl.below {v : Value} {L : List (List UInt8 × List Cel)} {w w' : World} (h : ArgSl v L w) (hb : Below w.heap.size w w') : ArgSl v L w' := XSl.below h (fun _ _ h => h.below hb) hb
theorem DirSl.below {v : Value} {L : List (List UInt8 × List (List UInt8 × List Cel))} {w w' : World} (h : DirSl v L w) (hb : Below w.heap.size w w') : DirSl v L w' := XSl.below h (fun _ _ h => ArgSl.below h hb) hb
theorem xFlat_get {α : Type} : ∀ (L : List (List UInt8 × α)) (U : List Value) (i : Nat) (h : i < L.length) (h' : i < U.length), U.length = L.length → (xFlat L U)[i * 2]? = some (.string ⟨L[i].1.toArray⟩) ∧ (xFlat L U)[i * 2 + 1]? = some U[i]
  | [], U, i, h, h', _ => by simp at h
  | (n, x) :: r, [], i, h, h', _ => by simp at h'
  | (n, x) :: r, u :: us, 0, h, h', _ => by simp [xFlat]
  | (n, x) :: r, u :: us, i + 1, h, h', hl => by
    have ih := xFlat_get r us i (by simpa using h) (by simpa using h') (by simpa using hl)
    rw [show (i + 1) * 2 = i * 2 + 1 + 1 from by omega]
    simp only [xFlat, List.getElem?_cons_succ, List.getElem_cons_succ]
    exact ih
theorem OwnX.xsl {α : Type} {T : TypeId} {Own Sl : Value → α → World → Prop} {B : Nat} {v : Value} {L : List (List UInt8 × α)} {W : World} (h : OwnX T Own B v L W) (hS : ∀ u x, Own u x W → Sl u x W) : XSl Sl v L W := by
  obtain ⟨U, hU, h2, h3⟩ := h
  rcases h2.2 with ⟨rfl, hz⟩ | ⟨g, cap, cur, rfl, hB, hg, hn, hc, hcs, ht⟩
  · exact Or.inl ⟨_, _, rfl, List.eq_nil_of_length_eq_zero hz⟩
  · by_cases h0 : L = []
    · subst h0
      exact Or.inl ⟨_, _, rfl, rfl⟩
    refine Or.inr ⟨g, 0, cap, rfl, ?_, List.length_pos_iff.2 h0⟩
    intro i hi
    obtain ⟨g0, g1⟩ := xFlat_get L U i hi (by omega) hU
    have F : ∀ j u, (xFlat L U)[j]? = some u → W.cell? ⟨g, 0 + j, none⟩ = some u := by
      intro j u hj
      have hjl : j < L.length * 2 := by rw [← xFlat_len L U hU]; exact (List.getElem?_eq_some_iff.1 hj).1
      rw [← ht, List.getElem?_take, if_pos hjl] at hj
      rw [Nat.zero_add]
      refine (Lib.cell_of_heap hg j).trans ?_
      simpa using hj
    obtain ⟨⟨a, n, c, e⟩, hx⟩ := h3 i hi (by omega)
    have e1 := F _ _ g1
    rw [e] at e1 hx
    exact ⟨F _ _ g0, a, n, c, e1, hS _ _ hx⟩
theorem OwnA.sl {B : Nat} {v : Value} {L : List (List UInt8 × List Cel)} {W : World} (h : OwnA B v L W) : ArgSl v L W := OwnX.xsl h fun u x hx => hx.sl
theorem OwnD.sl {B : Nat} {v : Value} {L : List (List UInt8 × List (List UInt8 × List Cel))} {W : World} (h : OwnD B v L W) : DirSl v L W := OwnX.xsl h fun u x hx => OwnA.sl hx
end Go.Proofs.YtgaknbnhmoddcaaGreatDoor
namespace Go.Proofs.YtgaknbnhmoddcaaGreatDoor
open Go.RowKit
/-- An argument's tokens; arguments'. -/
def argK (x : List UInt8 × List Cel) : List Tok := nmT x.1 :: mkT [58] :: tokK 16 x.2
def argsK (A : List (List UInt8 × List Cel)) : List Tok := if A.isEmpty then [] else mkT [40] :: (A.flatMap argK ++ [mkT [41]])
def roomA : List (List UInt8 × List Cel) → Nat
  | [] => 0
  | x :: r => 4 * (x.2.length + 1) + 2 + roomA r
/-- Arguments whose values may be. -/
def ArgsOk (A : List (List UInt8 × List Cel)) : Prop := ∀ x ∈ A, 0 < x.2.length ∧ x.2.length ≤ 2048 ∧ NumV x.2 ∧ valN 16 x.2 = some x.2.length
theorem argK_len (x : List UInt8 × List Cel) (h : valN 16 x.2 = some x.2.length) : (argK x).length ≤ 4 * (x.2.length + 1) + 2 := by
  have := tokK_len 16 x.2 x.2.length h
  simp only [argK, List.length_cons]
  omega
theorem argsK_len : ∀ A : List (List UInt8 × List Cel), ArgsOk A → (A.flatMap argK).length ≤ roomA A
  | [], _ => Nat.le_refl _
  | x :: r, h => by
    have h1 := argK_len x (h x (by simp)).2.2.2
    have h2 := argsK_len r (fun y hy => h y (by simp [hy]))
    simp only [List.flatMap_cons, List.length_append, roomA]
    omega
set_option maxRecDepth 100000 in
theorem up_args_none (q : Nat) (a : Option Addr) (c : Nat) (W : World) :
    Calls Tryz.prog 44 #[.pointer (some ⟨q, 0, none⟩), .slice a 0 c] W fun e w' => e = .returned (.tuple #[]) ∧ W = w' := by
  go_enter Tryz.func44, Tryz.ntmps44
  go_wp2_with fail
  go_returns
  exact ⟨rfl, rfl⟩
set_option maxRecDepth 100000 in
set_option maxHeartbeats 4000000 in
theorem up_args_go (w0 : World) (A : List (List UInt8 × List Cel)) (q b off cap : Nat) (hA : XRow CelSl b off A w0) (hok : ArgsOk A) (hpos : 0 < A.length) (hl : A.length ≤ 100000) (hET : EnvT w0) (hq0 : w0.heap.size ≤ q) (W : World) (pv : Value) (L : List Tok) (hP : PutS q pv L W) (hW : Below w0.heap.size w0 W) (hroom : L.length + 1 + roomA A + 1 ≤ 90000) :
    Calls Tryz.prog 44 #[.pointer (some ⟨q, 0, none⟩), .slice (some ⟨b, off, none⟩) A.length cap] W fun e w' => e = .returned (.tuple #[]) ∧ (∃ v', PutS q v' (L ++ (mkT [40] :: (A.flatMap argK ++ [mkT [41]]))) w') ∧ RK q W w' := by
  have hq := hP.lt
  have HEL : Hid (∀ (i : Nat) (h : i < A.length), ∃ b' o' c', w0.cell? ⟨b, off + i * 2, none⟩ = some (.string ⟨A[i].1.toArray⟩) ∧ w0.cell? ⟨b, off + i * 2 + 1, none⟩ = some (.slice (some ⟨b', o', none⟩) A[i].2.length c') ∧ CelRow b' o' A[i].2 w0 ∧ b' < w0.heap.size) := Lib.hid fun i hi => by
    obtain ⟨e0, a, n, c, e1, hy⟩ := hA i hi
    have hp := (hok A[i] (List.getElem_mem hi)).1
    rcases hy with ⟨a2, c2, e2, e3, _⟩ | ⟨b', o', c', e2, e3, e4⟩
    · rw [e3] at hp; simp at hp
    · rw [e2] at e1
      exact ⟨b', o', c', e0, e1, e3, e3.lt e4⟩
  have HOK := Lib.hid hok
  have HBW := Lib.hid hW
  have HET := Lib.hid hET
  have HROOM := Lib.hid hroom
  have HLL : Hid (A.length = A.length) := Lib.hid rfl
  obtain ⟨R, hR⟩ : ∃ R, L ++ (mkT [40] :: (A.flatMap argK ++ [mkT [41]])) = R := ⟨_, rfl⟩
  have HR0 : Hid ((L ++ [mkT [40]]) ++ ((A.drop 0).flatMap argK ++ [mkT [41]]) = R) := Lib.hid (by rw [← hR]; simp)
  rw [hR]
  obtain ⟨n, hn⟩ : ∃ n, A.length = n := ⟨_, rfl⟩
  have HN := Lib.hid hn
  rw [hn]
  rw [hn] at hpos hl
  have hn0 : ((n : Int) == 0) = false := by rw [beq_eq_false_iff_ne]; omega
  have hn1 : ¬ (n : Int) = 0 := by omega
  obtain ⟨W1, hW1⟩ : ∃ W1, W.alloc (.cells #[.string ⟨#[40]⟩] 9 (0, 0)) = W1 := ⟨_, rfl⟩
  have hb1 : Below W.heap.size W W1 := by rw [← hW1]; exact (Below.refl _ _).alloc (Nat.le_refl _) _
  have HP1 := Lib.hid (hP.below hb1)
  have HK1 : Hid (RK q W W1) := Lib.hid (rk_below hb1 (Nat.le_of_lt hq))
  have hl1 : W1.cell? ⟨W.heap.size, 0, none⟩ = some (.string ⟨#[40]⟩) := by rw [← hW1]; exact new_cell0 _ _ _
  have hne : W.heap.size ≠ q := by omega
  have hLL : L.length ≤ 100000 := by omega
  have HW1 := Lib.hid hW1
  clear hA hok hET hW hR hn hP hb1 hW1 hroom
  go_enter Tryz.func44, Tryz.ntmps44
  go_wp2_with fail
  rw [HW1.out]
  refine (put_add q pv L 4 4 rfl ⟨#[40]⟩ _ 1 W1 HP1.out hl1 hne hLL).mono ?_; rintro e w1 ⟨rfl, ⟨pv1, hx1⟩, hx2⟩
  have HP2 : Hid (PutS q pv1 (L ++ [mkT [40]]) w1) := Lib.hid hx1
  have HK2 := Lib.hid (HK1.out.trans hx2)
  clear hx1 hx2 hl1 hne HP1 HK1 hLL
  go_wp2_with fail
  go_loopg [14] n (fun gk iv wr => ∃ (i : Nat) (L1 : List Tok) (pv1 : Value), iv = .int .i64 (i : Int) ∧ (gk + i ≤ n ∧ n ≤ gk + i) ∧ Hid (L1.length + roomA (A.drop i) + 1 ≤ 90000) ∧ Hid (L1 ++ ((A.drop i).flatMap argK ++ [mkT [41]]) = R) ∧ Hid (PutS q pv1 L1 wr) ∧ Hid (RK q W wr))
  case atStart => exact ⟨0, _, pv1, by go_num, ⟨by omega, by omega⟩, Lib.hid (by have := HROOM.out; simp only [List.length_append, List.length_cons, List.length_nil, List.drop_zero]; omega), HR0, HP2, HK2⟩
  case round =>
    clear HP2 HK2 HR0
    rename World => wr
    obtain ⟨i, L1, pv1, rfl, ⟨hj, hj'⟩, HLEN, HRR, HPr, HKr⟩ := hrel
    have hqr := HPr.out.lt
    have hL1 : L1.length ≤ 90000 := by have := HLEN.out; omega
    by_cases hg0 : gk = 0
    · subst hg0
      have hin : i = n := by omega
      have hlt : ¬ (i : Int) < (n : Int) := by omega
      have HF : Hid (L1 ++ [mkT [41]] = R) := Lib.hid (by have := HRR.out; rw [List.drop_of_length_le (by have := HN.out; omega)] at this; simpa using this)
      have hb5 : Below wr.heap.size wr (wr.alloc (.cells #[.string ⟨#[41]⟩] 9 (0, 0))) := (Below.refl _ _).alloc (Nat.le_refl _) _
      have HP5 := Lib.hid (HPr.out.below hb5)
      have HK5 : Hid (RK q W _) := Lib.hid (HKr.out.trans (rk_below hb5 (Nat.le_of_lt hqr)))
      have hne5 : wr.heap.size ≠ q := by omega
      clear hj hj' hb5 hin
      go_wp2_with fail
      refine (put_add q pv1 L1 4 4 rfl ⟨#[41]⟩ _ 1 _ HP5.out (new_cell0 _ _ _) hne5 (by omega)).mono ?_; rintro e wx ⟨rfl, ⟨pvx, hx1⟩, hx2⟩
      have HFIN : Hid ((∃ v', PutS q v' R wx) ∧ RK q W wx) := Lib.hid (by
        rw [← HF.out]
        exact ⟨⟨_, hx1⟩, HK5.out.trans hx2⟩)
      clear hx1 hx2
      go_wp2_with fail
      go_returns
      exact ⟨rfl, HFIN.out⟩
    · obtain ⟨g1, rfl⟩ : ∃ g1, gk = g1 + 1 := ⟨gk - 1, by omega⟩
      have hin : i < n := by omega
      have hil : i < A.length := by have := HN.out; omega
      clear hg0
      obtain ⟨b', o', c', e0, e1, hrow, hblt⟩ := HEL.out i hil
      obtain ⟨hm0, hm1, hm2, hm3⟩ := HOK.out A[i] (List.getElem_mem hil)
      have hbw : Below w0.heap.size w0 wr := HBW.out.trans (HKr.out.1.mono hq0)
      have r0 : wr.cell? ⟨b, off + i * 2, none⟩ = some (.string ⟨(A[i]'hil).1.toArray⟩) := (hbw.cell (p := ⟨b, _, none⟩) (lt_of_cell e0)).trans e0
      have r1 : wr.cell? ⟨b, off + i * 2 + 1, none⟩ = some (.slice (some ⟨b', o', none⟩) (A[i]'hil).2.length c') := (hbw.cell (p := ⟨b, _, none⟩) (lt_of_cell e0)).trans e1
      have hdrop : A.drop i = A[i] :: A.drop (i + 1) := List.drop_eq_getElem_cons hil
      have hrr := HRR.out
      have hln := HLEN.out
      have htl := tokK_len 16 (A[i]'hil).2 _ hm3
      rw [hdrop, List.flatMap_cons] at hrr
      rw [hdrop, roomA] at hln
      have HV : Hid (∀ (W' : World) (pv' : Value) (L' : List Tok), RK q W W' → L'.length + 4 * ((A[i]'hil).2.length + 1) ≤ 90000 → PutS q pv' L' W' → Calls Tryz.prog 35 #[.pointer (some ⟨q, 0, none⟩), .slice (some ⟨b', o', none⟩) (A[i]'hil).2.length c', .int .i64 0] W' fun e w' => (∃ z, e = .returned (.int .i64 z)) ∧ (∃ v', PutS q v' (L' ++ tokK 16 (A[i]'hil).2) w') ∧ RK q W' w') := Lib.hid fun W' pv' L' h0 h1 h2 => by
        have hw := HBW.out.trans (h0.1.mono hq0)
        refine (up_any w0 (A[i]'hil).2 q b' o' c' hm2 hm1 HET.out hq0 (by omega) 16 W' pv' L' 0 (A[i]'hil).2.length hm0 (by rw [List.drop_zero]; exact hm3) h1 h2 (hrow.below hw hblt) hw).mono ?_
        rintro e w' ⟨h3, h4, h5⟩
        rw [List.drop_zero] at h4
        exact ⟨⟨_, h3⟩, h4, h5⟩
      have HNX : Hid (L1.length + (2 + 4 * ((A[i]'hil).2.length + 1)) + roomA (A.drop (i + 1)) + 1 ≤ 90000 ∧ (tokK 16 (A[i]'hil).2).length + 2 ≤ 4 * (A[i]'hil).2.length) := Lib.hid ⟨by omega, htl⟩
      have HRX : Hid ((((L1 ++ [nmT (A[i]'hil).1]) ++ [mkT [58]]) ++ tokK 16 (A[i]'hil).2) ++ ((A.drop (i + 1)).flatMap argK ++ [mkT [41]]) = R) := Lib.hid (by rw [← hrr]; simp [argK])
      obtain ⟨nb, hnb⟩ : ∃ nb : ByteArray, (⟨(A[i]'hil).1.toArray⟩ : ByteArray) = nb := ⟨_, rfl⟩
      have hnm : nmT (A[i]'hil).1 = ⟨1, nb.data.toList, 0⟩ := by rw [← hnb]; rfl
      rw [hnm] at HRX
      rw [hnb] at r0
      clear e0 e1 hrow hblt hm0 hm1 hm2 hm3 hdrop hrr hln htl hnb hnm hbw
      generalize (A[i]'hil).2.length = vn at *
      generalize tokK 16 (A[i]'hil).2 = tj at *
      have i1 : (i : Int).toNat = i := by omega
      have i2 : (0 : Int) ≤ (i : Int) := by omega
      have i3 : (i : Int) < (n : Int) := by omega
      have i4 : IntKind.i64.wrap ((i : Int) + 1) = ((i + 1 : Nat) : Int) := by rw [IntWalk.i64_in _ (by omega)]; omega
      obtain ⟨w2, hw2⟩ : ∃ w2, (wr.alloc (.cells #[.string nb, .slice (some ⟨b', o', none⟩) vn c'] 65 (0, 0))).alloc (.cells #[.string nb] 9 (0, 0)) = w2 := ⟨_, rfl⟩
      have hb2 : Below wr.heap.size wr w2 := by rw [← hw2]; exact ((Below.refl _ _).alloc (Nat.le_refl _) _).alloc (by simp) _
      have HP2 := Lib.hid (HPr.out.below hb2)
      have HK2 : Hid (RK q W w2) := Lib.hid (HKr.out.trans (rk_below hb2 (Nat.le_of_lt hqr)))
      have HC2 : Hid (w2.heap[wr.heap.size]? = some (.cells #[.string nb, .slice (some ⟨b', o', none⟩) vn c'] 65 (0, 0))) := Lib.hid (by rw [← hw2]; exact heap_old (heap_new _ _ _ rfl))
      have hl2 : w2.cell? ⟨wr.heap.size + 1, 0, none⟩ = some (.string nb) := by rw [← hw2]; exact Lib.cell_of_heap (heap_new _ _ _ (by simp)) 0
      have hne2 : wr.heap.size + 1 ≠ q := by omega
      have hcq : wr.heap.size ≠ q := by omega
      have HW2 := Lib.hid hw2
      have HJJ := Lib.hid (And.intro hj hj')
      clear hb2 hw2 hj hj' hil
      go_wp2_with fail
      rw [HW2.out]
      refine (put_add q pv1 L1 1 1 rfl nb _ 1 w2 HP2.out hl2 hne2 (by omega)).mono ?_; rintro e w3 ⟨rfl, ⟨pv3, hx1⟩, hx2⟩
      have HP3 := Lib.hid hx1
      have HK3 := Lib.hid (HK2.out.trans hx2)
      have HC3 := Lib.hid (hx2.2 _ _ HC2.out hcq)
      clear hx1 hx2 hl2 hne2 HP2 HK2 HC2 r0 r1 HW2
      generalize wr.heap.size = cb at *
      have hq3 := HP3.out.lt
      have hb4 : Below w3.heap.size w3 (w3.alloc (.cells #[.string ⟨#[58]⟩] 9 (0, 0))) := (Below.refl _ _).alloc (Nat.le_refl _) _
      have HP4 := Lib.hid (HP3.out.below hb4)
      have HK4 := Lib.hid (HK3.out.trans (rk_below hb4 (Nat.le_of_lt hq3)))
      have HC4 := Lib.hid ((hb4.block cb (heap_lt HC3.out)).trans HC3.out)
      have hne4 : w3.heap.size ≠ q := by omega
      clear hb4
      go_wp2_with fail
      refine (put_add q pv3 _ 4 4 rfl ⟨#[58]⟩ _ 1 _ HP4.out (new_cell0 _ _ _) hne4 (by simp only [List.length_append, List.length_cons, List.length_nil]; omega)).mono ?_; rintro e w5 ⟨rfl, ⟨pv5, hx1⟩, hx2⟩
      have HP5 : Hid (PutS q pv5 ((L1 ++ [⟨1, nb.data.toList, 0⟩]) ++ [mkT [58]]) w5) := Lib.hid hx1
      have HK5 := Lib.hid (HK4.out.trans hx2)
      have HC5 := Lib.hid (hx2.2 _ _ HC4.out hcq)
      have d1 : w5.cell? ⟨cb, 1, none⟩ = some (.slice (some ⟨b', o', none⟩) vn c') := by rw [Lib.cell_of_heap HC5.out]; rfl
      clear hx1 hx2 hne4 HP4 HK4 HC4 HP3 HK3 HC3
      go_wp2_with fail
      refine (HV.out w5 pv5 _ HK5.out (by have := HNX.out.1; simp only [List.length_append, List.length_cons, List.length_nil]; omega) HP5.out).mono ?_; rintro e w8 ⟨⟨z, rfl⟩, ⟨pv8, hx1⟩, hx2⟩
      have HP8 := Lib.hid hx1
      have HK8 := Lib.hid (HK5.out.trans hx2)
      clear hx1 hx2
      go_wp2_with fail
      obtain ⟨hj, hj'⟩ := HJJ.out
      go_roundg g1
      case measure => omega
      case rel => exact ⟨i + 1, _, pv8, by first | rfl | go_num, ⟨by omega, by omega⟩, Lib.hid (by have := HNX.out; simp only [List.length_append, List.length_cons, List.length_nil]; omega), HRX, HP8, HK8⟩
theorem up_args (w0 : World) (A : List (List UInt8 × List Cel)) (q : Nat) (u : Value) (hA : ArgSl u A w0) (hok : ArgsOk A) (hl : A.length ≤ 100000) (hET : EnvT w0) (hq0 : w0.heap.size ≤ q) (W : World) (pv : Value) (L : List Tok) (hP : PutS q pv L W) (hW : Below w0.heap.size w0 W) (hroom : L.length + 1 + roomA A + 1 ≤ 90000) :
    Calls Tryz.prog 44 #[.pointer (some ⟨q, 0, none⟩), u] W fun e w' => e = .returned (.tuple #[]) ∧ (∃ v', PutS q v' (L ++ argsK A) w') ∧ RK q W w' := by
  rcases hA with ⟨a, c, rfl, rfl⟩ | ⟨b, off, cap, rfl, hrow, hpos⟩
  · refine (up_args_none q a c W).mono ?_
    rintro e w' ⟨h1, rfl⟩
    exact ⟨h1, ⟨pv, by simpa [argsK] using hP⟩, RK.refl _ _⟩
  · have he : A.isEmpty = false := by cases A with
      | nil => simp at hpos
      | cons x r => rfl
    unfold argsK
    rw [he]
    exact up_args_go w0 A q b off cap hrow hok hpos hl hET hq0 W pv L hP hW hroom
end Go.Proofs.YtgaknbnhmoddcaaGreatDoor
namespace Go.Proofs.YtgaknbnhmoddcaaGreatDoor
open Go.RowKit
/-- Arguments that may be, behind names. -/
def namedB : List (List UInt8) → List (List UInt8 × List Cel) → Bool
  | _, [] => true
  | nm, x :: r => !nm.contains x.1 && nameB x.1 && litB x.2 && namedB (x.1 :: nm) r
def ArgsSm (A : List (List UInt8 × List Cel)) : Prop := A.length ≤ 100000 ∧ ∀ x ∈ A, x.1.length ≤ 1000000 ∧ SmallV x.2
set_option maxRecDepth 100000 in
theorem lnamed_none (a : Option Addr) (c : Nat) (w : World) :
    Calls Tryz.prog 43 #[.slice a 0 c] w fun e w' => e = .returned (.bool true) ∧ Below w.heap.size w w' := by
  have hmm := @run_makeMap Tryz.prog
  have HB : Hid (Below w.heap.size w (w.alloc (.map #[] 0))) := Lib.hid ((Below.refl _ _).alloc (Nat.le_refl _) _)
  go_enter Tryz.func43, Tryz.ntmps43
  go_wp2_with fail
  refine wp_loop_rounds 1 ?_; rw [rounds_succ]
  go_wp2_with fail
  go_ret
  exact ⟨rfl, HB.out⟩
set_option maxRecDepth 100000 in
set_option maxHeartbeats 4000000 in
theorem lnamed_go (A : List (List UInt8 × List Cel)) (b off cap : Nat) (w : World) (hA : XRow CelSl b off A w) (hpos : 0 < A.length) (hs : ArgsSm A) (hE : EnvU w) :
    Calls Tryz.prog 43 #[.slice (some ⟨b, off, none⟩) A.length cap] w fun e w' => e = .returned (.bool (namedB [] A)) ∧ Below w.heap.size w w' := by
  have HA := Lib.hid hA
  have HS := Lib.hid hs.2
  have hl := hs.1
  have HE := Lib.hid hE
  obtain ⟨Z, hZ⟩ : ∃ Z, namedB [] A = Z := ⟨_, rfl⟩
  have HZ0 : Hid (namedB [] (A.drop 0) = Z) := Lib.hid hZ
  rw [hZ]
  obtain ⟨n, hn⟩ : ∃ n, A.length = n := ⟨_, rfl⟩
  have HN := Lib.hid hn
  rw [hn]
  rw [hn] at hl hpos
  have hmm := @run_makeMap Tryz.prog
  obtain ⟨bm, hbm⟩ : ∃ bm, w.heap.size = bm := ⟨_, rfl⟩
  obtain ⟨w1, hw1⟩ : ∃ w1, w.alloc (.map #[] 0) = w1 := ⟨_, rfl⟩
  have HB1 : Hid (Below w.heap.size w w1) := Lib.hid (by rw [← hw1]; exact (Below.refl _ _).alloc (Nat.le_refl _) _)
  have HM1 : Hid (NamesM bm [] w1) := Lib.hid (by rw [← hw1, ← hbm]; exact NamesM.made w)
  have HW1 := Lib.hid hw1
  have HBM := Lib.hid hbm
  clear hA hs hE hZ hn hbm hw1
  go_enter Tryz.func43, Tryz.ntmps43
  go_wp2_with fail
  try rw [HW1.out]
  try simp only [HBM.out]
  go_loopg [9] n (fun gk iv wr => ∃ (i : Nat) (nm : List (List UInt8)), iv = .int .i64 (i : Int) ∧ (gk + i ≤ n ∧ n ≤ gk + i) ∧ nm.length ≤ i ∧ Hid (NamesM bm nm wr) ∧ Hid (Below w.heap.size w wr) ∧ Hid (namedB nm (A.drop i) = Z))
  case atStart => exact ⟨0, [], by go_num, ⟨by omega, by omega⟩, Nat.le_refl _, HM1, HB1, HZ0⟩
  case round =>
    clear HM1 HB1 HZ0 HW1 hmm
    rename World => wr
    obtain ⟨i, nm, rfl, ⟨hj, hj'⟩, hnm, HM, HB, HQ⟩ := hrel
    by_cases hg0 : gk = 0
    · subst hg0
      have hlt : ¬ (i : Int) < (n : Int) := by omega
      have HF : Hid (true = Z) := Lib.hid (by have := HQ.out; rw [List.drop_of_length_le (by have := HN.out; omega)] at this; exact this)
      clear hj hj'
      go_wp2_with fail
      go_ret
      exact ⟨ret_b HF.out, HB.out⟩
    · obtain ⟨g1, rfl⟩ : ∃ g1, gk = g1 + 1 := ⟨gk - 1, by omega⟩
      have hil : i < A.length := by have := HN.out; omega
      clear hg0
      have hbw := HB.out
      obtain ⟨e0, a, vn, c, e1, hy⟩ := HA.out i hil
      obtain ⟨hx1, hx2⟩ := HS.out A[i] (List.getElem_mem hil)
      have r0 : wr.cell? ⟨b, off + i * 2, none⟩ = some (.string ⟨(A[i]'hil).1.toArray⟩) := (hbw.cell (p := ⟨b, _, none⟩) (lt_of_cell e0)).trans e0
      have r1 : wr.cell? ⟨b, off + i * 2 + 1, none⟩ = some (.slice a vn c) := (hbw.cell (p := ⟨b, _, none⟩) (lt_of_cell e0)).trans e1
      have hq := HQ.out
      rw [List.drop_eq_getElem_cons hil, namedB] at hq
      have HLT : Hid (∀ W, Below w.heap.size w W → Calls Tryz.prog 34 #[.slice a vn c] W fun e w' => e = .returned (.bool (litB (A[i]'hil).2)) ∧ Below W.heap.size W w') := Lib.hid fun W hW => lliteral_any _ _ W (hy.below hW) hx2 (HE.out.below hW)
      obtain ⟨nb, hnb⟩ : ∃ nb : ByteArray, (⟨(A[i]'hil).1.toArray⟩ : ByteArray) = nb := ⟨_, rfl⟩
      have hnd : (A[i]'hil).1 = nb.data.toList := by rw [← hnb]
      have hnz : nb.size ≤ 1000000 := by rw [← bsz, ← hnd]; exact hx1
      rw [hnb] at r0
      rw [hnd] at hq
      have HNM : Hid (∀ W, Calls Tryz.prog 38 #[.string nb] W fun e w' => e = .returned (.bool (nameB nb.data.toList)) ∧ W = w') := Lib.hid fun W => lname_any nb hnz W
      have HLK : Hid (∀ W, NamesM bm nm W → (Instr.lookup 136 (.map (some bm)) (.string nb) false).run Tryz.prog W = .ok (.int .i64 (if nm.contains nb.data.toList then 1 else 0)) W) := Lib.hid fun W hW => by
        have := hW.lookup nb (by unfold maxLen; omega)
        rw [among_contains] at this; exact this
      have HUP : Hid (∀ W, NamesM bm nm W → ∃ W', (Instr.mapUpdate 136 (.map (some bm)) (.string nb) (.int .i64 1)).run Tryz.prog W = .ok () W' ∧ NamesM bm (nb.data.toList :: nm) W' ∧ W.grownBy W' (some bm)) := Lib.hid fun W hW => hW.update nb (by unfold maxLen; omega) (by omega)
      have HQ2 := Lib.hid hq
      clear e0 e1 hy hx1 hx2 hnb hnd hq hbw
      generalize litB (A[i]'hil).2 = lb at *
      generalize nameB nb.data.toList = nbb at *
      have i1 : (i : Int).toNat = i := by omega
      have i2 : (0 : Int) ≤ (i : Int) := by omega
      have i3 : (i : Int) < (n : Int) := by omega
      have i4 : IntKind.i64.wrap ((i : Int) + 1) = ((i + 1 : Nat) : Int) := by rw [IntWalk.i64_in _ (by omega)]; omega
      have HZb := HB.out.size
      obtain ⟨w2, hw2⟩ : ∃ w2, wr.alloc (.cells #[.string nb, .slice a vn c] 65 (0, 0)) = w2 := ⟨_, rfl⟩
      have hb2 : Below wr.heap.size wr w2 := by rw [← hw2]; exact (Below.refl _ _).alloc (Nat.le_refl _) _
      have HB2 : Hid (Below w.heap.size w w2) := Lib.hid (HB.out.trans (hb2.mono HZb))
      have HM2 := Lib.hid (HM.out.below hb2)
      have HC2 : Hid (w2.heap[wr.heap.size]? = some (.cells #[.string nb, .slice a vn c] 65 (0, 0))) := Lib.hid (by rw [← hw2]; exact heap_new _ _ _ rfl)
      have d0 : w2.cell? ⟨wr.heap.size, 0, none⟩ = some (.string nb) := by rw [Lib.cell_of_heap HC2.out]; rfl
      have d1 : w2.cell? ⟨wr.heap.size, 1, none⟩ = some (.slice a vn c) := by rw [Lib.cell_of_heap HC2.out]; rfl
      have hlk := HLK.out w2 HM2.out
      have hbmne : wr.heap.size ≠ bm := by have := HM.out.lt; omega
      have HW2 := Lib.hid hw2
      have HJJ := Lib.hid (And.intro hj hj')
      clear hb2 hw2 hj hj' hil
      cases hc : nm.contains nb.data.toList with
      | true =>
        rw [hc] at hlk
        rw [if_pos rfl] at hlk
        have HF : Hid (false = Z) := Lib.hid (by have := HQ2.out; rw [hc] at this; simpa using this)
        clear hc
        go_upto_region 5 with fail
        rw [HW2.out]
        go_wp2_with fail
        go_ret
        exact ⟨ret_b HF.out, HB2.out⟩
      | false =>
        rw [hc] at hlk
        rw [if_neg (by simp)] at hlk
        cases nbb with
        | false =>
          have HF : Hid (false = Z) := Lib.hid (by have := HQ2.out; simpa using this)
          clear hc
          go_upto_region 5 with fail
          rw [HW2.out]
          go_wp2_with fail
          refine (HNM.out w2).mono ?_; rintro e w3 ⟨rfl, rfl⟩
          go_wp2_with fail
          go_ret
          exact ⟨ret_b HF.out, HB2.out⟩
        | true =>
          cases lb with
          | false =>
            have HF : Hid (false = Z) := Lib.hid (by have := HQ2.out; simpa using this)
            clear hc
            go_upto_region 5 with fail
            rw [HW2.out]
            go_wp2_with fail
            refine (HNM.out w2).mono ?_; rintro e w3 ⟨rfl, rfl⟩
            go_wp2_with fail
            refine (HLT.out w2 HB2.out).mono ?_; rintro e w3 ⟨rfl, hb⟩
            have HB3 := Lib.hid (HB2.out.trans (hb.mono HB2.out.size))
            clear hb
            go_wp2_with fail
            go_ret
            exact ⟨ret_b HF.out, HB3.out⟩
          | true =>
            have HF : Hid (namedB (nb.data.toList :: nm) (A.drop (i + 1)) = Z) := Lib.hid (by have := HQ2.out; rw [hc] at this; simpa using this)
            clear hc
            go_upto_region 5 with fail
            rw [HW2.out]
            go_wp2_with fail
            refine (HNM.out w2).mono ?_; rintro e w3 ⟨rfl, rfl⟩
            go_wp2_with fail
            refine (HLT.out w2 HB2.out).mono ?_; rintro e w3 ⟨rfl, hb⟩
            have HB3 := Lib.hid (HB2.out.trans (hb.mono HB2.out.size))
            have HM3 := Lib.hid (HM2.out.below hb)
            have HC3 := Lib.hid ((hb.block _ (heap_lt HC2.out)).trans HC2.out)
            have d3 : w3.cell? ⟨wr.heap.size, 0, none⟩ = some (.string nb) := by rw [Lib.cell_of_heap HC3.out]; rfl
            obtain ⟨W4, hu, hM4, hg4⟩ := HUP.out w3 HM3.out
            have HM4 := Lib.hid hM4
            have HB4 : Hid (Below w.heap.size w W4) := Lib.hid (HB3.out.grown hg4 HB3.out.size (fun k hk => by injection hk with hk; have := HBM.out; omega))
            clear hb hM4 hg4 d0 d1 hlk
            go_wp2_with fail
            obtain ⟨hj, hj'⟩ := HJJ.out
            go_roundg g1
            case measure => omega
            case rel => exact ⟨i + 1, _, by first | rfl | go_num, ⟨by omega, by omega⟩, by simp only [List.length_cons]; omega, HM4, HB4, HF⟩
theorem lnamed_any (A : List (List UInt8 × List Cel)) (u : Value) (w : World) (hA : ArgSl u A w) (hs : ArgsSm A) (hE : EnvU w) :
    Calls Tryz.prog 43 #[u] w fun e w' => e = .returned (.bool (namedB [] A)) ∧ Below w.heap.size w w' := by
  rcases hA with ⟨a, c, rfl, rfl⟩ | ⟨b, off, cap, rfl, hrow, hpos⟩
  · exact lnamed_none a c w
  · exact lnamed_go A b off cap w hrow hpos hs hE
end Go.Proofs.YtgaknbnhmoddcaaGreatDoor
namespace Go.Proofs.YtgaknbnhmoddcaaGreatDoor
open Go.RowKit
theorem namedB_ok : ∀ (nm : List (List UInt8)) (A : List (List UInt8 × List Cel)), namedB nm A = true → (∀ x ∈ A, SmallV x.2) → ArgsOk A
  | _, [], _, _ => fun x h => by cases h
  | nm, x :: r, h, hs => by
    rw [namedB] at h
    simp only [Bool.and_eq_true] at h
    have hm : mayB x.2 = true := by have := h.1.2; unfold litB at this; simp only [Bool.and_eq_true] at this; exact this.1
    obtain ⟨h1, h2, h3⟩ := mayB_parts hm
    have ih := namedB_ok _ r h.2 (fun y hy => hs y (by simp [hy]))
    intro y hy
    rcases List.mem_cons.1 hy with rfl | hy
    · exact ⟨h1, h2, fun c hc => ((hs y (by simp)).2 c hc).2.2, h3⟩
    · exact ih y hy
def atoksE (A : List (List UInt8 × List Cel)) : Int := if namedB [] A then 0 else 8
def atoksL (A : List (List UInt8 × List Cel)) : List Tok := if namedB [] A then argsK A else []
theorem OwnT.slf {B : Nat} {v : Value} {L : List Tok} {W : World} (h : OwnT B v L W) : ∃ a n c, v = .slice a n c := by
  rcases h.2 with ⟨e1, _⟩ | ⟨g, cap, cur, e1, _⟩
  · exact ⟨_, _, _, e1⟩
  · exact ⟨_, _, _, e1⟩
set_option maxRecDepth 100000 in
theorem argtoks_any (A : List (List UInt8 × List Cel)) (u : Value) (w : World) (hA : ArgSl u A w) (hu : ∃ a n c, u = .slice a n c) (hs : ArgsSm A) (hroom : roomA A ≤ 80000) (hE : EnvU w) (hT : EnvT w) :
    Calls Tryz.prog 15 #[u] w fun e w' => (∃ v, e = .returned (.tuple #[v, .int .i64 (atoksE A)]) ∧ OwnT w.heap.size v (atoksL A) w') ∧ Below w.heap.size w w' := by
  have HNM := Lib.hid (lnamed_any A u w hA hs hE)
  obtain ⟨a, n, c, rfl⟩ := hu
  unfold atoksE atoksL
  have HS := Lib.hid hs
  have HA := Lib.hid hA
  have HT := Lib.hid hT
  cases hb : namedB [] A with
  | false =>
    rw [hb] at HNM
    clear hA hs hE hT hb hroom
    go_enter Tryz.func15, Tryz.ntmps15
    go_wp2_with fail
    refine HNM.out.mono ?_; rintro e w1 ⟨rfl, hb⟩
    have HB := Lib.hid hb
    clear hb
    go_wp2_with fail
    go_ret2
    exact ⟨⟨_, rfl, OwnT.nil _ _⟩, HB.out⟩
  | true =>
    rw [hb] at HNM
    have HOK := Lib.hid (namedB_ok [] A hb fun x hx => (hs.2 x hx).2)
    have hal := hs.1
    clear hA hs hE hT hb
    go_enter Tryz.func15, Tryz.ntmps15
    go_wp2_with fail
    refine HNM.out.mono ?_; rintro e w1 ⟨rfl, hb⟩
    have hz := hb.size
    have hb2 : Below w.heap.size w (w1.alloc (.cells #[.slice none 0 0] 78 (0, 0))) := hb.alloc hz _
    have HB2 := Lib.hid hb2
    have HP : Hid (PutS w1.heap.size (.slice none 0 0) [] (w1.alloc (.cells #[.slice none 0 0] 78 (0, 0)))) := Lib.hid ⟨heap_new _ _ _ rfl, OwnT.nil _ _⟩
    have HUP := Lib.hid (up_args w1 A w1.heap.size _ (ArgSl.below HA.out hb) HOK.out hal (HT.out.stays hb) (Nat.le_refl _) _ _ [] HP.out ((Below.refl _ _).alloc (Nat.le_refl _) _) (by simp; omega))
    clear hb hb2
    go_wp2_with fail
    refine HUP.out.mono ?_; rintro e w3 ⟨rfl, ⟨v3, h3⟩, hk3⟩
    have h3c := h3.cell
    have HP3 := Lib.hid h3
    have HB3 : Hid (Below w.heap.size w w3) := Lib.hid (HB2.out.trans (hk3.1.mono hz))
    obtain ⟨a3, n3, c3, rfl⟩ := h3.2.slf
    clear h3 hk3
    go_wp2_with fail
    go_ret2
    refine ⟨⟨_, rfl, ?_⟩, HB3.out⟩
    have := HP3.out.2.lessU (B' := w.heap.size) (by omega)
    simpa using this
/-- A directive's tokens; directives'. -/
def dirK (x : List UInt8 × List (List UInt8 × List Cel)) : List Tok := mkT [64] :: nmT x.1 :: argsK x.2
def dirB (x : List UInt8 × List (List UInt8 × List Cel)) : Bool := nameB x.1 && namedB [] x.2
def dtoksE (D : List (List UInt8 × List (List UInt8 × List Cel))) : Int := if D.all dirB then 0 else 8
def dtoksL (D : List (List UInt8 × List (List UInt8 × List Cel))) : List Tok := if D.all dirB then D.flatMap dirK else []
def roomD : List (List UInt8 × List (List UInt8 × List Cel)) → Nat
  | [] => 0
  | x :: r => 4 + roomA x.2 + roomD r
theorem argsK_le (A : List (List UInt8 × List Cel)) (h : ArgsOk A) : (argsK A).length ≤ roomA A + 2 := by
  unfold argsK
  have := argsK_len A h
  split
  · simp
  · simp only [List.length_cons, List.length_append, List.length_nil]; omega
def DirsSm (D : List (List UInt8 × List (List UInt8 × List Cel))) : Prop := D.length ≤ 100000 ∧ ∀ x ∈ D, x.1.length ≤ 1000000 ∧ ArgsSm x.2
set_option maxRecDepth 100000 in
theorem dirtoks_none (a : Option Addr) (c : Nat) (w : World) :
    Calls Tryz.prog 17 #[.slice a 0 c] w fun e w' => e = .returned (.tuple #[.slice none 0 0, .int .i64 0]) ∧ Below w.heap.size w w' := by
  have HB : Hid (Below w.heap.size w (w.alloc (.cells #[.slice none 0 0] 78 (0, 0)))) := Lib.hid ((Below.refl _ _).alloc (Nat.le_refl _) _)
  go_enter Tryz.func17, Tryz.ntmps17
  go_wp2_with fail
  refine wp_loop_rounds 1 ?_; rw [rounds_succ]
  go_wp2_with fail
  go_ret2
  exact ⟨rfl, HB.out⟩
set_option maxRecDepth 100000 in
set_option maxHeartbeats 4000000 in
theorem dirtoks_go (D : List (List UInt8 × List (List UInt8 × List Cel))) (b off cap : Nat) (w : World) (hA : XRow ArgSl b off D w) (hpos : 0 < D.length) (hs : DirsSm D) (hroom : roomD D ≤ 80000) (hE : EnvU w) (hT : EnvT w) :
    Calls Tryz.prog 17 #[.slice (some ⟨b, off, none⟩) D.length cap] w fun e w' => (∃ v, e = .returned (.tuple #[v, .int .i64 (dtoksE D)]) ∧ OwnT w.heap.size v (dtoksL D) w') ∧ Below w.heap.size w w' := by
  have HA := Lib.hid hA
  have HS := Lib.hid hs.2
  have hl := hs.1
  have HE := Lib.hid hE
  have HT := Lib.hid hT
  obtain ⟨ZE, hZE⟩ : ∃ ZE, dtoksE D = ZE := ⟨_, rfl⟩
  obtain ⟨ZL, hZL⟩ : ∃ ZL, dtoksL D = ZL := ⟨_, rfl⟩
  rw [hZE, hZL]
  -- what is still to come, told from where it is
  have HQ0 : Hid ((D.drop 0).all dirB = true → ZE = 0 ∧ ([] : List Tok) ++ (D.drop 0).flatMap dirK = ZL) := Lib.hid fun h => by
    rw [List.drop_zero] at h ⊢
    unfold dtoksE at hZE
    unfold dtoksL at hZL
    rw [h] at hZE hZL
    exact ⟨hZE.symm, by rw [← hZL]; simp⟩
  have HN0 : Hid ((D.drop 0).all dirB = false → ZE = 8 ∧ ZL = []) := Lib.hid fun h => by
    rw [List.drop_zero] at h
    unfold dtoksE at hZE
    unfold dtoksL at hZL
    rw [h] at hZE hZL
    exact ⟨hZE.symm, hZL.symm⟩
  have HR0 : Hid (([] : List Tok).length + roomD (D.drop 0) ≤ 80000) := Lib.hid (by simpa using hroom)
  obtain ⟨n, hn⟩ : ∃ n, D.length = n := ⟨_, rfl⟩
  have HN := Lib.hid hn
  rw [hn]
  rw [hn] at hl hpos
  obtain ⟨q, hq⟩ : ∃ q, w.heap.size = q := ⟨_, rfl⟩
  obtain ⟨w1, hw1⟩ : ∃ w1, w.alloc (.cells #[.slice none 0 0] 78 (0, 0)) = w1 := ⟨_, rfl⟩
  have HB1 : Hid (Below w.heap.size w w1) := Lib.hid (by rw [← hw1]; exact (Below.refl _ _).alloc (Nat.le_refl _) _)
  have HP1 : Hid (PutS q (.slice none 0 0) [] w1) := Lib.hid ⟨by rw [← hw1, ← hq]; exact heap_new _ _ _ rfl, OwnT.nil _ _⟩
  have HW1 := Lib.hid hw1
  have HQQ := Lib.hid hq
  clear hA hs hE hT hZE hZL hn hq hw1 hroom
  go_enter Tryz.func17, Tryz.ntmps17
  go_wp2_with fail
  try rw [HW1.out]
  try simp only [HQQ.out]
  go_loopg [11] n (fun gk iv wr => ∃ (i : Nat) (L1 : List Tok) (pv : Value), iv = .int .i64 (i : Int) ∧ (gk + i ≤ n ∧ n ≤ gk + i) ∧ Hid (PutS q pv L1 wr) ∧ Hid (Below w.heap.size w wr) ∧ Hid (L1.length + roomD (D.drop i) ≤ 80000) ∧ Hid ((D.drop i).all dirB = true → ZE = 0 ∧ L1 ++ (D.drop i).flatMap dirK = ZL) ∧ Hid ((D.drop i).all dirB = false → ZE = 8 ∧ ZL = []))
  case atStart => exact ⟨0, [], _, by go_num, ⟨by omega, by omega⟩, HP1, HB1, HR0, HQ0, HN0⟩
  case round =>
    clear HP1 HB1 HR0 HQ0 HN0 HW1
    rename World => wr
    obtain ⟨i, L1, pv, rfl, ⟨hj, hj'⟩, HP, HB, HRM, HQ, HNO⟩ := hrel
    have hL1 : L1.length ≤ 80000 := by have := HRM.out; omega
    by_cases hg0 : gk = 0
    · subst hg0
      have hlt : ¬ (i : Int) < (n : Int) := by omega
      have hdn : D.drop i = [] := List.drop_of_length_le (by have := HN.out; omega)
      have HF : Hid (ZE = 0 ∧ L1 = ZL) := Lib.hid (by have := HQ.out (by rw [hdn]; rfl); rw [hdn] at this; simpa using this)
      have h3c := HP.out.cell
      obtain ⟨a3, n3, c3, rfl⟩ := HP.out.2.slf
      clear hj hj' hdn
      go_wp2_with fail
      go_ret2
      refine ⟨⟨.slice a3 n3 c3, by rw [HF.out.1]; rfl, ?_⟩, HB.out⟩
      rw [← HF.out.2]
      exact HP.out.2.lessU (by have := HQQ.out; omega)
    · obtain ⟨g1, rfl⟩ : ∃ g1, gk = g1 + 1 := ⟨gk - 1, by omega⟩
      have hil : i < D.length := by have := HN.out; omega
      clear hg0
      have hbw := HB.out
      obtain ⟨e0, a, vn, c, e1, hy⟩ := HA.out i hil
      obtain ⟨hx1, hx2⟩ := HS.out D[i] (List.getElem_mem hil)
      have r0 : wr.cell? ⟨b, off + i * 2, none⟩ = some (.string ⟨(D[i]'hil).1.toArray⟩) := (hbw.cell (p := ⟨b, _, none⟩) (lt_of_cell e0)).trans e0
      have r1 : wr.cell? ⟨b, off + i * 2 + 1, none⟩ = some (.slice a vn c) := (hbw.cell (p := ⟨b, _, none⟩) (lt_of_cell e0)).trans e1
      have hq1 := HQ.out
      have hq2 := HNO.out
      have hrm := HRM.out
      rw [List.drop_eq_getElem_cons hil] at hq1 hq2 hrm
      rw [roomD] at hrm
      simp only [List.all_cons, List.flatMap_cons] at hq1 hq2
      have HNA : Hid (∀ W, Below w.heap.size w W → Calls Tryz.prog 43 #[.slice a vn c] W fun e w' => e = .returned (.bool (namedB [] (D[i]'hil).2)) ∧ Below W.heap.size W w') := Lib.hid fun W hW => lnamed_any _ _ W (ArgSl.below hy hW) hx2 (HE.out.below hW)
      have HPA : Hid (namedB [] (D[i]'hil).2 = true → (argsK (D[i]'hil).2).length ≤ roomA (D[i]'hil).2 + 2 ∧ ∀ (W : World) (pv : Value) (L : List Tok), Below w.heap.size w W → PutS q pv L W → L.length + 2 + roomA (D[i]'hil).2 ≤ 90000 → Calls Tryz.prog 44 #[.pointer (some ⟨q, 0, none⟩), .slice a vn c] W fun e w' => e = .returned (.tuple #[]) ∧ (∃ v', PutS q v' (L ++ argsK (D[i]'hil).2) w') ∧ RK q W w') := Lib.hid fun hb => by
        have hok := namedB_ok [] _ hb fun x hx => (hx2.2 x hx).2
        exact ⟨argsK_le _ hok, fun W pv L hW hP hr => up_args w (D[i]'hil).2 q _ hy hok hx2.1 HT.out (by have := HQQ.out; omega) W pv L hP hW (by omega)⟩
      obtain ⟨nb, hnb⟩ : ∃ nb : ByteArray, (⟨(D[i]'hil).1.toArray⟩ : ByteArray) = nb := ⟨_, rfl⟩
      have hnd : (D[i]'hil).1 = nb.data.toList := by rw [← hnb]
      have hnz : nb.size ≤ 1000000 := by rw [← bsz, ← hnd]; exact hx1
      rw [hnb] at r0
      have HNM : Hid (∀ W, Calls Tryz.prog 38 #[.string nb] W fun e w' => e = .returned (.bool (nameB nb.data.toList)) ∧ W = w') := Lib.hid fun W => lname_any nb hnz W
      have hdb : dirB (D[i]'hil) = (nameB nb.data.toList && namedB [] (D[i]'hil).2) := by unfold dirB; rw [hnd]
      have hdk : dirK (D[i]'hil) = mkT [64] :: ⟨1, nb.data.toList, 0⟩ :: argsK (D[i]'hil).2 := by unfold dirK; rw [hnd]; rfl
      rw [hdb] at hq1 hq2
      rw [hdk] at hq1
      have HQ1 := Lib.hid hq1
      have HQ2 := Lib.hid hq2
      have HRM2 := Lib.hid hrm
      clear e0 e1 hy hx1 hx2 hnb hnd hq1 hq2 hbw hdb hdk hrm
      generalize argsK (D[i]'hil).2 = ak at *
      generalize roomA (D[i]'hil).2 = ra at *
      generalize namedB [] (D[i]'hil).2 = lb at *
      generalize nameB nb.data.toList = nbb at *
      have i1 : (i : Int).toNat = i := by omega
      have i2 : (0 : Int) ≤ (i : Int) := by omega
      have i3 : (i : Int) < (n : Int) := by omega
      have i4 : IntKind.i64.wrap ((i : Int) + 1) = ((i + 1 : Nat) : Int) := by rw [IntWalk.i64_in _ (by omega)]; omega
      have HZb := HB.out.size
      have hqr := HP.out.lt
      obtain ⟨w2, hw2⟩ : ∃ w2, wr.alloc (.cells #[.string nb, .slice a vn c] 61 (0, 0)) = w2 := ⟨_, rfl⟩
      have hb2 : Below wr.heap.size wr w2 := by rw [← hw2]; exact (Below.refl _ _).alloc (Nat.le_refl _) _
      have HB2 : Hid (Below w.heap.size w w2) := Lib.hid (HB.out.trans (hb2.mono HZb))
      have HP2 := Lib.hid (HP.out.below hb2)
      have HC2 : Hid (w2.heap[wr.heap.size]? = some (.cells #[.string nb, .slice a vn c] 61 (0, 0))) := Lib.hid (by rw [← hw2]; exact heap_new _ _ _ rfl)
      have d0 : w2.cell? ⟨wr.heap.size, 0, none⟩ = some (.string nb) := by rw [Lib.cell_of_heap HC2.out]; rfl
      have d1 : w2.cell? ⟨wr.heap.size, 1, none⟩ = some (.slice a vn c) := by rw [Lib.cell_of_heap HC2.out]; rfl
      have hcq : wr.heap.size ≠ q := by omega
      have HW2 := Lib.hid hw2
      have HJJ := Lib.hid (And.intro hj hj')
      clear hb2 hw2 hj hj' hil
      cases nbb with
      | false =>
        have HF : Hid (ZE = 8 ∧ ZL = []) := Lib.hid (HQ2.out (by simp))
        go_upto_region 5 with fail
        rw [HW2.out]
        go_wp2_with fail
        refine (HNM.out w2).mono ?_; rintro e w3 ⟨rfl, rfl⟩
        go_wp2_with fail
        go_ret2
        exact ⟨⟨.slice none 0 0, by rw [HF.out.1]; rfl, by rw [HF.out.2]; exact OwnT.nil _ _⟩, HB2.out⟩
      | true =>
        cases lb with
        | false =>
          have HF : Hid (ZE = 8 ∧ ZL = []) := Lib.hid (HQ2.out (by simp))
          go_upto_region 5 with fail
          rw [HW2.out]
          go_wp2_with fail
          refine (HNM.out w2).mono ?_; rintro e w3 ⟨rfl, rfl⟩
          go_wp2_with fail
          refine (HNA.out w2 HB2.out).mono ?_; rintro e w3 ⟨rfl, hb⟩
          have HB3 := Lib.hid (HB2.out.trans (hb.mono HB2.out.size))
          clear hb
          go_wp2_with fail
          go_ret2
          exact ⟨⟨.slice none 0 0, by rw [HF.out.1]; rfl, by rw [HF.out.2]; exact OwnT.nil _ _⟩, HB3.out⟩
        | true =>
          obtain ⟨hak, hpa⟩ := HPA.out rfl
          have HPX := Lib.hid hpa
          have HRN : Hid (L1.length + 2 + ak.length + roomD (D.drop (i + 1)) ≤ 80000 ∧ L1.length + 4 + ra ≤ 80000) := Lib.hid ⟨by have := HRM2.out; omega, by have := HRM2.out; omega⟩
          have HFY : Hid ((D.drop (i + 1)).all dirB = true → ZE = 0 ∧ (((L1 ++ [mkT [64]]) ++ [⟨1, nb.data.toList, 0⟩]) ++ ak) ++ (D.drop (i + 1)).flatMap dirK = ZL) := Lib.hid fun h => by
            have := HQ1.out (by simp [h])
            exact ⟨this.1, by rw [← this.2]; simp⟩
          have HFN : Hid ((D.drop (i + 1)).all dirB = false → ZE = 8 ∧ ZL = []) := Lib.hid fun h => HQ2.out (by simp [h])
          clear hpa
          go_upto_region 5 with fail
          rw [HW2.out]
          go_wp2_with fail
          refine (HNM.out w2).mono ?_; rintro e w3 ⟨rfl, rfl⟩
          go_wp2_with fail
          refine (HNA.out w2 HB2.out).mono ?_; rintro e w3 ⟨rfl, hb⟩
          have HB3 := Lib.hid (HB2.out.trans (hb.mono HB2.out.size))
          have HP3 := Lib.hid (HP2.out.below hb)
          have HC3 := Lib.hid ((hb.block _ (heap_lt HC2.out)).trans HC2.out)
          clear hb d0 d1
          generalize wr.heap.size = cb at *
          have hq3 := HP3.out.lt
          have hz3 := HB3.out.size
          have hb4 : Below w3.heap.size w3 (w3.alloc (.cells #[.string ⟨#[64]⟩] 9 (0, 0))) := (Below.refl _ _).alloc (Nat.le_refl _) _
          have HP4 := Lib.hid (HP3.out.below hb4)
          have HB4 := Lib.hid (HB3.out.trans (hb4.mono hz3))
          have HC4 := Lib.hid ((hb4.block cb (heap_lt HC3.out)).trans HC3.out)
          have hne4 : w3.heap.size ≠ q := by omega
          clear hb4
          go_wp2_with fail
          refine (put_add q pv L1 4 4 rfl ⟨#[64]⟩ _ 1 _ HP4.out (new_cell0 _ _ _) hne4 (by omega)).mono ?_; rintro e w5 ⟨rfl, ⟨pv5, hx1⟩, hx2⟩
          have HP5 : Hid (PutS q pv5 (L1 ++ [mkT [64]]) w5) := Lib.hid hx1
          have HB5 : Hid (Below w.heap.size w w5) := Lib.hid (HB4.out.trans (hx2.1.mono (by have := HQQ.out; omega)))
          have HC5 := Lib.hid (hx2.2 _ _ HC4.out hcq)
          have d0 : w5.cell? ⟨cb, 0, none⟩ = some (.string nb) := by rw [Lib.cell_of_heap HC5.out]; rfl
          have hz5 := HB5.out.size
          have hq5 := HP5.out.lt
          clear hx1 hx2 HP4 HB4 HC4 hne4 hz3 hq3
          have hb6 : Below w5.heap.size w5 (w5.alloc (.cells #[.string nb] 9 (0, 0))) := (Below.refl _ _).alloc (Nat.le_refl _) _
          have HP6 := Lib.hid (HP5.out.below hb6)
          have HB6 := Lib.hid (HB5.out.trans (hb6.mono hz5))
          have HC6 := Lib.hid ((hb6.block cb (heap_lt HC5.out)).trans HC5.out)
          have hne6 : w5.heap.size ≠ q := by omega
          clear hb6
          go_wp2_with fail
          refine (put_add q pv5 _ 1 1 rfl nb _ 1 _ HP6.out (new_cell0 _ _ _) hne6 (by simp only [List.length_append, List.length_cons, List.length_nil]; omega)).mono ?_; rintro e w7 ⟨rfl, ⟨pv7, hx1⟩, hx2⟩
          have HP7 : Hid (PutS q pv7 ((L1 ++ [mkT [64]]) ++ [⟨1, nb.data.toList, 0⟩]) w7) := Lib.hid hx1
          have HB7 : Hid (Below w.heap.size w w7) := Lib.hid (HB6.out.trans (hx2.1.mono (by have := HQQ.out; omega)))
          have HC7 := Lib.hid (hx2.2 _ _ HC6.out hcq)
          have d1 : w7.cell? ⟨cb, 1, none⟩ = some (.slice a vn c) := by rw [Lib.cell_of_heap HC7.out]; rfl
          clear hx1 hx2 HP6 HB6 HC6 hne6 d0
          go_wp2_with fail
          refine (HPX.out w7 pv7 _ HB7.out HP7.out (by have := HRN.out; simp only [List.length_append, List.length_cons, List.length_nil]; omega)).mono ?_; rintro e w8 ⟨rfl, ⟨pv8, hx1⟩, hx2⟩
          have HP8 := Lib.hid hx1
          have HB8 : Hid (Below w.heap.size w w8) := Lib.hid (HB7.out.trans (hx2.1.mono (by have := HQQ.out; omega)))
          clear hx1 hx2
          go_wp2_with fail
          obtain ⟨hj, hj'⟩ := HJJ.out
          go_roundg g1
          case measure => omega
          case rel => exact ⟨i + 1, _, pv8, by first | rfl | go_num, ⟨by omega, by omega⟩, HP8, HB8, Lib.hid (by have := HRN.out; simp only [List.length_append, List.length_cons, List.length_nil]; omega), HFY, HFN⟩
theorem dirtoks_any (D : List (List UInt8 × List (List UInt8 × List Cel))) (u : Value) (w : World) (hA : DirSl u D w) (hs : DirsSm D) (hroom : roomD D ≤ 80000) (hE : EnvU w) (hT : EnvT w) :
    Calls Tryz.prog 17 #[u] w fun e w' => (∃ v, e = .returned (.tuple #[v, .int .i64 (dtoksE D)]) ∧ OwnT w.heap.size v (dtoksL D) w') ∧ Below w.heap.size w w' := by
  rcases hA with ⟨a, c, rfl, rfl⟩ | ⟨b, off, cap, rfl, hrow, hpos⟩
  · refine (dirtoks_none a c w).mono ?_
    rintro e w' ⟨rfl, hb⟩
    exact ⟨⟨_, rfl, OwnT.nil _ _⟩, hb⟩
  · exact dirtoks_go D b off cap w hrow hpos hs hroom hE hT
end Go.Proofs.YtgaknbnhmoddcaaGreatDoor
namespace Go.Proofs.YtgaknbnhmoddcaaGreatDoor
open Go.RowKit
def gaG : Nat → Nat → List (List UInt8 × List Cel) → Option Nat
  | 0, n, _ => some n
  | _ + 1, n, [] => some n
  | f + 1, n, x :: r => if greatV x.2 60 || decide (300 < x.1.length) then none else gaG f (n + x.2.length) r
def greatAB (A : List (List UInt8 × List Cel)) : Bool := match gaG 30 0 A with
  | none => true
  | some n => decide (20 < A.length) || decide (100 < n)
theorem great_len {V : List Cel} {m : Nat} (h : greatV V m = false) : V.length ≤ m := by
  unfold greatV at h
  rw [Bool.or_eq_false_iff] at h
  have := h.2
  simp at this
  exact this
set_option maxRecDepth 100000 in
set_option maxHeartbeats 4000000 in
theorem greatargs_row (A : List (List UInt8 × List Cel)) (b off cap : Nat) (hl : A.length ≤ 9223372036854775807) (w : World) (hr : XRow CelSl b off A w) (hsz : ∀ x ∈ A, x.1.length ≤ 9223372036854775807 ∧ x.2.length ≤ 9223372036854775807 ∧ ∀ c ∈ x.2, c.name.length ≤ 9223372036854775807 ∧ c.text.length ≤ 9223372036854775807) :
    Calls Tryz.prog 8 #[.slice (some ⟨b, off, none⟩) A.length cap] w fun e w' => e = .returned (.bool (greatAB A)) ∧ w = w' := by
  have HA := Lib.hid hr
  have HS := Lib.hid hsz
  obtain ⟨Z, hZ⟩ : ∃ Z, gaG 30 0 A = Z := ⟨_, rfl⟩
  have HZ0 : Hid (gaG (30 - 0) 0 (A.drop 0) = Z) := Lib.hid hZ
  have HG : Hid ((Z = none → greatAB A = true) ∧ ∀ n, Z = some n → greatAB A = (decide (20 < A.length) || decide (100 < n))) := Lib.hid (by
    unfold greatAB
    rw [hZ]
    exact ⟨fun h => by rw [h], fun n h => by rw [h]⟩)
  generalize greatAB A = G at HG ⊢
  obtain ⟨n, hn⟩ : ∃ n, A.length = n := ⟨_, rfl⟩
  have HN := Lib.hid hn
  rw [hn] at HG ⊢
  rw [hn] at hl
  clear hr hsz hZ hn
  go_enter Tryz.func8, Tryz.ntmps8
  go_wp2_with fail
  go_loopg [3, 4] 31 (fun gk nv iv wr => ∃ (i s : Nat), iv = .int .i64 (i : Int) ∧ nv = .int .i64 (s : Int) ∧ (gk + i ≤ 31 ∧ 31 ≤ gk + i) ∧ i ≤ 30 ∧ s ≤ 60 * i ∧ Hid (gaG (30 - i) s (A.drop i) = Z) ∧ w = wr)
  case atStart => exact ⟨0, 0, by go_num, by go_num, ⟨by omega, by omega⟩, by omega, by omega, HZ0, rfl⟩
  case round =>
    clear HZ0
    rename World => wr
    obtain ⟨i, s, rfl, rfl, ⟨hj, hj'⟩, hi, hs, HQ, rfl⟩ := hrel
    obtain ⟨g, rfl⟩ : ∃ g, gk = g + 1 := ⟨gk - 1, by omega⟩
    have HJJ := Lib.hid (And.intro hj hj')
    clear hj hj'
    by_cases hin : (i : Int) < (n : Int)
    · by_cases h30 : (i : Int) < 30
      · have hil : i < A.length := by have := HN.out; omega
        obtain ⟨e0, a, vn, c, e1, hy⟩ := HA.out i hil
        obtain ⟨z1, z2, z3⟩ := HS.out A[i] (List.getElem_mem hil)
        have hq := HQ.out
        obtain ⟨f, hf⟩ : ∃ f, 30 - i = f + 1 := ⟨30 - i - 1, by omega⟩
        rw [hf, List.drop_eq_getElem_cons hil, gaG] at hq
        have hf2 : 30 - (i + 1) = f := by omega
        have hvn : vn = (A[i]'hil).2.length := by
          rcases hy with ⟨a2, c2, e2, e3, _⟩ | ⟨b2, o2, c2, e2, e3, e4⟩
          · injection e2 with _ e2 _; rw [e2, e3]; rfl
          · injection e2
        have HC := Lib.hid (rgreat03_any _ _ 60 (by exact z2) (by decide) w hy z3)
        obtain ⟨nb, hnb⟩ : ∃ nb : ByteArray, (⟨(A[i]'hil).1.toArray⟩ : ByteArray) = nb := ⟨_, rfl⟩
        have hnl : (A[i]'hil).1.length = nb.size := by rw [← hnb]; simp [ByteArray.size]
        rw [hnb] at e0
        rw [hnl] at hq z1
        have hgl := fun h => great_len (V := (A[i]'hil).2) (m := 60) h
        rw [← hvn] at hq hgl z2
        have HQ2 := Lib.hid hq
        clear hq hy hnb hnl hvn z3
        generalize greatV (A[i]'hil).2 60 = gv at *
        have i1 : (i : Int).toNat = i := by omega
        have i2 : (0 : Int) ≤ (i : Int) := by omega
        have i4 : IntKind.i64.wrap ((i : Int) + 1) = ((i + 1 : Nat) : Int) := by rw [IntWalk.i64_in _ (by omega)]; omega
        cases gv with
        | true =>
          have HF : Hid (true = G) := Lib.hid (HG.out.1 (by rw [← HQ2.out]; rfl)).symm
          go_wp2_with fail
          refine HC.out.mono ?_; rintro e w2 ⟨rfl, rfl⟩
          go_wp2_with fail
          go_ret
          exact ⟨ret_b HF.out, rfl⟩
        | false =>
          have hv60 := hgl rfl
          by_cases h3 : (300 : Int) < (nb.size : Int)
          · have HF : Hid (true = G) := Lib.hid (HG.out.1 (by rw [← HQ2.out, decide_eq_true (by omega : 300 < nb.size)]; rfl)).symm
            clear hgl
            go_wp2_with fail
            refine HC.out.mono ?_; rintro e w2 ⟨rfl, rfl⟩
            go_wp2_with fail
            go_ret
            exact ⟨ret_b HF.out, rfl⟩
          · have HF : Hid (gaG (30 - (i + 1)) (s + vn) (A.drop (i + 1)) = Z) := Lib.hid (by rw [hf2, ← HQ2.out, decide_eq_false (by omega : ¬ 300 < nb.size)]; rfl)
            have i5 : IntKind.i64.wrap ((s : Int) + (vn : Int)) = ((s + vn : Nat) : Int) := by rw [IntWalk.i64_in _ (by omega)]; omega
            clear hgl
            go_wp2_with fail
            refine HC.out.mono ?_; rintro e w2 ⟨rfl, rfl⟩
            go_wp2_with fail
            obtain ⟨hj, hj'⟩ := HJJ.out
            go_roundg g
            case measure => omega
            case rel => exact ⟨i + 1, s + vn, rfl, rfl, ⟨by omega, by omega⟩, by omega, by omega, HF, rfl⟩
      · have HF : Hid (Z = some s) := Lib.hid (by rw [← HQ.out, show 30 - i = 0 by omega, gaG])
        have HF2 := Lib.hid (HG.out.2 s HF.out)
        go_wp2_with fail
        go_ret
        refine ⟨ret_b ?_, rfl⟩
        rw [HF2.out]
        by_cases c1 : 20 < n <;> by_cases c2 : 100 < s <;> simp [c1, c2] <;> omega
    · have HF : Hid (Z = some s) := Lib.hid (by
        rw [← HQ.out, List.drop_of_length_le (by have := HN.out; omega)]
        cases 30 - i <;> rfl)
      have HF2 := Lib.hid (HG.out.2 s HF.out)
      by_cases c1 : (20 : Int) < (n : Int)
      · go_wp2_with fail
        go_ret
        refine ⟨ret_b ?_, rfl⟩
        rw [HF2.out]
        have : 20 < n := by omega
        simp [this]
      · by_cases c2 : (100 : Int) < (s : Int)
        · go_wp2_with fail
          go_ret
          refine ⟨ret_b ?_, rfl⟩
          rw [HF2.out]
          have : 100 < s := by omega
          simp [this]
        · go_wp2_with fail
          go_ret
          refine ⟨ret_b ?_, rfl⟩
          rw [HF2.out]
          have h1 : ¬ 20 < n := by omega
          have h2 : ¬ 100 < s := by omega
          simp [h1, h2]
end Go.Proofs.YtgaknbnhmoddcaaGreatDoor
namespace Go.Proofs.YtgaknbnhmoddcaaGreatDoor
open Go.RowKit
set_option maxRecDepth 100000 in
theorem greatargs_none (a : Option Addr) (c : Nat) (w : World) :
    Calls Tryz.prog 8 #[.slice a 0 c] w fun e w' => e = .returned (.bool false) ∧ w = w' := by
  go_enter Tryz.func8, Tryz.ntmps8
  go_wp2_with fail
  refine wp_loop_rounds 1 ?_; rw [rounds_succ]
  go_wp2_with fail
  go_ret
  exact ⟨rfl, rfl⟩
theorem greatargs_any (A : List (List UInt8 × List Cel)) (u : Value) (hl : A.length ≤ 9223372036854775807) (w : World) (hr : ArgSl u A w) (hsz : ∀ x ∈ A, x.1.length ≤ 9223372036854775807 ∧ x.2.length ≤ 9223372036854775807 ∧ ∀ c ∈ x.2, c.name.length ≤ 9223372036854775807 ∧ c.text.length ≤ 9223372036854775807) :
    Calls Tryz.prog 8 #[u] w fun e w' => e = .returned (.bool (greatAB A)) ∧ w = w' := by
  rcases hr with ⟨a, c, rfl, rfl⟩ | ⟨b, off, cap, rfl, hrow, hpos⟩
  · exact greatargs_none a c w
  · exact greatargs_row A b off cap hl w hrow hsz
end Go.Proofs.YtgaknbnhmoddcaaGreatDoor
namespace Go.Proofs.YtgaknbnhmoddcaaGreatDoor
open Go.RowKit
def gdG : Nat → List (List UInt8 × List (List UInt8 × List Cel)) → Bool
  | 0, _ => false
  | _ + 1, [] => false
  | f + 1, x :: r => greatAB x.2 || decide (300 < x.1.length) || gdG f r
def greatDB (D : List (List UInt8 × List (List UInt8 × List Cel))) : Bool := gdG 30 D || decide (10 < D.length)
def ArgsZ (A : List (List UInt8 × List Cel)) : Prop := A.length ≤ 9223372036854775807 ∧ ∀ x ∈ A, x.1.length ≤ 9223372036854775807 ∧ x.2.length ≤ 9223372036854775807 ∧ ∀ c ∈ x.2, c.name.length ≤ 9223372036854775807 ∧ c.text.length ≤ 9223372036854775807
set_option maxRecDepth 100000 in
set_option maxHeartbeats 4000000 in
theorem greatdirs_row (A : List (List UInt8 × List (List UInt8 × List Cel))) (b off cap : Nat) (hl : A.length ≤ 9223372036854775807) (w : World) (hr : XRow ArgSl b off A w) (hsz : ∀ x ∈ A, x.1.length ≤ 9223372036854775807 ∧ ArgsZ x.2) :
    Calls Tryz.prog 9 #[.slice (some ⟨b, off, none⟩) A.length cap] w fun e w' => e = .returned (.bool (greatDB A)) ∧ w = w' := by
  have HA := Lib.hid hr
  have HS := Lib.hid hsz
  obtain ⟨Z, hZ⟩ : ∃ Z, gdG 30 A = Z := ⟨_, rfl⟩
  have HZ0 : Hid (gdG (30 - 0) (A.drop 0) = Z) := Lib.hid hZ
  have HG : Hid (greatDB A = (Z || decide (10 < A.length))) := Lib.hid (by unfold greatDB; rw [hZ])
  generalize greatDB A = G at HG ⊢
  obtain ⟨n, hn⟩ : ∃ n, A.length = n := ⟨_, rfl⟩
  have HN := Lib.hid hn
  rw [hn] at HG ⊢
  rw [hn] at hl
  clear hr hsz hZ hn
  go_enter Tryz.func9, Tryz.ntmps9
  go_wp2_with fail
  go_loopg [3] 31 (fun gk iv wr => ∃ i : Nat, iv = .int .i64 (i : Int) ∧ (gk + i ≤ 31 ∧ 31 ≤ gk + i) ∧ i ≤ 30 ∧ Hid (gdG (30 - i) (A.drop i) = Z) ∧ w = wr)
  case atStart => exact ⟨0, by go_num, ⟨by omega, by omega⟩, by omega, HZ0, rfl⟩
  case round =>
    clear HZ0
    rename World => wr
    obtain ⟨i, rfl, ⟨hj, hj'⟩, hi, HQ, rfl⟩ := hrel
    obtain ⟨g, rfl⟩ : ∃ g, gk = g + 1 := ⟨gk - 1, by omega⟩
    have HJJ := Lib.hid (And.intro hj hj')
    clear hj hj'
    by_cases hin : (i : Int) < (n : Int)
    · by_cases h30 : (i : Int) < 30
      · have hil : i < A.length := by have := HN.out; omega
        obtain ⟨e0, a, vn, c, e1, hy⟩ := HA.out i hil
        obtain ⟨z1, z2⟩ := HS.out A[i] (List.getElem_mem hil)
        have hq := HQ.out
        obtain ⟨f, hf⟩ : ∃ f, 30 - i = f + 1 := ⟨30 - i - 1, by omega⟩
        rw [hf, List.drop_eq_getElem_cons hil, gdG] at hq
        have hf2 : 30 - (i + 1) = f := by omega
        have HC := Lib.hid (greatargs_any _ _ z2.1 w hy z2.2)
        obtain ⟨nb, hnb⟩ : ∃ nb : ByteArray, (⟨(A[i]'hil).1.toArray⟩ : ByteArray) = nb := ⟨_, rfl⟩
        have hnl : (A[i]'hil).1.length = nb.size := by rw [← hnb]; simp [ByteArray.size]
        rw [hnb] at e0
        rw [hnl] at hq z1
        have HQ2 := Lib.hid hq
        clear hq hy hnb hnl z2
        generalize greatAB (A[i]'hil).2 = gv at *
        have i1 : (i : Int).toNat = i := by omega
        have i2 : (0 : Int) ≤ (i : Int) := by omega
        have i4 : IntKind.i64.wrap ((i : Int) + 1) = ((i + 1 : Nat) : Int) := by rw [IntWalk.i64_in _ (by omega)]; omega
        cases gv with
        | true =>
          have HF : Hid (true = G) := Lib.hid (by rw [HG.out, ← HQ2.out]; simp)
          go_wp2_with fail
          refine HC.out.mono ?_; rintro e w2 ⟨rfl, rfl⟩
          go_wp2_with fail
          go_ret
          exact ⟨ret_b HF.out, rfl⟩
        | false =>
          by_cases h3 : (300 : Int) < (nb.size : Int)
          · have HF : Hid (true = G) := Lib.hid (by rw [HG.out, ← HQ2.out, decide_eq_true (by omega : 300 < nb.size)]; simp)
            go_wp2_with fail
            refine HC.out.mono ?_; rintro e w2 ⟨rfl, rfl⟩
            go_wp2_with fail
            go_ret
            exact ⟨ret_b HF.out, rfl⟩
          · have HF : Hid (gdG (30 - (i + 1)) (A.drop (i + 1)) = Z) := Lib.hid (by rw [hf2, ← HQ2.out, decide_eq_false (by omega : ¬ 300 < nb.size)]; rfl)
            go_wp2_with fail
            refine HC.out.mono ?_; rintro e w2 ⟨rfl, rfl⟩
            go_wp2_with fail
            obtain ⟨hj, hj'⟩ := HJJ.out
            go_roundg g
            case measure => omega
            case rel => exact ⟨i + 1, rfl, ⟨by omega, by omega⟩, by omega, HF, rfl⟩
      · have HF : Hid (Z = false) := Lib.hid (by rw [← HQ.out, show 30 - i = 0 by omega, gdG])
        go_wp2_with fail
        go_ret
        refine ⟨ret_b ?_, rfl⟩
        rw [HG.out, HF.out]
        by_cases c1 : 10 < n <;> simp [c1] <;> omega
    · have HF : Hid (Z = false) := Lib.hid (by
        rw [← HQ.out, List.drop_of_length_le (by have := HN.out; omega)]
        cases 30 - i <;> rfl)
      go_wp2_with fail
      go_ret
      refine ⟨ret_b ?_, rfl⟩
      rw [HG.out, HF.out]
      by_cases c1 : 10 < n <;> simp [c1] <;> omega
set_option maxRecDepth 100000 in
theorem greatdirs_none (a : Option Addr) (c : Nat) (w : World) :
    Calls Tryz.prog 9 #[.slice a 0 c] w fun e w' => e = .returned (.bool false) ∧ w = w' := by
  go_enter Tryz.func9, Tryz.ntmps9
  go_wp2_with fail
  refine wp_loop_rounds 1 ?_; rw [rounds_succ]
  go_wp2_with fail
  go_ret
  exact ⟨rfl, rfl⟩
theorem greatdirs_any (A : List (List UInt8 × List (List UInt8 × List Cel))) (u : Value) (hl : A.length ≤ 9223372036854775807) (w : World) (hr : DirSl u A w) (hsz : ∀ x ∈ A, x.1.length ≤ 9223372036854775807 ∧ ArgsZ x.2) :
    Calls Tryz.prog 9 #[u] w fun e w' => e = .returned (.bool (greatDB A)) ∧ w = w' := by
  rcases hr with ⟨a, c, rfl, rfl⟩ | ⟨b, off, cap, rfl, hrow, hpos⟩
  · exact greatdirs_none a c w
  · exact greatdirs_row A b off cap hl w hrow hsz
end Go.Proofs.YtgaknbnhmoddcaaGreatDoor
namespace Go.Proofs.YtgaknbnhmoddcaaGreatDoor
open Go.Lib
def NumB (V : List Cel) : Prop := ∀ c ∈ V, -9223372036854775808 ≤ c.num ∧ c.num ≤ 9223372036854775807
end Go.Proofs.YtgaknbnhmoddcaaGreatDoor
namespace Go.Proofs.YtgaknbnhmoddcaaGreatDoor
open Go.Lib
/-- May wrappers be, behind one? -/
def typB : UInt8 → List UInt8 → Bool
  | _, [] => true
  | last, w :: r => (w == 1 || w == 2) && !(w == 1 && last == 1) && typB w r
/-- A type's tokens. -/
def typK (nm : List UInt8) : List UInt8 → List Tok
  | [] => [nmT nm]
  | w :: r => if w = 2 then mkT [91] :: (typK nm r ++ [mkT [93]]) else typK nm r ++ [mkT [33]]
end Go.Proofs.YtgaknbnhmoddcaaGreatDoor
namespace Go.Proofs.YtgaknbnhmoddcaaGreatDoor
open Go.RowKit Go.Shelf
attribute [local go_sem] Oper.semAt_some
/-- Wrappers as bits. -/
def wz (b : Bool) : UInt8 := if b then 2 else 1
/-- Every cell but one block's is kept. -/
def KC (p : Nat) (W W' : World) : Prop := ∀ (a : Addr) (v : Value), a.block ≠ p → W.cell? a = some v → W'.cell? a = some v
theorem KC.refl (p : Nat) (W : World) : KC p W W := fun _ _ _ h => h
theorem KC.trans {p : Nat} {A B C : World} (h : KC p A B) (k : KC p B C) : KC p A C := fun a v ha hc => k a v ha (h a v ha hc)
theorem KC.book {p : Nat} (W : World) (l : Nat) (o o' : Obj) (hl : W.heap[l]? = some o) (ho : o.isCells = false) : KC p W (W.putObj l o') := fun a v _ hc => cell_kept hc (grownBy_putObj' W l o') (fun r e => by cases e; exact ⟨o, hl, ho⟩)
theorem KC.of_rk {p : Nat} {W W' : World} (h : RK p W W') : KC p W W' := fun a v ha hc => by
  obtain ⟨o, ho, _⟩ := cells_of_cell hc
  exact (World.cell?_of_block (w := W) ((h.2 _ o ho ha).trans ho.symm)).trans hc
theorem KC.of_below {p : Nat} {W W' : World} (h : Below W.heap.size W W') : KC p W W' := fun a v ha hc => by
  obtain ⟨o, ho, _⟩ := cells_of_cell hc
  exact (h.cell (p := a) (heap_lt ho)).trans hc
theorem backward_c (a : Option Addr) (len cap : Nat) (w : World) :
    Calls Tryz.prog 40 #[.slice a len cap] w fun e w' => e = .returned (.func (.func 74) #[] #[.pointer (some ⟨w.heap.size, 0, none⟩)]) ∧ w' = w.alloc (.cells #[.slice a len cap] 23) := by
  go_enter Tryz.func40, Tryz.ntmps40
  go_wp2_with fail
  go_ret
  exact ⟨rfl, rfl⟩
/-- What has come when k rounds are over. -/
def bk (bs : List Bool) (k : Nat) : List (Nat × Bool) := (List.range k).map fun j => (bs.length - 1 - j, bs[bs.length - 1 - j]?.getD false)
theorem bk_succ (bs : List Bool) (k : Nat) : bk bs (k + 1) = bk bs k ++ [(bs.length - 1 - k, bs[bs.length - 1 - k]?.getD false)] := by simp [bk, List.range_succ]
theorem bk_length (bs : List Bool) (k : Nat) : (bk bs k).length = k := by simp [bk]
theorem bk_all (bs : List Bool) : (bk bs bs.length).map (·.2) = bs.reverse := by
  apply List.ext_getElem
  · simp [bk]
  · intro i h1 h2
    have hi : i < bs.length := by simpa using h2
    have hj : bs.length - 1 - i < bs.length := by omega
    simp [bk, hj]
set_option maxRecDepth 100000 in
set_option maxHeartbeats 2000000 in
theorem back1_in (F : Fence) (n : Nat) (h7 : F.fn 74) (hro : F.round = none) (hn : 1 ≤ n) (l Bs p m cap : Nat) (ao : Option Addr) (bs : List Bool) (hm : m = bs.length) (hsz : m ≤ 1000000) (hBp : Bs ≠ p) (J Jx : List (Nat × Bool) → World → Prop)
    (hY : ∀ pre x W, J pre W → pre.length < m → YieldAt F (n - 1) Tryz.prog l #[.int .i64 (x.1 : Int), .int .u8 ((wz x.2).toNat : Int)] W fun e W' =>
      (e = .returned (.bool true) ∧ J (pre ++ [x]) W' ∧ KC p W W') ∨ (e = .returned (.bool false) ∧ Jx (pre ++ [x]) W'))
    (W : World) (hBs : W.cell? ⟨Bs, 0, none⟩ = some (.slice ao m cap)) (hao : 0 < m → ∃ b off, ao = some ⟨b, off, none⟩ ∧ b ≠ p ∧ ∀ j, j < m → W.cell? ⟨b, off + j, none⟩ = some (.int .u8 ((wz (bs[j]?.getD false)).toNat : Int))) (h0 : J [] W) :
    CallsIn F n Tryz.prog 74 #[.func (.yield l) #[] #[], .pointer (some ⟨Bs, 0, none⟩)] W fun e W' => (∃ v, e = .returned v) ∧
      ((∃ ys, ys = bk bs m ∧ J ys W') ∨ (∃ pre, (∃ k, k ≤ m ∧ pre = bk bs k) ∧ Jx pre W')) := by
  have HY := Lib.hid hY
  have HA := Lib.hid hao
  have HM := Lib.hid hm
  have HB := Lib.hid hBp
  have HBS := Lib.hid hBs
  have i0 : IntKind.i64.wrap ((m : Int) - 1) = (m : Int) - 1 := IntWalk.i64_in _ (by omega)
  clear hY hao hm hBp
  refine callsIn_of_wp Tryz.func74 rfl h7 ?_ hro
  simp only [Tryz.ntmps74, List.size_toArray, List.length_cons, List.length_nil, Nat.reduceAdd, Nat.reduceSub, Array.replicate_succ, Array.replicate_zero, List.push_toArray, List.append_toArray, List.nil_append, List.cons_append]
  gi_wp2
  clear hBs
  gi_loopw [3] (fun i wr => ∃ (k : Nat) (iv : Int), k ≤ m ∧ i = .int .i64 iv ∧ Hid (iv = (m : Int) - 1 - (k : Int)) ∧ Hid (J (bk bs k) wr) ∧ Hid (KC p W wr))
    (fun i _ => (intOf i + 1).toNat)
  case atStart => exact ⟨0, _, Nat.zero_le _, rfl, Lib.hid (by simp), Lib.hid h0, Lib.hid (KC.refl _ _)⟩
  case round =>
    clear h0 i0
    obtain ⟨k, iv, hk, rfl, HI, HJ, HK⟩ := hrel
    have hcx : wr.cell? ⟨Bs, 0, none⟩ = some (.slice ao m cap) := HK.out _ _ HB.out HBS.out
    by_cases hlt : k < m
    · obtain ⟨b, off, rfl, hbp, hcs⟩ := HA.out (by omega)
      obtain ⟨q, hq⟩ : ∃ q, q = m - 1 - k := ⟨_, rfl⟩
      have hiv : iv = (q : Int) := by have := HI.out; omega
      subst hiv
      have hqm : q < m := by omega
      have hrow := HK.out ⟨b, off + q, none⟩ _ hbp (hcs q hqm)
      have HQ : Hid (bk bs (k + 1) = bk bs k ++ [(q, bs[q]?.getD false)]) := Lib.hid (by rw [bk_succ, ← HM.out, ← hq])
      generalize bs[q]?.getD false = bb at hrow HQ
      obtain ⟨fn, tmps, assign, body, hy, hR⟩ := HY.out _ (q, bb) wr HJ.out (by rw [bk_length]; exact hlt)
      dsimp only at hy
      obtain ⟨ui, hui⟩ : ∃ ui : Int, ((wz bb).toNat : Int) = ui := ⟨_, rfl⟩
      rw [hui] at hy hrow
      have i1 : (q : Int).toNat = q := by omega
      have i2 : (0 : Int) ≤ (q : Int) := by omega
      have i3 : (q : Int) < (m : Int) := by omega
      have i4 : IntKind.i64.wrap ((q : Int) - 1) = (q : Int) - 1 := IntWalk.i64_in _ (by omega)
      have HQK := Lib.hid hq
      clear hcs hui hq
      gi_wp2
      refine hR.mono ?_
      rintro e W3 (⟨rfl, hJ3, hk3⟩ | ⟨rfl, hJx3⟩)
      · have HJ3 : Hid (J (bk bs (k + 1)) W3) := Lib.hid (by rw [HQ.out]; exact hJ3)
        have HK3 : Hid (KC p W W3) := Lib.hid (HK.out.trans hk3)
        clear hJ3 hk3 hR
        gi_wp2
        go_roundw
        case rel => exact ⟨k + 1, _, by omega, rfl, Lib.hid (by have := HQK.out; omega), HJ3, HK3⟩
        case measure => first | (simp [intOf]; done) | (simp [intOf]; omega)
      · have HX3 : Hid (Jx (bk bs (k + 1)) W3) := Lib.hid (by rw [HQ.out]; exact hJx3)
        clear hJx3 hR
        gi_wp2
        refine bodyPost_ret (results_none rfl _ _ _) rfl ?_
        exact ⟨⟨_, rfl⟩, .inr ⟨_, ⟨k + 1, by omega, rfl⟩, HX3.out⟩⟩
    · obtain rfl : k = m := by omega
      have hiv : iv = -1 := by have := HI.out; omega
      subst hiv
      gi_wp2
      go_end0
      exact ⟨⟨_, rfl⟩, .inl ⟨_, rfl, HJ.out⟩⟩
theorem back_stops (F : Fence) (n : Nat) (h7 : F.fn 74) (hro : F.round = none) (hn : 1 ≤ n) (Bs p : Nat) (ao : Option Addr) (m cap : Nat) (bs : List Bool) (hm : m = bs.length) (hsz : m ≤ 1000000) (hBp : Bs ≠ p) (w : World) (hBs : w.cell? ⟨Bs, 0, none⟩ = some (.slice ao m cap))
    (hao : 0 < m → ∃ b off, ao = some ⟨b, off, none⟩ ∧ b ≠ p ∧ ∀ j, j < m → w.cell? ⟨b, off + j, none⟩ = some (.int .u8 ((wz (bs[j]?.getD false)).toNat : Int))) :
    SeqStopsK F n Tryz.prog 74 #[.pointer (some ⟨Bs, 0, none⟩)] (fun x : Nat × Bool => #[Value.int .i64 (x.1 : Int), Value.int .u8 ((wz x.2).toNat : Int)]) (KC p) (fun ys => ys = bk bs m) (fun pre => ∃ k, k ≤ m ∧ pre = bk bs k) m w := fun l J Jx W hW _ _ hY h0 =>
  back1_in F n h7 hro hn l Bs p m cap ao bs hm hsz hBp J Jx hY W (KC.of_below (p := Bs + 1) hW _ _ (by simp) hBs) (fun h => by
    obtain ⟨b, off, h1, h2, h3⟩ := hao h
    exact ⟨b, off, h1, h2, fun j hj => KC.of_below (p := b + 1) hW _ _ (by simp) (h3 j hj)⟩) h0
end Go.Proofs.YtgaknbnhmoddcaaGreatDoor
namespace Go.Proofs.YtgaknbnhmoddcaaGreatDoor
def wmk (b : Bool) : Tok := if b then mkT [93] else mkT [33]
def wop (b : Bool) : List Tok := if b then [mkT [91]] else []
theorem typB_bits : ∀ (ws : List UInt8) (last : UInt8), typB last ws = true → ∃ bs : List Bool, ws = bs.map wz
  | [], _, _ => ⟨[], rfl⟩
  | w :: r, last, h => by
    unfold typB at h
    simp only [Bool.and_eq_true, Bool.or_eq_true, beq_iff_eq] at h
    obtain ⟨⟨hw, _⟩, hr⟩ := h
    obtain ⟨bs, hb⟩ := typB_bits r w hr
    rcases hw with rfl | rfl
    · exact ⟨false :: bs, by rw [hb]; rfl⟩
    · exact ⟨true :: bs, by rw [hb]; rfl⟩
theorem typK_bits (nm : List UInt8) : ∀ bs : List Bool, typK nm (bs.map wz) = bs.flatMap wop ++ nmT nm :: bs.reverse.map wmk
  | [] => rfl
  | true :: r => by
    have e : typK nm ((true :: r).map wz) = mkT [91] :: (typK nm (r.map wz) ++ [mkT [93]]) := rfl
    rw [e, typK_bits nm r]
    simp [wop, wmk]
  | false :: r => by
    have e : typK nm ((false :: r).map wz) = typK nm (r.map wz) ++ [mkT [33]] := rfl
    rw [e, typK_bits nm r]
    simp [wop, wmk]
/-- What TypeTokens answers. -/
def ttB (nm ws : List UInt8) : Bool := nameB nm && (decide (ws.length ≤ 8) && typB 2 ws)
def ttE (nm ws : List UInt8) : Int := if ttB nm ws then 0 else 8
def ttL (nm ws : List UInt8) : List Tok := if ttB nm ws then typK nm ws else []
theorem typK_len (nm : List UInt8) (ws : List UInt8) : (typK nm ws).length ≤ 2 * ws.length + 1 := by
  induction ws with
  | nil => simp [typK]
  | cons w r ih =>
    unfold typK
    split
    · simp only [List.length_cons, List.length_append, List.length_nil]; omega
    · simp only [List.length_cons, List.length_append, List.length_nil]; omega
end Go.Proofs.YtgaknbnhmoddcaaGreatDoor
namespace Go.Proofs.YtgaknbnhmoddcaaGreatDoor
open Go.RowKit
def TxS (L : List Tok) : Prop := ∀ t ∈ L, t.text.length ≤ 100000
theorem TxS.nil : TxS [] := fun t h => by cases h
theorem TxS.cons {t : Tok} {L : List Tok} (h : t.text.length ≤ 100000) (hL : TxS L) : TxS (t :: L) := fun x hx => by
  rcases List.mem_cons.1 hx with rfl | hx
  · exact h
  · exact hL x hx
def CelS (V : List Cel) : Prop := ∀ c ∈ V, c.name.length ≤ 100000 ∧ c.text.length ≤ 100000 ∧ R c.num
theorem greatV_parts {V : List Cel} {m : Nat} (h : greatV V m = false) : V.length ≤ m ∧ ∀ c ∈ V, c.name.length ≤ 300 ∧ c.text.length ≤ 3000 := by
  have hl := great_len h
  refine ⟨hl, ?_⟩
  unfold greatV at h
  rw [Bool.or_eq_false_iff, List.take_of_length_le hl, List.any_eq_false] at h
  intro c hc
  have := h.1 c hc
  simp only [Bool.or_eq_true, decide_eq_true_eq, not_or, Nat.not_lt] at this
  exact this
theorem gaG_parts : ∀ (f n : Nat) (A : List (List UInt8 × List Cel)) (m : Nat), gaG f n A = some m → A.length ≤ f → ∀ x ∈ A, greatV x.2 60 = false ∧ x.1.length ≤ 300
  | _, _, [], _, _, _ => fun x h => by cases h
  | 0, _, x :: r, _, _, hl => by simp at hl
  | f + 1, n, x :: r, m, h, hl => by
    rw [gaG] at h
    split at h
    · cases h
    · rename_i hc
      simp only [Bool.or_eq_true, decide_eq_true_eq, not_or, Nat.not_lt, Bool.not_eq_true] at hc
      intro y hy
      rcases List.mem_cons.1 hy with rfl | hy
      · exact hc
      · exact gaG_parts f _ r m h (by simp at hl; omega) y hy
theorem greatAB_parts {A : List (List UInt8 × List Cel)} (h : greatAB A = false) : A.length ≤ 20 ∧ ∀ x ∈ A, greatV x.2 60 = false ∧ x.1.length ≤ 300 := by
  unfold greatAB at h
  cases hg : gaG 30 0 A with
  | none => rw [hg] at h; cases h
  | some n =>
    rw [hg] at h
    simp only [Bool.or_eq_false_iff, decide_eq_false_iff_not, Nat.not_lt] at h
    exact ⟨h.1, gaG_parts 30 0 A n hg (by omega)⟩
theorem gdG_parts : ∀ (f : Nat) (D : List (List UInt8 × List (List UInt8 × List Cel))), gdG f D = false → D.length ≤ f → ∀ x ∈ D, greatAB x.2 = false ∧ x.1.length ≤ 300
  | _, [], _, _ => fun x h => by cases h
  | 0, x :: r, _, hl => by simp at hl
  | f + 1, x :: r, h, hl => by
    rw [gdG] at h
    simp only [Bool.or_eq_false_iff, decide_eq_false_iff_not, Nat.not_lt] at h
    intro y hy
    rcases List.mem_cons.1 hy with rfl | hy
    · exact h.1
    · exact gdG_parts f r h.2 (by simp at hl; omega) y hy
theorem greatDB_parts {D : List (List UInt8 × List (List UInt8 × List Cel))} (h : greatDB D = false) : D.length ≤ 10 ∧ ∀ x ∈ D, greatAB x.2 = false ∧ x.1.length ≤ 300 := by
  unfold greatDB at h
  simp only [Bool.or_eq_false_iff, decide_eq_false_iff_not, Nat.not_lt] at h
  exact ⟨h.2, gdG_parts 30 D h.1 (by omega)⟩
theorem roomA_le : ∀ (A : List (List UInt8 × List Cel)), (∀ x ∈ A, x.2.length ≤ 60) → roomA A ≤ 246 * A.length
  | [], _ => by simp [roomA]
  | x :: r, h => by
    have h1 := h x (by simp)
    have h2 := roomA_le r fun y hy => h y (by simp [hy])
    rw [roomA, List.length_cons]
    omega
theorem roomD_le : ∀ (D : List (List UInt8 × List (List UInt8 × List Cel))), (∀ x ∈ D, greatAB x.2 = false) → roomD D ≤ 5000 * D.length
  | [], _ => by simp [roomD]
  | x :: r, h => by
    obtain ⟨h1, h3⟩ := greatAB_parts (h x (by simp))
    have h2 := roomD_le r fun y hy => h y (by simp [hy])
    have h4 := roomA_le x.2 fun y hy => great_len (h3 y hy).1
    rw [roomD, List.length_cons]
    omega
end Go.Proofs.YtgaknbnhmoddcaaGreatDoor
