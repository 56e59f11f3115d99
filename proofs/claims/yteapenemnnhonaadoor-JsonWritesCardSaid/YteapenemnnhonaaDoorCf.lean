/- The walks through the program's Check, Plain (cell), and slices.ContainsFunc at cells. -/
import Derived.Test.YteapenemnnhonaaDoorCe
import Derived.Lib.SliceRun
set_option linter.unusedSimpArgs false
set_option linter.unusedVariables false
namespace Go.Proofs.YteapenemnnhonaaDoor
open Go.RowKit
set_option maxRecDepth 100000 in
theorem ccheck_any (V : List Cel) (v : Value) (w : World) (hv : CelSl v V w) (hs : SmallV V) (hE : EnvU w) :
    Calls Tryd.prog 18 #[v] w fun e w' => e = .returned (.int .i64 (if mayB V then 0 else 8)) ∧ Below w.heap.size w w' := by
  have H := Lib.hid (behind_any V v w hv hs hE)
  have q := fun (w : World) (a : Option Addr) (n c : Nat) => Lib.run_eql_slice_nil w 56 3 a n c 0 0 Tryd.underlying56
  obtain ⟨r, hr⟩ : ∃ r : Int, (if mayB V then (0 : Int) else 8) = r := ⟨_, rfl⟩
  have HR := Lib.hid hr
  rw [hr]
  clear hv hE hs hr
  go_enter Tryd.func18, Tryd.ntmps18
  go_wp2_with fail
  refine H.out.mono ?_; rintro e w1 ⟨h, hb⟩
  rcases h with ⟨hm, rfl⟩ | ⟨hm, g, es, rfl, _⟩
  all_goals
    have HM := Lib.hid hm
    clear hm
    go_wp2_with fail
    go_ret
    exact ⟨ret_i (by rw [← HR.out, HM.out]; rfl), hb⟩
/-- The first place of one that a predicate holds of; -1. -/
def idxI (p : Cel → Bool) : List Cel → Nat → Int
  | [], _ => -1
  | c :: r, i => if p c then (i : Int) else idxI p r (i + 1)
theorem idxI_sign (p : Cel → Bool) : ∀ (V : List Cel) (i : Nat), decide (0 ≤ idxI p V i) = V.any p
  | [], i => rfl
  | c :: r, i => by
    rw [idxI, List.any_cons]
    cases p c with
    | true => simp
    | false => simpa using idxI_sign p r (i + 1)
set_option maxRecDepth 100000 in
theorem cindex_row (g : Nat) (lb : Array Value) (eg : ∀ args w, (callFunc g args).run Tryd.prog w = .ok (.enter g args) w) (p : Cel → Bool) (V : List Cel) (b off cap : Nat) (w : World) (hrow : CelRow b off V w) (hl : V.length ≤ 100000)
    (H : Hid (∀ (W : World) (k : Nat) (hk : k < V.length), Below w.heap.size w W → Calls Tryd.prog g (#[.agg (celCells V[k])] ++ lb) W fun e w' => e = .returned (.bool (p V[k])) ∧ Below W.heap.size W w')) :
    Calls Tryd.prog 29 #[.slice (some ⟨b, off, none⟩) V.length cap, .func (.func g) #[] lb] w fun e w' => e = .returned (.int .i64 (idxI p V 0)) ∧ Below w.heap.size w w' := by
  have HROW := Lib.hid hrow
  obtain ⟨r, hr⟩ : ∃ r, idxI p V 0 = r := ⟨_, rfl⟩
  have HR : Hid (idxI p (V.drop 0) 0 = r) := Lib.hid hr
  rw [hr]
  clear hr hrow
  go_enter Tryd.func29, Tryd.ntmps29
  go_wp2_with fail
  go_loopw [8] (fun i wr => ∃ k : Nat, k ≤ V.length ∧ i = .int .i64 k ∧ Hid (idxI p (V.drop k) k = r) ∧ Hid (Below w.heap.size w wr)) (fun i wr => V.length - (intOf i).toNat)
  case atStart => exact ⟨0, Nat.zero_le _, rfl, HR, Lib.hid (Below.refl _ _)⟩
  case round =>
    rename World => wr
    obtain ⟨k, hk, rfl, HS, HB⟩ := hrel
    by_cases hlt : k < V.length
    · obtain ⟨a0, a1, a2, a3, a4⟩ := (HROW.out.below' HB.out) k hlt
      have HC := Lib.hid (H.out wr k hlt HB.out)
      have hstep := HS.out
      rw [List.drop_eq_getElem_cons hlt, idxI] at hstep
      have hz := HB.out.size
      unfold celCells at HC
      generalize p V[k] = pk at *
      generalize (V[k].kind.toNat : Int) = ka at *
      generalize V[k].num = nu at *
      generalize V[k].many = ma at *
      generalize (⟨V[k].name.toArray⟩ : ByteArray) = x at *
      generalize (⟨V[k].text.toArray⟩ : ByteArray) = y at *
      cases pk with
      | true =>
        rw [if_pos rfl] at hstep
        have HF := Lib.hid hstep
        clear hstep HS
        go_wp2_with fail
        refine HC.out.mono ?_; rintro e w1 ⟨rfl, hb⟩
        have HB1 := Lib.hid (HB.out.trans (hb.mono hz))
        clear hb
        go_wp2_with fail
        go_ret
        exact ⟨ret_i HF.out, HB1.out⟩
      | false =>
        rw [if_neg Bool.false_ne_true] at hstep
        have HF := Lib.hid hstep
        clear hstep HS
        go_wp2_with fail
        refine HC.out.mono ?_; rintro e w1 ⟨rfl, hb⟩
        have HB1 := Lib.hid (HB.out.trans (hb.mono hz))
        clear hb
        go_wp2_with fail
        go_roundw
        case rel => exact ⟨k + 1, by omega, by go_num, HF, HB1⟩
        case measure => simp [intOf]; omega
    · have HF : Hid (-1 = r) := Lib.hid (by rw [← HS.out, List.drop_of_length_le (by omega)]; rfl)
      clear HS
      go_wp2_with fail
      go_ret
      exact ⟨ret_i HF.out, HB.out⟩
set_option maxRecDepth 100000 in
theorem cindex_none (g : Nat) (lb : Array Value) (p : Cel → Bool) (a : Option Addr) (cap : Nat) (w : World) :
    Calls Tryd.prog 29 #[.slice a 0 cap, .func (.func g) #[] lb] w fun e w' => e = .returned (.int .i64 (idxI p [] 0)) ∧ Below w.heap.size w w' := by
  go_enter Tryd.func29, Tryd.ntmps29
  go_wp2_with fail
  refine wp_loop_rounds 1 ?_; rw [rounds_succ]
  go_wp2_with fail
  go_ret
  exact ⟨rfl, Below.refl _ _⟩
set_option maxRecDepth 100000 in
theorem ccontains_any (g : Nat) (lb : Array Value) (eg : ∀ args w, (callFunc g args).run Tryd.prog w = .ok (.enter g args) w) (p : Cel → Bool) (V : List Cel) (v : Value) (w : World) (hv : CelSl v V w) (hl : V.length ≤ 100000)
    (H : Hid (∀ (W : World) (k : Nat) (hk : k < V.length), Below w.heap.size w W → Calls Tryd.prog g (#[.agg (celCells V[k])] ++ lb) W fun e w' => e = .returned (.bool (p V[k])) ∧ Below W.heap.size W w')) :
    Calls Tryd.prog 19 #[v, .func (.func g) #[] lb] w fun e w' => e = .returned (.bool (V.any p)) ∧ Below w.heap.size w w' := by
  have HI : Hid (Calls Tryd.prog 29 #[v, .func (.func g) #[] lb] w fun e w' => e = .returned (.int .i64 (idxI p V 0)) ∧ Below w.heap.size w w') := Lib.hid (by
    rcases hv with ⟨a, c, rfl, rfl, _⟩ | ⟨b, off, cap, rfl, hrow, hpos⟩
    · exact cindex_none g lb p a c w
    · exact cindex_row g lb eg p V b off cap w hrow hl H)
  have hsg := idxI_sign p V 0
  generalize idxI p V 0 = i at *
  rw [← hsg]
  clear H hv hsg eg
  go_enter Tryd.func19, Tryd.ntmps19
  go_wp2_with fail
  refine HI.out.mono ?_; rintro e w1 ⟨rfl, hb⟩
  go_wp2_with fail
  go_ret
  exact ⟨rfl, hb⟩
def evC (c : Cel) : Bool := c.kind == 4 || c.kind == 5
theorem kind_eq (c : Cel) (k : UInt8) : (c.kind == k) = ((c.kind.toNat : Int) == (k.toNat : Int)) := by
  rw [Bool.eq_iff_iff, beq_iff_eq, beq_iff_eq]
  exact ⟨fun h => by rw [h], fun h => UInt8.toNat_inj.1 (by omega)⟩
set_option maxRecDepth 100000 in
theorem pclo_any (c : Cel) (w : World) :
    Calls Tryd.prog 20 #[.agg (celCells c)] w fun e w' => e = .returned (.bool (evC c)) ∧ Below w.heap.size w w' := by
  have hr : evC c = ((c.kind.toNat : Int) == 4 || (c.kind.toNat : Int) == 5) := by unfold evC; rw [kind_eq, kind_eq]; rfl
  rw [hr]
  unfold celCells
  clear hr
  generalize (c.kind.toNat : Int) = k at *
  generalize (⟨c.name.toArray⟩ : ByteArray) = x at *
  generalize (⟨c.text.toArray⟩ : ByteArray) = y at *
  generalize c.num = nu at *
  generalize c.many = ma at *
  cases h4 : (k == 4) with
  | true =>
    go_enter Tryd.func20, Tryd.ntmps20
    go_wp2_with fail
    go_ret
    exact ⟨rfl, (Below.refl _ _).alloc (Nat.le_refl _) _⟩
  | false =>
    go_enter Tryd.func20, Tryd.ntmps20
    go_wp2_with fail
    go_ret
    exact ⟨ret_b (by simp), (Below.refl _ _).alloc (Nat.le_refl _) _⟩
theorem pclo_ent : ∀ args w, (callFunc 20 args).run Tryd.prog w = .ok (.enter 20 args) w := enters_of Tryd.func20 (by kernel_rfl) rfl
theorem plain_any' (V : List Cel) : V.all (fun c => !(c.kind == 4 || c.kind == 5)) = !V.any evC := by
  induction V with
  | nil => rfl
  | cons c r ih =>
    rw [List.all_cons, List.any_cons, ih]
    unfold evC
    cases (c.kind == 4) <;> cases (c.kind == 5) <;> simp
set_option maxRecDepth 100000 in
theorem cplain_any (V : List Cel) (v : Value) (w : World) (hv : CelSl v V w) (hs : SmallV V) (hE : EnvU w) :
    Calls Tryd.prog 9 #[v] w fun e w' => e = .returned (.bool (plainB V)) ∧ Below w.heap.size w w' := by
  have H := Lib.hid (ccheck_any V v w hv hs hE)
  have HC : Hid (∀ W : World, Below w.heap.size w W → Calls Tryd.prog 19 #[v, .func (.func 20) #[] #[]] W fun e w' => e = .returned (.bool (V.any evC)) ∧ Below W.heap.size W w') := Lib.hid fun W hW =>
    ccontains_any _ #[] pclo_ent evC V v W (hv.below hW) hs.1 (Lib.hid fun W' k hk _ => by simpa using pclo_any V[k] W')
  unfold plainB
  rw [plain_any']
  clear hv hs hE
  generalize V.any evC = ev at *
  cases hm : mayB V with
  | false =>
    rw [hm] at H
    clear hm
    go_enter Tryd.func9, Tryd.ntmps9
    go_wp2_with fail
    refine H.out.mono ?_; rintro e w1 ⟨rfl, hb⟩
    go_wp2_with fail
    go_ret
    exact ⟨rfl, hb⟩
  | true =>
    rw [hm] at H
    clear hm
    go_enter Tryd.func9, Tryd.ntmps9
    go_wp2_with fail
    refine H.out.mono ?_; rintro e w1 ⟨rfl, hb⟩
    have HB := Lib.hid hb
    have hz := hb.size
    clear hb
    go_wp2_with fail
    refine (HC.out _ HB.out).mono ?_; rintro e w2 ⟨rfl, hb⟩
    have HB2 := Lib.hid (HB.out.trans (hb.mono hz))
    clear hb
    go_wp2_with fail
    go_ret
    exact ⟨ret_b (by cases ev <;> rfl), HB2.out⟩
end Go.Proofs.YteapenemnnhonaaDoor
