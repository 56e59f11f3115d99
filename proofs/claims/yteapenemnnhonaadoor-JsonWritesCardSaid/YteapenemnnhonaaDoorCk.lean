/- What a kind's cells may have: the walks through cell's none, zero, kinds and what stands in them. -/
import Derived.Test.YteapenemnnhonaaDoorCn
import Derived.Test.YteapenemnnhonaaDoorNm
import Derived.Test.YteapenemnnhonaaDoorTc
import Derived.Laws.EntriesVeiled
import Derived.Laws.Tables
import Derived.Laws.CopyOwn
set_option linter.unusedSimpArgs false
set_option linter.unusedVariables false
namespace Go.Proofs.YteapenemnnhonaaDoor
open Go.RowKit
def ctext (k : Nat) (x : List UInt8) : Bool := if k = 3 then textB x else if k = 4 then nameB x else if k = 5 then nameB x else x.isEmpty
def cnum (k : Nat) (n : Int) : Bool := if k = 1 then (n == 0 || n == 1) else if k = 2 then true else n == 0
def cnest (k : Nat) : Bool := k == 6 || k == 7
theorem nest_kind (c : Cel) : nestC c = cnest c.kind.toNat := by
  unfold nestC cnest
  have h6 : (c.kind == 6) = (c.kind.toNat == 6) := by
    rw [Bool.eq_iff_iff, beq_iff_eq, beq_iff_eq]
    exact ⟨fun h => by rw [h]; rfl, fun h => UInt8.toNat_inj.1 h⟩
  have h7 : (c.kind == 7) = (c.kind.toNat == 7) := by
    rw [Bool.eq_iff_iff, beq_iff_eq, beq_iff_eq]
    exact ⟨fun h => by rw [h]; rfl, fun h => UInt8.toNat_inj.1 h⟩
  rw [h6, h7]
theorem one_kind (c : Cel) : oneC c = (decide (c.kind.toNat ≤ 7) && (ctext c.kind.toNat c.text && cnum c.kind.toNat c.num && (if cnest c.kind.toNat then decide (0 ≤ c.many) else c.many == 0))) := by
  have key : ∀ k : Nat, (c.kind.toNat = k) ↔ c.kind = UInt8.ofNat k ∧ k < 256 := by
    intro k
    constructor
    · intro h
      have hlt := UInt8.toNat_lt c.kind
      refine ⟨UInt8.toNat_inj.1 ?_, by omega⟩
      rw [UInt8.toNat_ofNat', h]
      omega
    · rintro ⟨h, h2⟩
      rw [h, UInt8.toNat_ofNat']
      omega
  have big : 7 < c.kind.toNat → oneC c = false := by
    intro h
    unfold oneC
    have ne : ∀ k : UInt8, k.toNat ≤ 7 → c.kind ≠ k := fun k hk e => by rw [e] at h; omega
    rw [if_neg (ne 0 (by decide)), if_neg (ne 1 (by decide)), if_neg (ne 2 (by decide)), if_neg (ne 3 (by decide)), if_neg (by rintro (e | e); exact ne 4 (by decide) e; exact ne 5 (by decide) e), if_neg (by rintro (e | e); exact ne 6 (by decide) e; exact ne 7 (by decide) e)]
  by_cases hb : c.kind.toNat ≤ 7
  · rw [decide_eq_true hb, Bool.true_and]
    have h8 : c.kind.toNat = 0 ∨ c.kind.toNat = 1 ∨ c.kind.toNat = 2 ∨ c.kind.toNat = 3 ∨ c.kind.toNat = 4 ∨ c.kind.toNat = 5 ∨ c.kind.toNat = 6 ∨ c.kind.toNat = 7 := by omega
    unfold oneC ctext cnum cnest
    rcases h8 with h | h | h | h | h | h | h | h <;> (have hk := ((key _).1 h).1; rw [h, hk]; simp; try (cases c.text <;> cases (c.many == 0) <;> simp))
  · rw [decide_eq_false hb, Bool.false_and]
    exact big (by omega)
def tfun (k : Nat) : Nat := if k = 3 then 49 else if k = 4 then 50 else if k = 5 then 50 else 45
def nfun (k : Nat) : Nat := if k = 1 then 47 else if k = 2 then 48 else 46
def kindsA : Array Value := #[.func (.func 45) #[] #[], .func (.func 46) #[] #[], .bool false, .func (.func 45) #[] #[], .func (.func 47) #[] #[], .bool false, .func (.func 45) #[] #[], .func (.func 48) #[] #[], .bool false, .func (.func 49) #[] #[], .func (.func 46) #[] #[], .bool false, .func (.func 50) #[] #[], .func (.func 46) #[] #[], .bool false, .func (.func 50) #[] #[], .func (.func 46) #[] #[], .bool false, .func (.func 45) #[] #[], .func (.func 46) #[] #[], .bool true, .func (.func 45) #[] #[], .func (.func 46) #[] #[], .bool true]
theorem kindsA_get (k : Nat) (h : k ≤ 7) : kindsA[k * 3]? = some (.func (.func (tfun k)) #[] #[]) ∧ kindsA[k * 3 + 1]? = some (.func (.func (nfun k)) #[] #[]) ∧ kindsA[k * 3 + 2]? = some (.bool (cnest k)) := by
  have h8 : k = 0 ∨ k = 1 ∨ k = 2 ∨ k = 3 ∨ k = 4 ∨ k = 5 ∨ k = 6 ∨ k = 7 := by omega
  rcases h8 with rfl | rfl | rfl | rfl | rfl | rfl | rfl | rfl <;> exact ⟨rfl, rfl, rfl⟩
theorem ent_none : ∀ args w, (callFunc 45 args).run Tryd.prog w = .ok (.enter 45 args) w := enters_of Tryd.func45 (by kernel_rfl) rfl
theorem ent_zero : ∀ args w, (callFunc 46 args).run Tryd.prog w = .ok (.enter 46 args) w := enters_of Tryd.func46 (by kernel_rfl) rfl
theorem ent_name : ∀ args w, (callFunc 50 args).run Tryd.prog w = .ok (.enter 50 args) w := enters_of Tryd.func50 (by kernel_rfl) rfl
theorem ent_k1 : ∀ args w, (callFunc 47 args).run Tryd.prog w = .ok (.enter 47 args) w := enters_of Tryd.func47 (by kernel_rfl) rfl
theorem ent_k2 : ∀ args w, (callFunc 48 args).run Tryd.prog w = .ok (.enter 48 args) w := enters_of Tryd.func48 (by kernel_rfl) rfl
theorem ent_k3 : ∀ args w, (callFunc 49 args).run Tryd.prog w = .ok (.enter 49 args) w := enters_of Tryd.func49 (by kernel_rfl) rfl
theorem tfun_ent (k : Nat) : ∀ args w, (callFunc (tfun k) args).run Tryd.prog w = .ok (.enter (tfun k) args) w := by
  unfold tfun
  split
  · exact ent_k3
  · split
    · exact ent_name
    · split
      · exact ent_name
      · exact ent_none
theorem nfun_ent (k : Nat) : ∀ args w, (callFunc (nfun k) args).run Tryd.prog w = .ok (.enter (nfun k) args) w := by
  unfold nfun
  split
  · exact ent_k1
  · split
    · exact ent_k2
    · exact ent_zero
theorem none_any (s : ByteArray) (w : World) : Calls Tryd.prog 45 #[.string s] w fun e w' => e = .returned (.bool s.data.toList.isEmpty) ∧ Below w.heap.size w w' := by
  rcases empty_z s with ⟨h0, h1, h2, h3⟩ | ⟨h0, h1, h2, h3⟩
  · have : s.data.toList.isEmpty = false := by rw [← ByteArray.toList_eq]; exact h2
    rw [this]
    go_enter Tryd.func45, Tryd.ntmps45
    go_wp2_with fail
    go_ret
    exact ⟨rfl, Below.refl _ _⟩
  · have : s.data.toList.isEmpty = true := by rw [← ByteArray.toList_eq]; exact h2
    rw [this]
    go_enter Tryd.func45, Tryd.ntmps45
    go_wp2_with fail
    go_ret
    exact ⟨rfl, Below.refl _ _⟩
theorem zero_any (n : Int) (w : World) : Calls Tryd.prog 46 #[.int .i64 n] w fun e w' => e = .returned (.bool (n == 0)) ∧ Below w.heap.size w w' := by
  go_enter Tryd.func46, Tryd.ntmps46
  go_wp2_with fail
  go_ret
  exact ⟨rfl, Below.refl _ _⟩
theorem k1_any (n : Int) (w : World) : Calls Tryd.prog 47 #[.int .i64 n] w fun e w' => e = .returned (.bool (n == 0 || n == 1)) ∧ Below w.heap.size w w' := by
  by_cases h : n = 0
  · have h0 : (n == 0) = true := beq_iff_eq.2 h
    have hr : Hid ((n == 0 || n == 1) = true) := Lib.hid (by rw [h0]; rfl)
    clear h
    go_enter Tryd.func47, Tryd.ntmps47
    go_wp2_with fail
    go_ret
    exact ⟨ret_b hr.out.symm, Below.refl _ _⟩
  · have h0 : (n == 0) = false := beq_eq_false_iff_ne.2 h
    have hr : Hid ((n == 0 || n == 1) = (n == 1)) := Lib.hid (by rw [h0]; rfl)
    clear h
    go_enter Tryd.func47, Tryd.ntmps47
    go_wp2_with fail
    go_ret
    exact ⟨ret_b hr.out.symm, Below.refl _ _⟩
theorem k2_any (n : Int) (w : World) : Calls Tryd.prog 48 #[.int .i64 n] w fun e w' => e = .returned (.bool true) ∧ Below w.heap.size w w' := by
  go_enter Tryd.func48, Tryd.ntmps48
  go_wp2_with fail
  go_ret
  exact ⟨rfl, Below.refl _ _⟩
theorem chkE_text (l : List UInt8) : textB l = (chkE l == 0) := by
  unfold textB chkE
  by_cases q : 16384 < l.length
  · rw [if_pos q, decide_eq_false (by omega)]; rfl
  · rw [if_neg q, decide_eq_true (by omega), Bool.true_and]
    cases Lib.validD l <;> rfl
theorem chkE_cases (l : List UInt8) : chkE l = 0 ∨ chkE l = 4 ∨ chkE l = 10 := by
  unfold chkE
  by_cases q : 16384 < l.length
  · rw [if_pos q]; right; left; rfl
  · rw [if_neg q]
    cases Lib.validD l
    · right; right; rfl
    · left; rfl
theorem k3_any (s : ByteArray) (hs : s.size ≤ 1000000) (w : World) (hE : EnvU w) : Calls Tryd.prog 49 #[.string s] w fun e w' => e = .returned (.bool (textB s.data.toList)) ∧ Below w.heap.size w w' := by
  have H := Lib.hid (tcheck_any s hs w hE)
  rw [chkE_text]
  have hc := chkE_cases s.data.toList
  clear hE
  generalize chkE s.data.toList = c at *
  rcases hc with rfl | rfl | rfl
  all_goals
    go_enter Tryd.func49, Tryd.ntmps49
    go_wp2_with fail
    refine H.out.mono ?_; rintro e w1 ⟨rfl, hb⟩
    go_wp2_with fail
    go_ret
    exact ⟨rfl, hb⟩
theorem tfun_any (k : Nat) (s : ByteArray) (hs : s.size ≤ 1000000) (w : World) (hE : EnvU w) : Calls Tryd.prog (tfun k) #[.string s] w fun e w' => e = .returned (.bool (ctext k s.data.toList)) ∧ Below w.heap.size w w' := by
  unfold tfun ctext
  by_cases h3 : k = 3
  · rw [if_pos h3, if_pos h3]; exact k3_any s hs w hE
  rw [if_neg h3, if_neg h3]
  by_cases h4 : k = 4
  · rw [if_pos h4, if_pos h4]; exact cname_any s hs w
  rw [if_neg h4, if_neg h4]
  by_cases h5 : k = 5
  · rw [if_pos h5, if_pos h5]; exact cname_any s hs w
  rw [if_neg h5, if_neg h5]; exact none_any s w
theorem nfun_any (k : Nat) (n : Int) (w : World) : Calls Tryd.prog (nfun k) #[.int .i64 n] w fun e w' => e = .returned (.bool (cnum k n)) ∧ Below w.heap.size w w' := by
  unfold nfun cnum
  by_cases h1 : k = 1
  · rw [if_pos h1, if_pos h1]; exact k1_any n w
  rw [if_neg h1, if_neg h1]
  by_cases h2 : k = 2
  · rw [if_pos h2, if_pos h2]; exact k2_any n w
  rw [if_neg h2, if_neg h2]; exact zero_any n w
theorem kindsA_one : kindsA.all (·.oneCell') = true := by kernel_rfl
set_option maxRecDepth 100000 in
theorem kinds_any (w : World) : Calls Tryd.prog 34 #[] w fun e w' => e = .returned (.agg kindsA) ∧ Below w.heap.size w w' := by
  have hn : Hid (∀ O, (w.alloc O).heap[w.heap.size]? = some O) := Lib.hid (heap_alloc_new w)
  go_enter Tryd.func34, Tryd.ntmps34
  go_wp2_with (refine wpList_store_row rfl 67 _ _ rfl w.heap.size kindsA rfl rfl 67 #[.nilFunc, .nilFunc, .bool false, .nilFunc, .nilFunc, .bool false, .nilFunc, .nilFunc, .bool false, .nilFunc, .nilFunc, .bool false, .nilFunc, .nilFunc, .bool false, .nilFunc, .nilFunc, .bool false, .nilFunc, .nilFunc, .bool false, .nilFunc, .nilFunc, .bool false] (hn.out _) (by kernel_rfl) rfl kindsA_one ?_)
  refine bodyPost_ret (v := .agg kindsA) (results_cell_row rfl _ _ w.heap.size 67 kindsA (0, 0) _ rfl (setRow_heap _ _ _ kindsA _ _ (hn.out _)) Tryd.underlying67 rfl (by kernel_rfl)) rfl ⟨rfl, ?_⟩
  exact below_setRow ((Below.refl _ _).alloc (Nat.le_refl _) _) (Nat.le_refl _) _
end Go.Proofs.YteapenemnnhonaaDoor
