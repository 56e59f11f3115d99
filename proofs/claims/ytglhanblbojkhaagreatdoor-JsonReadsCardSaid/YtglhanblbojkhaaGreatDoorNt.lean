/- The walks through the reference's JSON reader (provostref04): escape. -/
import Derived.Test.YtglhanblbojkhaaGreatDoorNs
import Derived.Test.YtglhanblbojkhaaGreatDoorJs
set_option linter.unusedSimpArgs false
set_option linter.unusedVariables false
namespace Go.Proofs.YtglhanblbojkhaaGreatDoor
open Go.RowKit
def escB (k : Nat) : UInt8 := ([34, 92, 47, 98, 102, 110, 114, 116] : List UInt8).getD k 0
def escP (k : Nat) : Nat := ([34, 92, 47, 8, 12, 10, 13, 9] : List Nat).getD k 0
theorem escB_at (k : Nat) (h : k < (⟨#[34, 92, 47, 98, 102, 110, 114, 116]⟩ : ByteArray).size) : (⟨#[34, 92, 47, 98, 102, 110, 114, 116]⟩ : ByteArray)[k]'h = escB k := by
  have hk : k < 8 := h
  exact (by decide +kernel : ∀ i : Fin 8, (⟨#[34, 92, 47, 98, 102, 110, 114, 116]⟩ : ByteArray)[i.val]'(i.isLt) = escB i.val) ⟨k, hk⟩
theorem letJ_at (k : Nat) (h : k < 8) : letJ (escB k) = some (escP k) := (by decide +kernel : ∀ i : Fin 8, letJ (escB i.val) = some (escP i.val)) ⟨k, h⟩
theorem escP_at (k : Nat) (h : k < 8) : (#[.int .i64 34, .int .i64 92, .int .i64 47, .int .i64 8, .int .i64 12, .int .i64 10, .int .i64 13, .int .i64 9] : Array Value)[k]? = some (.int .i64 (escP k : Int)) := by
  match k, h with
  | 0, _ => rfl
  | 1, _ => rfl
  | 2, _ => rfl
  | 3, _ => rfl
  | 4, _ => rfl
  | 5, _ => rfl
  | 6, _ => rfl
  | 7, _ => rfl
theorem letJ_none (c : UInt8) (h : ∀ k, k < 8 → c ≠ escB k) : letJ c = none := by
  have e0 : ¬ c = 34 := h 0 (by decide)
  have e1 : ¬ c = 92 := h 1 (by decide)
  have e2 : ¬ c = 47 := h 2 (by decide)
  have e3 : ¬ c = 98 := h 3 (by decide)
  have e4 : ¬ c = 102 := h 4 (by decide)
  have e5 : ¬ c = 110 := h 5 (by decide)
  have e6 : ¬ c = 114 := h 6 (by decide)
  have e7 : ¬ c = 116 := h 7 (by decide)
  unfold letJ
  rw [if_neg e0, if_neg e1, if_neg e2, if_neg e3, if_neg e4, if_neg e5, if_neg e6, if_neg e7]
theorem letJ_first (c : UInt8) : (∃ q, q < 8 ∧ c = escB q ∧ ∀ j, j < q → c ≠ escB j) ∨ ∀ k, k < 8 → c ≠ escB k := by
  have := (by decide +kernel : ∀ i : Fin 256, (∃ q : Fin 8, UInt8.ofNat i.val = escB q.val ∧ ∀ j : Fin 8, j.val < q.val → UInt8.ofNat i.val ≠ escB j.val) ∨ ∀ k : Fin 8, UInt8.ofNat i.val ≠ escB k.val) ⟨c.toNat, UInt8.toNat_lt c⟩
  simp only [UInt8.ofNat_toNat] at this
  rcases this with ⟨q, h1, h2⟩ | h
  · exact Or.inl ⟨q.val, q.isLt, h1, fun j hj => h2 ⟨j, by omega⟩ hj⟩
  · exact Or.inr fun k hk => h ⟨k, hk⟩
theorem cell_rk {b c i k : Nat} {W : World} {C : Array Value} {T : TypeId} {x : Value} (hP : W.heap[b]? = some (.cells C T (0, 0))) (hi : C[i]? = some x) (hne : b ≠ c) : ∀ u, (W.setCell ⟨c, k, none⟩ u).cell? ⟨b, i, none⟩ = some x := fun u => by
  rw [World.cell?_setCell_other _ _ _ _ (by intro e; injection e with e1 e2; exact hne e1.symm), Lib.cell_of_heap hP]
  exact hi
/-- Behind the u of an escape. -/
def uJ (r : List UInt8) : Option (Nat × List UInt8) := match hexsJ 4 0 r with
  | none => none
  | some (n, t) => if 56320 ≤ n ∧ n ≤ 57343 then none else if 55296 ≤ n ∧ n ≤ 56319 then lowJ n t else some (n, t)
theorem escJ_u (l : List UInt8) (h : ∀ k, k < 8 → l.headD 0 ≠ escB k) : escJ l = (match tkJ [117] l with | none => none | some r => uJ r) := by
  cases l with
  | nil => rfl
  | cons c r =>
    rw [List.headD_cons] at h
    rw [escJ, letJ_none c h]
    simp only
    by_cases hc : c = 117
    · rw [hc, if_neg (by simp)]
      unfold tkJ uJ
      rw [if_pos (by simp [List.isPrefixOf])]
      simp only [List.length_cons, List.length_nil, Nat.zero_add, List.drop_succ_cons, List.drop_zero]
      cases hexsJ 4 0 r with
      | none => rfl
      | some x => rfl
    · rw [if_pos hc]
      unfold tkJ
      rw [if_neg (by simp [List.isPrefixOf]; exact fun h => hc h.symm)]
/-- Where an escape ends. -/
def EscE (r : Nat) (s : ByteArray) (v : Value) (o : Option (Nat × List UInt8)) (x : Ending) (W : World) : Prop := match o with
  | none => ∃ (n a : Nat), x = .returned (.int .i64 (n : Int)) ∧ a ≤ s.size ∧ RdR r s a v 40 W
  | some (n, t) => x = .returned (.int .i64 (n : Int)) ∧ ∃ a, a ≤ s.size ∧ s.data.toList.drop a = t ∧ RdR r s a v 0 W
set_option maxRecDepth 100000 in
set_option maxHeartbeats 2000000 in
theorem rescape_let (r : Nat) (s : ByteArray) (at_ : Nat) (v : Value) (ha1 : at_ < s.size) (hs : s.size ≤ 1000000) (w : World) (h : RdR r s at_ v 0 w) (q : Nat) (hq : q < 8) (hc : s[at_] = escB q) (hfirst : ∀ j, j < q → s[at_] ≠ escB j) :
    Calls Tryz.prog 73 #[.pointer (some ⟨r, 0, none⟩)] w fun x w' => EscE r s v (escJ (s.data.toList.drop at_)) x w' ∧ RK r w w' := by
  have HH := Lib.hid h
  have hlt := h.lt
  have ha := Nat.le_of_lt ha1
  have hE : escJ (s.data.toList.drop at_) = some (escP q, s.data.toList.drop (at_ + 1)) := by
    rw [drop_at s at_ ha1, escJ, hc, letJ_at q hq]
  rw [hE]
  have HLK : Hid (∀ W, RdR r s at_ v 0 W → Calls Tryz.prog 48 #[.pointer (some ⟨r, 0, none⟩)] W fun x w' => x = .returned (.int .u8 ((lookJ 0 (s.data.toList.drop at_)).toNat : Int)) ∧ Below W.heap.size W w') := Lib.hid fun W h2 => rlook_any r s at_ v 0 ha hs W h2
  rw [look_at s at_ ha1] at HLK
  have hne : w.heap.size ≠ r := by omega
  obtain ⟨pq, hpq⟩ : ∃ pq, escP q = pq := ⟨_, rfl⟩
  have HPQ : Hid ((#[.int .i64 34, .int .i64 92, .int .i64 47, .int .i64 8, .int .i64 12, .int .i64 10, .int .i64 13, .int .i64 9] : Array Value)[q]? = some (.int .i64 (pq : Int))) := Lib.hid (by rw [← hpq]; exact escP_at q hq)
  rw [hpq]
  have HFI := Lib.hid hfirst
  have HCC := Lib.hid hc
  obtain ⟨c, hcc⟩ : ∃ c, s[at_] = c := ⟨_, rfl⟩
  rw [hcc] at HLK HCC
  have HFI : Hid (∀ j, j < q → c ≠ escB j) := Lib.hid (by rw [← hcc]; exact hfirst)
  have HRA : Hid (RdR r s at_ v 0 (w.alloc (.cells (#[.int .i64 34, .int .i64 92, .int .i64 47, .int .i64 8, .int .i64 12, .int .i64 10, .int .i64 13, .int .i64 9] : Array Value) 3))) := Lib.hid (HH.out.below ((Below.refl w.heap.size w).alloc (Nat.le_refl _) _))
  have HKA : Hid (RK r w (w.alloc (.cells (#[.int .i64 34, .int .i64 92, .int .i64 47, .int .i64 8, .int .i64 12, .int .i64 10, .int .i64 13, .int .i64 9] : Array Value) 3))) := Lib.hid (RK.of_below ((Below.refl w.heap.size w).alloc (Nat.le_refl _) _) hlt)
  have HPA : Hid ((w.alloc (.cells (#[.int .i64 34, .int .i64 92, .int .i64 47, .int .i64 8, .int .i64 12, .int .i64 10, .int .i64 13, .int .i64 9] : Array Value) 3)).heap[w.heap.size]? = some (.cells (#[.int .i64 34, .int .i64 92, .int .i64 47, .int .i64 8, .int .i64 12, .int .i64 10, .int .i64 13, .int .i64 9] : Array Value) 3 (0, 0))) := Lib.hid (heap_alloc_new w _)
  clear h hE hfirst hc hpq hcc
  go_enter Tryz.func73, Tryz.ntmps73
  go_wp2_with fail
  go_loopg [5] 8 (fun gk iv wr => ∃ j : Nat, iv = .int .i64 (j : Int) ∧ (gk + j ≤ 8 ∧ 8 ≤ gk + j) ∧ j ≤ q ∧ Hid (RdR r s at_ v 0 wr) ∧ Hid (RK r w wr) ∧ Hid (wr.heap[w.heap.size]? = some (.cells (#[.int .i64 34, .int .i64 92, .int .i64 47, .int .i64 8, .int .i64 12, .int .i64 10, .int .i64 13, .int .i64 9] : Array Value) 3 (0, 0))))
  case atStart => exact ⟨0, rfl, ⟨by omega, by omega⟩, by omega, HRA, HKA, HPA⟩
  case round =>
    rename World => wr
    obtain ⟨j, rfl, ⟨hg, hg'⟩, hjq, HR, HK, HP⟩ := hrel
    have hltr := HR.out.lt
    have hjm : j < (⟨#[34, 92, 47, 98, 102, 110, 114, 116]⟩ : ByteArray).size := Nat.lt_of_le_of_lt hjq hq
    have hat := escB_at j hjm
    have HLA : Hid (∀ W, Below wr.heap.size wr W → Calls Tryz.prog 48 #[.pointer (some ⟨r, 0, none⟩)] W fun x w' => x = .returned (.int .u8 (c.toNat : Int)) ∧ Below W.heap.size W w') := Lib.hid fun W hW => HLK.out W (HR.out.below hW)
    have HS0 : Hid (Below wr.heap.size wr wr) := Lib.hid (Below.refl _ _)
    have hj8 : (j : Int) < 8 := by omega
    by_cases hje : j = q
    · subst hje
      have t0 : ((c.toNat : Int) == ((⟨#[34, 92, 47, 98, 102, 110, 114, 116]⟩ : ByteArray)[j].toNat : Int)) = true := by rw [hat, HCC.out]; simp
      clear hat
      generalize (c.toNat : Int) = ci at *
      go_wp2_with fail
      go_region_held3 (fun W => Below wr.heap.size wr W)
        (first | assumption | exact keepB (W := wr) ⟨rfl, rfl, rfl, Nat.le_refl _, fun _ _ => rfl⟩ HS0.out | exact keepB (by assumption) (by assumption))
        (first | ((with_reducible refine (HLA.out _ (by assumption)).mono ?_); rintro e w5 ⟨rfl, hb⟩))
      all_goals
        rename_i hS
        have HRN := Lib.hid (HR.out.below hS)
        have HPN := Lib.hid ((hS.block _ (heap_lt HP.out)).trans HP.out)
        have HKN := Lib.hid (HK.out.trans (RK.of_below hS hltr))
        clear hS
        rename_i WN _ _ _ _
        obtain ⟨c0, c1, c2, c3⟩ := HRN.out.cells
        have f1 := HRN.out.frozen 1
        have hcq := cell_rk (k := 1) HPN.out HPQ.out hne
        go_wp2_with fail
        go_ret
        refine ⟨⟨rfl, at_ + 1, by omega, rfl, ?_⟩, HKN.out.trans (RK.set r 1 _ _)⟩
        exact HRN.out.at_ (at_ + 1)
    · have t0 : ((c.toNat : Int) == ((⟨#[34, 92, 47, 98, 102, 110, 114, 116]⟩ : ByteArray)[j].toNat : Int)) = false := beq_eq_false_iff_ne.2 fun e => HFI.out j (by omega) (by rw [hat] at e; exact UInt8.toNat_inj.1 (by omega))
      clear hat
      generalize (c.toNat : Int) = ci at *
      go_wp2_with fail
      go_region_held3 (fun W => Below wr.heap.size wr W)
        (first | assumption | exact keepB (W := wr) ⟨rfl, rfl, rfl, Nat.le_refl _, fun _ _ => rfl⟩ HS0.out | exact keepB (by assumption) (by assumption))
        (first | ((with_reducible refine (HLA.out _ (by assumption)).mono ?_); rintro e w5 ⟨rfl, hb⟩))
      all_goals
        rename_i hS
        have HRN := Lib.hid (HR.out.below hS)
        have HPN := Lib.hid ((hS.block _ (heap_lt HP.out)).trans HP.out)
        have HKN := Lib.hid (HK.out.trans (RK.of_below hS hltr))
        clear hS
        go_wp2_with fail
        go_roundg (gk - 1)
        case measure => omega
        case rel => exact ⟨j + 1, by go_num, ⟨by omega, by omega⟩, by omega, HRN, HKN, HPN⟩
set_option maxRecDepth 100000 in
set_option maxHeartbeats 4000000 in
theorem rescape_u (r : Nat) (s : ByteArray) (at_ : Nat) (v : Value) (ha : at_ ≤ s.size) (hs : s.size ≤ 1000000) (w : World) (h : RdR r s at_ v 0 w) (hno : ∀ k, k < 8 → lookJ 0 (s.data.toList.drop at_) ≠ escB k) :
    Calls Tryz.prog 73 #[.pointer (some ⟨r, 0, none⟩)] w fun x w' => EscE r s v (escJ (s.data.toList.drop at_)) x w' ∧ RK r w w' := by
  have HH := Lib.hid h
  have hlt := h.lt
  have hE : escJ (s.data.toList.drop at_) = (match tkJ [117] (s.data.toList.drop at_) with | none => none | some r => uJ r) := escJ_u _ (fun k hk => by have := hno k hk; unfold lookJ at this; rw [if_neg (by simp)] at this; exact this)
  obtain ⟨O, hO⟩ : ∃ O, escJ (s.data.toList.drop at_) = O := ⟨_, rfl⟩
  rw [hO]
  rw [hE] at hO
  have HO := Lib.hid hO
  have HLK : Hid (∀ W, RdR r s at_ v 0 W → Calls Tryz.prog 48 #[.pointer (some ⟨r, 0, none⟩)] W fun x w' => x = .returned (.int .u8 ((lookJ 0 (s.data.toList.drop at_)).toNat : Int)) ∧ Below W.heap.size W w') := Lib.hid fun W h2 => rlook_any r s at_ v 0 ha hs W h2
  have hne : w.heap.size ≠ r := by omega
  obtain ⟨c, hcc⟩ : ∃ c, lookJ 0 (s.data.toList.drop at_) = c := ⟨_, rfl⟩
  rw [hcc] at HLK hno
  have HFI := Lib.hid hno
  have HRA : Hid (RdR r s at_ v 0 (w.alloc (.cells (#[.int .i64 34, .int .i64 92, .int .i64 47, .int .i64 8, .int .i64 12, .int .i64 10, .int .i64 13, .int .i64 9] : Array Value) 3))) := Lib.hid (HH.out.below ((Below.refl w.heap.size w).alloc (Nat.le_refl _) _))
  have HKA : Hid (RK r w (w.alloc (.cells (#[.int .i64 34, .int .i64 92, .int .i64 47, .int .i64 8, .int .i64 12, .int .i64 10, .int .i64 13, .int .i64 9] : Array Value) 3))) := Lib.hid (RK.of_below ((Below.refl w.heap.size w).alloc (Nat.le_refl _) _) hlt)
  have HPA : Hid ((w.alloc (.cells (#[.int .i64 34, .int .i64 92, .int .i64 47, .int .i64 8, .int .i64 12, .int .i64 10, .int .i64 13, .int .i64 9] : Array Value) 3)).heap[w.heap.size]? = some (.cells (#[.int .i64 34, .int .i64 92, .int .i64 47, .int .i64 8, .int .i64 12, .int .i64 10, .int .i64 13, .int .i64 9] : Array Value) 3 (0, 0))) := Lib.hid (heap_alloc_new w _)
  have HTK : Hid (∀ W, RdR r s at_ v 0 W → Calls Tryz.prog 52 #[.pointer (some ⟨r, 0, none⟩), .string ⟨#[117]⟩] W fun x w' => x = .returned (.tuple #[]) ∧ TakeE r s v (tkJ [117] (s.data.toList.drop at_)) w' ∧ RK r W w') := Lib.hid fun W hW => rtake_go r s ⟨#[117]⟩ at_ v ha hs (by decide) (by decide) W hW
  have HTL : Hid (∀ a W, a ≤ s.size → RdR r s a v 0 W → Calls Tryz.prog 52 #[.pointer (some ⟨r, 0, none⟩), .string ⟨#[92, 117]⟩] W fun x w' => x = .returned (.tuple #[]) ∧ TakeE r s v (tkJ [92, 117] (s.data.toList.drop a)) w' ∧ RK r W w') := Lib.hid fun a W h1 hW => rtake_go r s ⟨#[92, 117]⟩ a v h1 hs (by decide) (by decide) W hW
  have HF0 : Hid (∀ a W, a ≤ s.size → RdR r s a v 0 W → Calls Tryz.prog 95 #[.pointer (some ⟨r, 0, none⟩)] W fun x w' => FourE r s v 0 (hexsJ 4 0 (s.data.toList.drop a)) x w' ∧ RK r W w') := Lib.hid fun a W h1 hW => by
    have := rfour_any r s a v 0 h1 hs W hW
    rw [if_pos rfl] at this
    exact this
  have HF4 : Hid (∀ a W, a ≤ s.size → RdR r s a v 40 W → Calls Tryz.prog 95 #[.pointer (some ⟨r, 0, none⟩)] W fun x w' => FourE r s v 40 none x w' ∧ RK r W w') := Lib.hid fun a W h1 hW => by
    have := rfour_any r s a v 40 h1 hs W hW
    rw [if_neg (by decide)] at this
    exact this
  have HFA : Hid (∀ a e W, RdR r s a v e W → Calls Tryz.prog 27 #[.pointer (some ⟨r, 0, none⟩), .int .i64 40] W fun x w' => x = .returned (.tuple #[]) ∧ RdR r s a v (if e = 0 then 40 else e) w' ∧ RK r W w') := Lib.hid fun a e W hW => rfail_any r s a v e 40 W hW
  clear h hE hno hcc hO
  go_enter Tryz.func73, Tryz.ntmps73
  go_wp2_with fail
  go_loopg [5] 8 (fun gk iv wr => ∃ j : Nat, iv = .int .i64 (j : Int) ∧ (gk + j ≤ 8 ∧ 8 ≤ gk + j) ∧ j ≤ 8 ∧ Hid (RdR r s at_ v 0 wr) ∧ Hid (RK r w wr) ∧ Hid (wr.heap[w.heap.size]? = some (.cells (#[.int .i64 34, .int .i64 92, .int .i64 47, .int .i64 8, .int .i64 12, .int .i64 10, .int .i64 13, .int .i64 9] : Array Value) 3 (0, 0))))
  case atStart => exact ⟨0, rfl, ⟨by omega, by omega⟩, by omega, HRA, HKA, HPA⟩
  case round =>
    rename World => wr
    obtain ⟨j, rfl, ⟨hg, hg'⟩, hjq, HR, HK, HP⟩ := hrel
    have hltr := HR.out.lt
    by_cases hg0 : gk = 0
    · subst hg0
      have hj8 : j = 8 := by omega
      subst hj8
      clear hg hg' hjq
      go_wp2_with fail
      refine (HTK.out _ HR.out).mono ?_; rintro x w1 ⟨rfl, hte, hk1⟩
      have HK1 := Lib.hid (HK.out.trans hk1)
      clear hk1
      cases htk : tkJ [117] (s.data.toList.drop at_) with
      | none =>
        rw [htk] at hte
        have HZ : Hid (none = O) := Lib.hid (by have := HO.out; rw [htk] at this; exact this)
        obtain ⟨a, hal, hr⟩ := hte
        have HR1 := Lib.hid hr
        clear hr htk
        go_wp2_with fail
        refine (HF4.out a _ hal HR1.out).mono ?_; rintro x w2 ⟨hfe, hk2⟩
        obtain ⟨a2, rfl, hal2, hr2⟩ := hfe
        rw [if_neg (by decide)] at hr2
        have HE := Lib.hid (And.intro hr2 (HK1.out.trans hk2))
        clear hr2 hk2
        go_wp2_with fail
        go_ret
        rw [← HZ.out]
        exact ⟨⟨0, a2, rfl, hal2, HE.out.1⟩, HE.out.2⟩
      | some ru =>
        rw [htk] at hte
        have HO1 : Hid (uJ ru = O) := Lib.hid (by have := HO.out; rw [htk] at this; exact this)
        obtain ⟨a, hal, hda, hr⟩ := hte
        have HR1 := Lib.hid hr
        have HDA := Lib.hid hda
        clear hr htk hda
        go_wp2_with fail
        refine (HF0.out a _ hal HR1.out).mono ?_; rintro x w2 ⟨hfe, hk2⟩
        have HK2 := Lib.hid (HK1.out.trans hk2)
        clear hk2
        rw [HDA.out] at hfe
        cases hhx : hexsJ 4 0 ru with
        | none =>
          rw [hhx] at hfe
          have HZ : Hid (none = O) := Lib.hid (by have := HO1.out; unfold uJ at this; rw [hhx] at this; exact this)
          obtain ⟨a2, rfl, hal2, hr2⟩ := hfe
          rw [if_pos rfl] at hr2
          have HE := Lib.hid hr2
          clear hr2 hhx
          go_wp2_with fail
          go_ret
          rw [← HZ.out]
          exact ⟨⟨0, a2, rfl, hal2, HE.out⟩, HK2.out⟩
        | some nt =>
          obtain ⟨n, t⟩ := nt
          rw [hhx] at hfe
          have HO2 : Hid ((if 56320 ≤ n ∧ n ≤ 57343 then none else if 55296 ≤ n ∧ n ≤ 56319 then lowJ n t else some (n, t)) = O) := Lib.hid (by have := HO1.out; unfold uJ at this; rw [hhx] at this; exact this)
          obtain ⟨rfl, a2, hal2, hda2, hr2⟩ := hfe
          have hn := hexs_lt 4 0 ru n t 1 hhx (by decide)
          have hn2 : n < 65536 := by simpa using hn
          have HR2 := Lib.hid hr2
          have HD2 := Lib.hid hda2
          clear hr2 hda2 hhx hn
          obtain ⟨ni, hni⟩ : ∃ ni : Int, (n : Int) = ni := ⟨_, rfl⟩
          have hni0 : 0 ≤ ni := by omega
          have hni1 : ni ≤ 65535 := by omega
          have HNI := Lib.hid hni
          by_cases hlo : 56320 ≤ n ∧ n ≤ 57343
          · have HZ : Hid (none = O) := Lib.hid (by have := HO2.out; rw [if_pos hlo] at this; exact this)
            have t1 : decide ((55296 : Int) ≤ ni) = true := decide_eq_true (by omega)
            have t2 : decide (ni ≤ (56319 : Int)) = false := decide_eq_false (by omega)
            have t3 : decide ((56320 : Int) ≤ ni) = true := decide_eq_true (by omega)
            have t4 : decide (ni ≤ (57343 : Int)) = true := decide_eq_true (by omega)
            rw [hni]
            clear hni hlo hn2
            go_wp2_with fail
            refine (HFA.out a2 0 _ HR2.out).mono ?_; rintro x w3 ⟨rfl, hr3, hk3⟩
            rw [if_pos rfl] at hr3
            have HE := Lib.hid (And.intro hr3 (HK2.out.trans hk3))
            clear hr3 hk3
            go_wp2_with fail
            go_ret
            rw [← HZ.out]
            exact ⟨⟨n, a2, ret_n HNI.out.symm, hal2, HE.out.1⟩, HE.out.2⟩
          by_cases hhi : 55296 ≤ n ∧ n ≤ 56319
          · have HO3 : Hid (lowJ n t = O) := Lib.hid (by have := HO2.out; rw [if_neg hlo, if_pos hhi] at this; exact this)
            have t1 : decide ((55296 : Int) ≤ ni) = true := decide_eq_true (by omega)
            have t2 : decide (ni ≤ (56319 : Int)) = true := decide_eq_true (by omega)
            have hb1 : 55296 ≤ ni := by omega
            have hb2 : ni ≤ 56319 := by omega
            rw [hni]
            clear hni hlo hn2
            go_wp2_with fail
            refine (HTL.out a2 _ hal2 HR2.out).mono ?_; rintro x w3 ⟨rfl, hte, hk3⟩
            have HK3 := Lib.hid (HK2.out.trans hk3)
            clear hk3
            rw [HD2.out] at hte
            cases htk : tkJ [92, 117] t with
            | none =>
              rw [htk] at hte
              have HZ : Hid (none = O) := Lib.hid (by have := HO3.out; unfold lowJ at this; rw [htk] at this; exact this)
              obtain ⟨a3, hal3, hr3⟩ := hte
              have HR3 := Lib.hid hr3
              clear hr3 htk
              go_wp2_with fail
              refine (HF4.out a3 _ hal3 HR3.out).mono ?_; rintro x w4 ⟨hfe, hk4⟩
              obtain ⟨a4, rfl, hal4, hr4⟩ := hfe
              rw [if_neg (by decide)] at hr4
              have HR4 := Lib.hid hr4
              have HK4 := Lib.hid (HK3.out.trans hk4)
              clear hr4 hk4
              go_wp2_with fail
              refine (HFA.out a4 40 _ HR4.out).mono ?_; rintro x w5 ⟨rfl, hr5, hk5⟩
              rw [if_neg (by decide)] at hr5
              have HE := Lib.hid (And.intro hr5 (HK4.out.trans hk5))
              clear hr5 hk5
              go_wp2_with fail
              go_ret
              rw [← HZ.out]
              exact ⟨⟨0, a4, rfl, hal4, HE.out.1⟩, HE.out.2⟩
            | some r2 =>
              rw [htk] at hte
              have HO4 : Hid ((match hexsJ 4 0 r2 with | none => none | some (m, t) => if m < 56320 ∨ 57343 < m then none else some (65536 + (n - 55296) * 1024 + (m - 56320), t)) = O) := Lib.hid (by have := HO3.out; unfold lowJ at this; rw [htk] at this; exact this)
              obtain ⟨a3, hal3, hda3, hr3⟩ := hte
              have HR3 := Lib.hid hr3
              have HD3 := Lib.hid hda3
              clear hr3 htk hda3
              go_wp2_with fail
              refine (HF0.out a3 _ hal3 HR3.out).mono ?_; rintro x w4 ⟨hfe, hk4⟩
              have HK4 := Lib.hid (HK3.out.trans hk4)
              clear hk4
              rw [HD3.out] at hfe
              cases hhx : hexsJ 4 0 r2 with
              | none =>
                rw [hhx] at hfe
                have HZ : Hid (none = O) := Lib.hid (by have := HO4.out; rw [hhx] at this; exact this)
                obtain ⟨a4, rfl, hal4, hr4⟩ := hfe
                rw [if_pos rfl] at hr4
                have HR4 := Lib.hid hr4
                clear hr4 hhx
                go_wp2_with fail
                refine (HFA.out a4 40 _ HR4.out).mono ?_; rintro x w5 ⟨rfl, hr5, hk5⟩
                rw [if_neg (by decide)] at hr5
                have HE := Lib.hid (And.intro hr5 (HK4.out.trans hk5))
                clear hr5 hk5
                go_wp2_with fail
                go_ret
                rw [← HZ.out]
                exact ⟨⟨0, a4, rfl, hal4, HE.out.1⟩, HE.out.2⟩
              | some mt =>
                obtain ⟨m, t2'⟩ := mt
                rw [hhx] at hfe
                have HO5 : Hid ((if m < 56320 ∨ 57343 < m then none else some (65536 + (n - 55296) * 1024 + (m - 56320), t2')) = O) := Lib.hid (by have := HO4.out; rw [hhx] at this; exact this)
                obtain ⟨rfl, a4, hal4, hda4, hr4⟩ := hfe
                have hm := hexs_lt 4 0 r2 m t2' 1 hhx (by decide)
                have hm2 : m < 65536 := by simpa using hm
                have HR4 := Lib.hid hr4
                have HD4 := Lib.hid hda4
                clear hr4 hda4 hhx hm
                obtain ⟨mi, hmi⟩ : ∃ mi : Int, (m : Int) = mi := ⟨_, rfl⟩
                have hmi0 : 0 ≤ mi := by omega
                have hmi1 : mi ≤ 65535 := by omega
                have HMI := Lib.hid hmi
                by_cases ho : m < 56320 ∨ 57343 < m
                · have HZ : Hid (none = O) := Lib.hid (by have := HO5.out; rw [if_pos ho] at this; exact this)
                  by_cases ho1 : m < 56320
                  · have t5 : decide (mi < (56320 : Int)) = true := decide_eq_true (by omega)
                    rw [hmi]
                    clear hmi ho hm2 hhi ho1
                    go_wp2_with fail
                    refine (HFA.out a4 0 _ HR4.out).mono ?_; rintro x w5 ⟨rfl, hr5, hk5⟩
                    rw [if_pos rfl] at hr5
                    have HE := Lib.hid (And.intro hr5 (HK4.out.trans hk5))
                    clear hr5 hk5
                    go_wp2_with fail
                    go_ret
                    rw [← HZ.out]
                    exact ⟨⟨0, a4, rfl, hal4, HE.out.1⟩, HE.out.2⟩
                  · have t5 : decide (mi < (56320 : Int)) = false := decide_eq_false (by omega)
                    have t6 : decide ((57343 : Int) < mi) = true := decide_eq_true (by omega)
                    rw [hmi]
                    clear hmi ho hm2 hhi ho1
                    go_wp2_with fail
                    refine (HFA.out a4 0 _ HR4.out).mono ?_; rintro x w5 ⟨rfl, hr5, hk5⟩
                    rw [if_pos rfl] at hr5
                    have HE := Lib.hid (And.intro hr5 (HK4.out.trans hk5))
                    clear hr5 hk5
                    go_wp2_with fail
                    go_ret
                    rw [← HZ.out]
                    exact ⟨⟨0, a4, rfl, hal4, HE.out.1⟩, HE.out.2⟩
                · have HZ : Hid (some (65536 + (n - 55296) * 1024 + (m - 56320), t2') = O) := Lib.hid (by have := HO5.out; rw [if_neg ho] at this; exact this)
                  have t5 : decide (mi < (56320 : Int)) = false := decide_eq_false (by omega)
                  have t6 : decide ((57343 : Int) < mi) = false := decide_eq_false (by omega)
                  have HV : Hid (65536 + (ni - 55296) * 1024 + mi - 56320 = ((65536 + (n - 55296) * 1024 + (m - 56320) : Nat) : Int)) := Lib.hid (by have h1 := HNI.out; have h2 := HMI.out; omega)
                  rw [hmi]
                  clear hmi ho hm2 hhi
                  go_wp2_with fail
                  go_ret
                  rw [← HZ.out]
                  exact ⟨⟨ret_n HV.out, a4, hal4, HD4.out, HR4.out⟩, HK4.out⟩
          · have HE : Hid (EscE r s v O (.returned (.int .i64 ni)) w2) := Lib.hid (by
              have := HO2.out; rw [if_neg hlo, if_neg hhi] at this
              rw [← this]
              exact ⟨by rw [hni], a2, hal2, HD2.out, HR2.out⟩)
            by_cases h1 : 55296 ≤ n
            · have t1 : decide ((55296 : Int) ≤ ni) = true := decide_eq_true (by omega)
              have t2 : decide (ni ≤ (56319 : Int)) = false := decide_eq_false (by omega)
              have t3 : decide ((56320 : Int) ≤ ni) = true := decide_eq_true (by omega)
              have t4 : decide (ni ≤ (57343 : Int)) = false := decide_eq_false (by omega)
              rw [hni]
              clear hni hlo hn2 hhi h1
              go_wp2_with fail
              go_ret
              exact ⟨HE.out, HK2.out⟩
            · have t1 : decide ((55296 : Int) ≤ ni) = false := decide_eq_false (by omega)
              have t3 : decide ((56320 : Int) ≤ ni) = false := decide_eq_false (by omega)
              rw [hni]
              clear hni hlo hn2 hhi h1
              go_wp2_with fail
              go_ret
              exact ⟨HE.out, HK2.out⟩
    · have hjm : j < (⟨#[34, 92, 47, 98, 102, 110, 114, 116]⟩ : ByteArray).size := by show j < 8; omega
      have hat := escB_at j hjm
      have HLA : Hid (∀ W, Below wr.heap.size wr W → Calls Tryz.prog 48 #[.pointer (some ⟨r, 0, none⟩)] W fun x w' => x = .returned (.int .u8 (c.toNat : Int)) ∧ Below W.heap.size W w') := Lib.hid fun W hW => HLK.out W (HR.out.below hW)
      have HS0 : Hid (Below wr.heap.size wr wr) := Lib.hid (Below.refl _ _)
      have hj8 : (j : Int) < 8 := by omega
      have t0 : ((c.toNat : Int) == ((⟨#[34, 92, 47, 98, 102, 110, 114, 116]⟩ : ByteArray)[j].toNat : Int)) = false := beq_eq_false_iff_ne.2 fun e => HFI.out j (by omega) (by rw [hat] at e; exact UInt8.toNat_inj.1 (by omega))
      clear hat
      generalize (c.toNat : Int) = ci at *
      go_wp2_with fail
      go_region_held3 (fun W => Below wr.heap.size wr W)
        (first | assumption | exact keepB (W := wr) ⟨rfl, rfl, rfl, Nat.le_refl _, fun _ _ => rfl⟩ HS0.out | exact keepB (by assumption) (by assumption))
        (first | ((with_reducible refine (HLA.out _ (by assumption)).mono ?_); rintro e w5 ⟨rfl, hb⟩))
      all_goals
        rename_i hS
        have HRN := Lib.hid (HR.out.below hS)
        have HPN := Lib.hid ((hS.block _ (heap_lt HP.out)).trans HP.out)
        have HKN := Lib.hid (HK.out.trans (RK.of_below hS hltr))
        clear hS
        go_wp2_with fail
        go_roundg (gk - 1)
        case measure => omega
        case rel => exact ⟨j + 1, by go_num, ⟨by omega, by omega⟩, by omega, HRN, HKN, HPN⟩
theorem rescape_any (r : Nat) (s : ByteArray) (at_ : Nat) (v : Value) (ha : at_ ≤ s.size) (hs : s.size ≤ 1000000) (w : World) (h : RdR r s at_ v 0 w) :
    Calls Tryz.prog 73 #[.pointer (some ⟨r, 0, none⟩)] w fun x w' => EscE r s v (escJ (s.data.toList.drop at_)) x w' ∧ RK r w w' := by
  rcases letJ_first (lookJ 0 (s.data.toList.drop at_)) with ⟨q, hq, h1, h2⟩ | hno
  · have hlt : at_ < s.size := by
      rcases Nat.lt_or_ge at_ s.size with h' | h'
      · exact h'
      · rw [look_out s at_ (by omega)] at h1
        exact absurd h1 ((by decide +kernel : ∀ i : Fin 8, (0 : UInt8) ≠ escB i.val) ⟨q, hq⟩)
    rw [look_at s at_ hlt] at h1 h2
    exact rescape_let r s at_ v hlt hs w h q hq h1 h2
  · exact rescape_u r s at_ v ha hs w h hno
end Go.Proofs.YtglhanblbojkhaaGreatDoor
