/- slices.EqualFunc at arguments, directives, inputs, fields, definitions. -/
import Derived.Test.YtbejhdhhkpllfaaGreatDoorDd
set_option linter.unusedSimpArgs false
set_option linter.unusedVariables false
namespace Go.Proofs.YtbejhdhhkpllfaaGreatDoor
open Go.RowKit
set_option maxRecDepth 100000 in
theorem arg_eqf_len (g : Nat) (lb : Array Value) (v1 v2 : Option Addr) (c1 c2 : Nat) (n m : Nat) (hn : n ≤ 100000) (hm : m ≤ 100000) (hne : n ≠ m) (w : World) :
    Calls Tryz.prog 47 #[.slice v1 n c1, .slice v2 m c2, .func (.func g) #[] lb] w fun e w' => e = .returned (.bool false) ∧ Below w.heap.size w w' := by
  have h1 : ((n : Int) != (m : Int)) = true := by rw [bne_iff_ne]; omega
  clear hne
  go_enter Tryz.func47, Tryz.ntmps47
  go_wp2_with fail
  go_ret
  exact ⟨rfl, Below.refl _ _⟩
set_option maxRecDepth 100000 in
theorem arg_eqf_none (g : Nat) (lb : Array Value) (a v : Option Addr) (c1 c2 : Nat) (w : World) :
    Calls Tryz.prog 47 #[.slice a 0 c1, .slice v 0 c2, .func (.func g) #[] lb] w fun e w' => e = .returned (.bool true) ∧ Below w.heap.size w w' := by
  go_enter Tryz.func47, Tryz.ntmps47
  go_wp2_with fail
  refine wp_loop_rounds 1 ?_; rw [rounds_succ]
  go_wp2_with fail
  go_ret
  exact ⟨rfl, Below.refl _ _⟩
set_option maxRecDepth 100000 in
set_option maxHeartbeats 4000000 in
theorem arg_eqf_row (g : Nat) (lb : Array Value) (eg : ∀ args w, (callFunc g args).run Tryz.prog w = .ok (.enter g args) w) (L M : List (ArgD)) (b1 o1 c1 b2 o2 c2 : Nat) (hl : L.length ≤ 100000) (hlm : L.length = M.length) (w : World) (h1 : XRow CelSl b1 o1 L w) (h2 : XRow CelSl b2 o2 M w)
    (H : Hid (∀ (W : World) (k : Nat) (hk : k < L.length) (hk' : k < M.length) (u v : Value), ArgV u L[k] W → ArgV v M[k] W → Below w.heap.size w W → Calls Tryz.prog g (#[u, v] ++ lb) W fun e w' => e = .returned (.bool (eqB L[k] M[k])) ∧ Below W.heap.size W w')) :
    Calls Tryz.prog 47 #[.slice (some ⟨b1, o1, none⟩) L.length c1, .slice (some ⟨b2, o2, none⟩) L.length c2, .func (.func g) #[] lb] w fun e w' => e = .returned (.bool (eqB L M)) ∧ Below w.heap.size w w' := by
  have H1 := Lib.hid h1
  have H2 := Lib.hid h2
  have HM := Lib.hid hlm
  obtain ⟨r, hr⟩ : ∃ r, eqB L M = r := ⟨_, rfl⟩
  have HR : Hid (eqB (L.drop 0) (M.drop 0) = r) := Lib.hid hr
  rw [hr]
  clear hr h1 h2 hlm
  have hnn : ((L.length : Int) != (L.length : Int)) = false := by rw [bne_eq_false_iff_eq]
  go_enter Tryz.func47, Tryz.ntmps47
  go_wp2_with fail
  go_loopw [17] (fun i wr => ∃ k : Nat, k ≤ L.length ∧ i = .int .i64 k ∧ Hid (eqB (L.drop k) (M.drop k) = r) ∧ Hid (Below w.heap.size w wr)) (fun i wr => L.length - (intOf i).toNat)
  case atStart => exact ⟨0, Nat.zero_le _, rfl, HR, Lib.hid (Below.refl _ _)⟩
  case round =>
    rename World => wr
    obtain ⟨k, hk, rfl, HS, HB⟩ := hrel
    by_cases hlt : k < L.length
    · have hltm : k < M.length := by rw [← HM.out]; exact hlt
      obtain ⟨yq0, ya, yn, yc, yq1, yy⟩ := (XRow.below H1.out (fun _ _ h => CelSl.below h HB.out) HB.out) k hlt
      obtain ⟨zq0, za, zn, zc, zq1, zy⟩ := (XRow.below H2.out (fun _ _ h => CelSl.below h HB.out) HB.out) k hltm
      have hstep := HS.out
      rw [eqB_drop _ _ k hlt hltm] at hstep
      have hz := HB.out.size
      have HC := Lib.hid fun W (hW : Below wr.heap.size wr W) => H.out W k hlt hltm _ _ (ArgV.below ⟨_, _, _, rfl, yy⟩ hW) (ArgV.below ⟨_, _, _, rfl, zy⟩ hW) (HB.out.trans (hW.mono hz))
      clear yy zy
      generalize eqB L[k] M[k] = pk at *
      generalize (⟨L[k].1.toArray⟩ : ByteArray) = x0 at *
      generalize (⟨M[k].1.toArray⟩ : ByteArray) = x0m at *
      have pb := lt_of_cell yq0
      have qb := lt_of_cell zq0
      go_upto_region 7 with fail
      obtain ⟨w2, hw2⟩ : ∃ w2, (wr.alloc (.cells #[.string x0, .slice ya yn yc] 86 (0, 0))).alloc (.cells #[.string x0m, .slice za zn zc] 86 (0, 0)) = w2 := ⟨_, rfl⟩
      have HBA : Hid (Below wr.heap.size wr w2) := Lib.hid (by rw [← hw2]; exact ((Below.refl _ _).alloc (Nat.le_refl _) _).alloc (by simp) _)
      have k1 : w2.heap[wr.heap.size]? = some (.cells #[.string x0, .slice ya yn yc] 86 (0, 0)) := by rw [← hw2]; exact heap_old (heap_new _ _ _ rfl)
      have k2 : w2.heap[wr.heap.size + 1]? = some (.cells #[.string x0m, .slice za zn zc] 86 (0, 0)) := by rw [← hw2]; exact heap_new _ _ _ (by simp)
      have d0x : w2.cell? ⟨wr.heap.size, 0, none⟩ = some (.string x0) := (Lib.cell_of_heap k1 0).trans rfl
      have d1x : w2.cell? ⟨wr.heap.size, 1, none⟩ = some (.slice ya yn yc) := (Lib.cell_of_heap k1 1).trans rfl
      have d0y : w2.cell? ⟨wr.heap.size + 1, 0, none⟩ = some (.string x0m) := (Lib.cell_of_heap k2 0).trans rfl
      have d1y : w2.cell? ⟨wr.heap.size + 1, 1, none⟩ = some (.slice za zn zc) := (Lib.cell_of_heap k2 1).trans rfl
      try rw [hw2]
      clear hw2 k1 k2
      cases pk with
      | false =>
        rw [Bool.false_and] at hstep
        have HF := Lib.hid hstep
        clear hstep HS
        go_wp2_with fail
        refine (HC.out _ HBA.out).mono ?_; rintro e w1 ⟨rfl, hb⟩
        have HB1 := Lib.hid (HB.out.trans ((HBA.out.trans (hb.mono HBA.out.size)).mono hz))
        clear hb
        go_wp2_with fail
        go_ret
        exact ⟨ret_b HF.out, HB1.out⟩
      | true =>
        rw [Bool.true_and] at hstep
        have HF := Lib.hid hstep
        clear hstep HS
        go_wp2_with fail
        refine (HC.out _ HBA.out).mono ?_; rintro e w1 ⟨rfl, hb⟩
        have HB1 := Lib.hid (HB.out.trans ((HBA.out.trans (hb.mono HBA.out.size)).mono hz))
        clear hb
        go_wp2_with fail
        go_roundw
        case rel => exact ⟨k + 1, by omega, by go_num, HF, HB1⟩
        case measure => simp [intOf]; omega
    · have HF : Hid (true = r) := Lib.hid (by
        have hm : M.length = L.length := HM.out.symm
        rw [← HS.out, List.drop_of_length_le (by omega), List.drop_of_length_le (by omega)]
        exact (eqB_self _).symm)
      clear HS
      go_wp2_with fail
      go_ret
      exact ⟨ret_b HF.out, HB.out⟩
theorem arg_eqf (g : Nat) (lb : Array Value) (eg : ∀ args w, (callFunc g args).run Tryz.prog w = .ok (.enter g args) w) (L M : List (ArgD)) (u v : Value) (hl : L.length ≤ 100000) (hm : M.length ≤ 100000) (w : World) (h1 : ArgSl u L w) (h2 : ArgSl v M w)
    (H : Hid (∀ (W : World) (k : Nat) (hk : k < L.length) (hk' : k < M.length) (u v : Value), ArgV u L[k] W → ArgV v M[k] W → Below w.heap.size w W → Calls Tryz.prog g (#[u, v] ++ lb) W fun e w' => e = .returned (.bool (eqB L[k] M[k])) ∧ Below W.heap.size W w')) :
    Calls Tryz.prog 47 #[u, v, .func (.func g) #[] lb] w fun e w' => e = .returned (.bool (eqB L M)) ∧ Below w.heap.size w w' := by
  by_cases hlm : L.length = M.length
  · rcases h1 with ⟨a1, c1, rfl, rfl⟩ | ⟨b1, o1, c1, rfl, h1, p1⟩
    · obtain rfl : M = [] := List.eq_nil_of_length_eq_zero hlm.symm
      rw [eqB_self]
      rcases h2 with ⟨a2, c2, rfl, _⟩ | ⟨b2, o2, c2, rfl, h2, p2⟩
      · exact arg_eqf_none g lb a1 a2 c1 c2 w
      · exact arg_eqf_none g lb a1 _ c1 c2 w
    · rcases h2 with ⟨a2, c2, rfl, rfl⟩ | ⟨b2, o2, c2, rfl, h2, p2⟩
      · obtain rfl : L = [] := List.eq_nil_of_length_eq_zero hlm
        rw [eqB_self]
        exact arg_eqf_none g lb _ a2 c1 c2 w
      · rw [← hlm]
        exact arg_eqf_row g lb eg L M b1 o1 c1 b2 o2 c2 hl hlm w h1 h2 H
  · rw [eqB_len hlm]
    rcases h1 with ⟨a1, c1, rfl, rfl⟩ | ⟨b1, o1, c1, rfl, h1, p1⟩
    · rcases h2 with ⟨a2, c2, rfl, rfl⟩ | ⟨b2, o2, c2, rfl, h2, p2⟩
      · exact absurd rfl hlm
      · exact arg_eqf_len g lb a1 _ _ _ 0 _ (by omega) hm hlm w
    · rcases h2 with ⟨a2, c2, rfl, rfl⟩ | ⟨b2, o2, c2, rfl, h2, p2⟩
      · exact arg_eqf_len g lb _ a2 _ _ _ 0 hl (by omega) hlm w
      · exact arg_eqf_len g lb _ _ _ _ _ _ hl hm hlm w
set_option maxRecDepth 100000 in
theorem dir_eqf_len (g : Nat) (lb : Array Value) (v1 v2 : Option Addr) (c1 c2 : Nat) (n m : Nat) (hn : n ≤ 100000) (hm : m ≤ 100000) (hne : n ≠ m) (w : World) :
    Calls Tryz.prog 49 #[.slice v1 n c1, .slice v2 m c2, .func (.func g) #[] lb] w fun e w' => e = .returned (.bool false) ∧ Below w.heap.size w w' := by
  have h1 : ((n : Int) != (m : Int)) = true := by rw [bne_iff_ne]; omega
  clear hne
  go_enter Tryz.func49, Tryz.ntmps49
  go_wp2_with fail
  go_ret
  exact ⟨rfl, Below.refl _ _⟩
set_option maxRecDepth 100000 in
theorem dir_eqf_none (g : Nat) (lb : Array Value) (a v : Option Addr) (c1 c2 : Nat) (w : World) :
    Calls Tryz.prog 49 #[.slice a 0 c1, .slice v 0 c2, .func (.func g) #[] lb] w fun e w' => e = .returned (.bool true) ∧ Below w.heap.size w w' := by
  go_enter Tryz.func49, Tryz.ntmps49
  go_wp2_with fail
  refine wp_loop_rounds 1 ?_; rw [rounds_succ]
  go_wp2_with fail
  go_ret
  exact ⟨rfl, Below.refl _ _⟩
set_option maxRecDepth 100000 in
set_option maxHeartbeats 4000000 in
theorem dir_eqf_row (g : Nat) (lb : Array Value) (eg : ∀ args w, (callFunc g args).run Tryz.prog w = .ok (.enter g args) w) (L M : List (DirD)) (b1 o1 c1 b2 o2 c2 : Nat) (hl : L.length ≤ 100000) (hlm : L.length = M.length) (w : World) (h1 : XRow ArgSlc b1 o1 L w) (h2 : XRow ArgSlc b2 o2 M w)
    (H : Hid (∀ (W : World) (k : Nat) (hk : k < L.length) (hk' : k < M.length) (u v : Value), DirV u L[k] W → DirV v M[k] W → Below w.heap.size w W → Calls Tryz.prog g (#[u, v] ++ lb) W fun e w' => e = .returned (.bool (eqB L[k] M[k])) ∧ Below W.heap.size W w')) :
    Calls Tryz.prog 49 #[.slice (some ⟨b1, o1, none⟩) L.length c1, .slice (some ⟨b2, o2, none⟩) L.length c2, .func (.func g) #[] lb] w fun e w' => e = .returned (.bool (eqB L M)) ∧ Below w.heap.size w w' := by
  have H1 := Lib.hid h1
  have H2 := Lib.hid h2
  have HM := Lib.hid hlm
  obtain ⟨r, hr⟩ : ∃ r, eqB L M = r := ⟨_, rfl⟩
  have HR : Hid (eqB (L.drop 0) (M.drop 0) = r) := Lib.hid hr
  rw [hr]
  clear hr h1 h2 hlm
  have hnn : ((L.length : Int) != (L.length : Int)) = false := by rw [bne_eq_false_iff_eq]
  go_enter Tryz.func49, Tryz.ntmps49
  go_wp2_with fail
  go_loopw [17] (fun i wr => ∃ k : Nat, k ≤ L.length ∧ i = .int .i64 k ∧ Hid (eqB (L.drop k) (M.drop k) = r) ∧ Hid (Below w.heap.size w wr)) (fun i wr => L.length - (intOf i).toNat)
  case atStart => exact ⟨0, Nat.zero_le _, rfl, HR, Lib.hid (Below.refl _ _)⟩
  case round =>
    rename World => wr
    obtain ⟨k, hk, rfl, HS, HB⟩ := hrel
    by_cases hlt : k < L.length
    · have hltm : k < M.length := by rw [← HM.out]; exact hlt
      obtain ⟨yq0, ya, yn, yc, yq1, yy⟩ := (XRow.below H1.out (fun _ _ h => ArgSlc.below h HB.out) HB.out) k hlt
      obtain ⟨zq0, za, zn, zc, zq1, zy⟩ := (XRow.below H2.out (fun _ _ h => ArgSlc.below h HB.out) HB.out) k hltm
      have hstep := HS.out
      rw [eqB_drop _ _ k hlt hltm] at hstep
      have hz := HB.out.size
      have HC := Lib.hid fun W (hW : Below wr.heap.size wr W) => H.out W k hlt hltm _ _ (DirV.below ⟨_, _, _, rfl, yy⟩ hW) (DirV.below ⟨_, _, _, rfl, zy⟩ hW) (HB.out.trans (hW.mono hz))
      clear yy zy
      generalize eqB L[k] M[k] = pk at *
      generalize (⟨L[k].1.toArray⟩ : ByteArray) = x0 at *
      generalize (⟨M[k].1.toArray⟩ : ByteArray) = x0m at *
      have pb := lt_of_cell yq0
      have qb := lt_of_cell zq0
      go_upto_region 7 with fail
      obtain ⟨w2, hw2⟩ : ∃ w2, (wr.alloc (.cells #[.string x0, .slice ya yn yc] 90 (0, 0))).alloc (.cells #[.string x0m, .slice za zn zc] 90 (0, 0)) = w2 := ⟨_, rfl⟩
      have HBA : Hid (Below wr.heap.size wr w2) := Lib.hid (by rw [← hw2]; exact ((Below.refl _ _).alloc (Nat.le_refl _) _).alloc (by simp) _)
      have k1 : w2.heap[wr.heap.size]? = some (.cells #[.string x0, .slice ya yn yc] 90 (0, 0)) := by rw [← hw2]; exact heap_old (heap_new _ _ _ rfl)
      have k2 : w2.heap[wr.heap.size + 1]? = some (.cells #[.string x0m, .slice za zn zc] 90 (0, 0)) := by rw [← hw2]; exact heap_new _ _ _ (by simp)
      have d0x : w2.cell? ⟨wr.heap.size, 0, none⟩ = some (.string x0) := (Lib.cell_of_heap k1 0).trans rfl
      have d1x : w2.cell? ⟨wr.heap.size, 1, none⟩ = some (.slice ya yn yc) := (Lib.cell_of_heap k1 1).trans rfl
      have d0y : w2.cell? ⟨wr.heap.size + 1, 0, none⟩ = some (.string x0m) := (Lib.cell_of_heap k2 0).trans rfl
      have d1y : w2.cell? ⟨wr.heap.size + 1, 1, none⟩ = some (.slice za zn zc) := (Lib.cell_of_heap k2 1).trans rfl
      try rw [hw2]
      clear hw2 k1 k2
      cases pk with
      | false =>
        rw [Bool.false_and] at hstep
        have HF := Lib.hid hstep
        clear hstep HS
        go_wp2_with fail
        refine (HC.out _ HBA.out).mono ?_; rintro e w1 ⟨rfl, hb⟩
        have HB1 := Lib.hid (HB.out.trans ((HBA.out.trans (hb.mono HBA.out.size)).mono hz))
        clear hb
        go_wp2_with fail
        go_ret
        exact ⟨ret_b HF.out, HB1.out⟩
      | true =>
        rw [Bool.true_and] at hstep
        have HF := Lib.hid hstep
        clear hstep HS
        go_wp2_with fail
        refine (HC.out _ HBA.out).mono ?_; rintro e w1 ⟨rfl, hb⟩
        have HB1 := Lib.hid (HB.out.trans ((HBA.out.trans (hb.mono HBA.out.size)).mono hz))
        clear hb
        go_wp2_with fail
        go_roundw
        case rel => exact ⟨k + 1, by omega, by go_num, HF, HB1⟩
        case measure => simp [intOf]; omega
    · have HF : Hid (true = r) := Lib.hid (by
        have hm : M.length = L.length := HM.out.symm
        rw [← HS.out, List.drop_of_length_le (by omega), List.drop_of_length_le (by omega)]
        exact (eqB_self _).symm)
      clear HS
      go_wp2_with fail
      go_ret
      exact ⟨ret_b HF.out, HB.out⟩
theorem dir_eqf (g : Nat) (lb : Array Value) (eg : ∀ args w, (callFunc g args).run Tryz.prog w = .ok (.enter g args) w) (L M : List (DirD)) (u v : Value) (hl : L.length ≤ 100000) (hm : M.length ≤ 100000) (w : World) (h1 : DirSlc u L w) (h2 : DirSlc v M w)
    (H : Hid (∀ (W : World) (k : Nat) (hk : k < L.length) (hk' : k < M.length) (u v : Value), DirV u L[k] W → DirV v M[k] W → Below w.heap.size w W → Calls Tryz.prog g (#[u, v] ++ lb) W fun e w' => e = .returned (.bool (eqB L[k] M[k])) ∧ Below W.heap.size W w')) :
    Calls Tryz.prog 49 #[u, v, .func (.func g) #[] lb] w fun e w' => e = .returned (.bool (eqB L M)) ∧ Below w.heap.size w w' := by
  by_cases hlm : L.length = M.length
  · rcases h1 with ⟨a1, c1, rfl, rfl⟩ | ⟨b1, o1, c1, rfl, h1, p1⟩
    · obtain rfl : M = [] := List.eq_nil_of_length_eq_zero hlm.symm
      rw [eqB_self]
      rcases h2 with ⟨a2, c2, rfl, _⟩ | ⟨b2, o2, c2, rfl, h2, p2⟩
      · exact dir_eqf_none g lb a1 a2 c1 c2 w
      · exact dir_eqf_none g lb a1 _ c1 c2 w
    · rcases h2 with ⟨a2, c2, rfl, rfl⟩ | ⟨b2, o2, c2, rfl, h2, p2⟩
      · obtain rfl : L = [] := List.eq_nil_of_length_eq_zero hlm
        rw [eqB_self]
        exact dir_eqf_none g lb _ a2 c1 c2 w
      · rw [← hlm]
        exact dir_eqf_row g lb eg L M b1 o1 c1 b2 o2 c2 hl hlm w h1 h2 H
  · rw [eqB_len hlm]
    rcases h1 with ⟨a1, c1, rfl, rfl⟩ | ⟨b1, o1, c1, rfl, h1, p1⟩
    · rcases h2 with ⟨a2, c2, rfl, rfl⟩ | ⟨b2, o2, c2, rfl, h2, p2⟩
      · exact absurd rfl hlm
      · exact dir_eqf_len g lb a1 _ _ _ 0 _ (by omega) hm hlm w
    · rcases h2 with ⟨a2, c2, rfl, rfl⟩ | ⟨b2, o2, c2, rfl, h2, p2⟩
      · exact dir_eqf_len g lb _ a2 _ _ _ 0 hl (by omega) hlm w
      · exact dir_eqf_len g lb _ _ _ _ _ _ hl hm hlm w
set_option maxRecDepth 100000 in
theorem inp_eqf_len (g : Nat) (lb : Array Value) (v1 v2 : Option Addr) (c1 c2 : Nat) (n m : Nat) (hn : n ≤ 100000) (hm : m ≤ 100000) (hne : n ≠ m) (w : World) :
    Calls Tryz.prog 24 #[.slice v1 n c1, .slice v2 m c2, .func (.func g) #[] lb] w fun e w' => e = .returned (.bool false) ∧ Below w.heap.size w w' := by
  have h1 : ((n : Int) != (m : Int)) = true := by rw [bne_iff_ne]; omega
  clear hne
  go_enter Tryz.func24, Tryz.ntmps24
  go_wp2_with fail
  go_ret
  exact ⟨rfl, Below.refl _ _⟩
set_option maxRecDepth 100000 in
theorem inp_eqf_none (g : Nat) (lb : Array Value) (a v : Option Addr) (c1 c2 : Nat) (w : World) :
    Calls Tryz.prog 24 #[.slice a 0 c1, .slice v 0 c2, .func (.func g) #[] lb] w fun e w' => e = .returned (.bool true) ∧ Below w.heap.size w w' := by
  go_enter Tryz.func24, Tryz.ntmps24
  go_wp2_with fail
  refine wp_loop_rounds 1 ?_; rw [rounds_succ]
  go_wp2_with fail
  go_ret
  exact ⟨rfl, Below.refl _ _⟩
set_option maxRecDepth 100000 in
set_option maxHeartbeats 4000000 in
theorem inp_eqf_row (g : Nat) (lb : Array Value) (eg : ∀ args w, (callFunc g args).run Tryz.prog w = .ok (.enter g args) w) (L M : List (Inp)) (b1 o1 c1 b2 o2 c2 : Nat) (hl : L.length ≤ 100000) (hlm : L.length = M.length) (w : World) (h1 : RowG 6 InpE ⟨b1, o1, none⟩ L w) (h2 : RowG 6 InpE ⟨b2, o2, none⟩ M w)
    (H : Hid (∀ (W : World) (k : Nat) (hk : k < L.length) (hk' : k < M.length) (u v : Value), InpV u L[k] W → InpV v M[k] W → Below w.heap.size w W → Calls Tryz.prog g (#[u, v] ++ lb) W fun e w' => e = .returned (.bool (eqB L[k] M[k])) ∧ Below W.heap.size W w')) :
    Calls Tryz.prog 24 #[.slice (some ⟨b1, o1, none⟩) L.length c1, .slice (some ⟨b2, o2, none⟩) L.length c2, .func (.func g) #[] lb] w fun e w' => e = .returned (.bool (eqB L M)) ∧ Below w.heap.size w w' := by
  have H1 := Lib.hid h1
  have H2 := Lib.hid h2
  have HM := Lib.hid hlm
  obtain ⟨r, hr⟩ : ∃ r, eqB L M = r := ⟨_, rfl⟩
  have HR : Hid (eqB (L.drop 0) (M.drop 0) = r) := Lib.hid hr
  rw [hr]
  clear hr h1 h2 hlm
  have hnn : ((L.length : Int) != (L.length : Int)) = false := by rw [bne_eq_false_iff_eq]
  go_enter Tryz.func24, Tryz.ntmps24
  go_wp2_with fail
  go_loopw [17] (fun i wr => ∃ k : Nat, k ≤ L.length ∧ i = .int .i64 k ∧ Hid (eqB (L.drop k) (M.drop k) = r) ∧ Hid (Below w.heap.size w wr)) (fun i wr => L.length - (intOf i).toNat)
  case atStart => exact ⟨0, Nat.zero_le _, rfl, HR, Lib.hid (Below.refl _ _)⟩
  case round =>
    rename World => wr
    obtain ⟨k, hk, rfl, HS, HB⟩ := hrel
    by_cases hlt : k < L.length
    · have hltm : k < M.length := by rw [← HM.out]; exact hlt
      obtain ⟨y0, y1, y2, y3, y4, y5, y6, y7, y8, yq0, yq1, yq2, yq3, yq4, yq5, yy, yz, yu⟩ := inp_at (RowG.below H1.out fun _ _ h => InpE.below h HB.out) k hlt
      obtain ⟨z0, z1, z2, z3, z4, z5, z6, z7, z8, zq0, zq1, zq2, zq3, zq4, zq5, zy, zz, zu⟩ := inp_at (RowG.below H2.out fun _ _ h => InpE.below h HB.out) k hltm
      have hstep := HS.out
      rw [eqB_drop _ _ k hlt hltm] at hstep
      have hz := HB.out.size
      have HC := Lib.hid fun W (hW : Below wr.heap.size wr W) => H.out W k hlt hltm _ _ (InpV.below ⟨_, _, _, _, _, _, _, _, _, rfl, yy, yz, yu⟩ hW) (InpV.below ⟨_, _, _, _, _, _, _, _, _, rfl, zy, zz, zu⟩ hW) (HB.out.trans (hW.mono hz))
      clear yy yz yu zy zz zu
      generalize eqB L[k] M[k] = pk at *
      generalize L[k].has = hs at *
      generalize M[k].has = hsm at *
      generalize (⟨L[k].name.toArray⟩ : ByteArray) = x0 at *
      generalize (⟨M[k].name.toArray⟩ : ByteArray) = x0m at *
      generalize (⟨L[k].tnm.toArray⟩ : ByteArray) = x1 at *
      generalize (⟨M[k].tnm.toArray⟩ : ByteArray) = x1m at *
      have pb := lt_of_cell yq0
      have qb := lt_of_cell zq0
      go_upto_region 7 with fail
      obtain ⟨w2, hw2⟩ : ∃ w2, (wr.alloc (.cells #[.string x0, .string x1, .slice y0 y1 y2, .bool hs, .slice y3 y4 y5, .slice y6 y7 y8] 48 (0, 0))).alloc (.cells #[.string x0m, .string x1m, .slice z0 z1 z2, .bool hsm, .slice z3 z4 z5, .slice z6 z7 z8] 48 (0, 0)) = w2 := ⟨_, rfl⟩
      have HBA : Hid (Below wr.heap.size wr w2) := Lib.hid (by rw [← hw2]; exact ((Below.refl _ _).alloc (Nat.le_refl _) _).alloc (by simp) _)
      have k1 : w2.heap[wr.heap.size]? = some (.cells #[.string x0, .string x1, .slice y0 y1 y2, .bool hs, .slice y3 y4 y5, .slice y6 y7 y8] 48 (0, 0)) := by rw [← hw2]; exact heap_old (heap_new _ _ _ rfl)
      have k2 : w2.heap[wr.heap.size + 1]? = some (.cells #[.string x0m, .string x1m, .slice z0 z1 z2, .bool hsm, .slice z3 z4 z5, .slice z6 z7 z8] 48 (0, 0)) := by rw [← hw2]; exact heap_new _ _ _ (by simp)
      have d0x : w2.cell? ⟨wr.heap.size, 0, none⟩ = some (.string x0) := (Lib.cell_of_heap k1 0).trans rfl
      have d1x : w2.cell? ⟨wr.heap.size, 1, none⟩ = some (.string x1) := (Lib.cell_of_heap k1 1).trans rfl
      have d2x : w2.cell? ⟨wr.heap.size, 2, none⟩ = some (.slice y0 y1 y2) := (Lib.cell_of_heap k1 2).trans rfl
      have d3x : w2.cell? ⟨wr.heap.size, 3, none⟩ = some (.bool hs) := (Lib.cell_of_heap k1 3).trans rfl
      have d4x : w2.cell? ⟨wr.heap.size, 4, none⟩ = some (.slice y3 y4 y5) := (Lib.cell_of_heap k1 4).trans rfl
      have d5x : w2.cell? ⟨wr.heap.size, 5, none⟩ = some (.slice y6 y7 y8) := (Lib.cell_of_heap k1 5).trans rfl
      have d0y : w2.cell? ⟨wr.heap.size + 1, 0, none⟩ = some (.string x0m) := (Lib.cell_of_heap k2 0).trans rfl
      have d1y : w2.cell? ⟨wr.heap.size + 1, 1, none⟩ = some (.string x1m) := (Lib.cell_of_heap k2 1).trans rfl
      have d2y : w2.cell? ⟨wr.heap.size + 1, 2, none⟩ = some (.slice z0 z1 z2) := (Lib.cell_of_heap k2 2).trans rfl
      have d3y : w2.cell? ⟨wr.heap.size + 1, 3, none⟩ = some (.bool hsm) := (Lib.cell_of_heap k2 3).trans rfl
      have d4y : w2.cell? ⟨wr.heap.size + 1, 4, none⟩ = some (.slice z3 z4 z5) := (Lib.cell_of_heap k2 4).trans rfl
      have d5y : w2.cell? ⟨wr.heap.size + 1, 5, none⟩ = some (.slice z6 z7 z8) := (Lib.cell_of_heap k2 5).trans rfl
      try rw [hw2]
      clear hw2 k1 k2
      cases pk with
      | false =>
        rw [Bool.false_and] at hstep
        have HF := Lib.hid hstep
        clear hstep HS
        go_wp2_with fail
        refine (HC.out _ HBA.out).mono ?_; rintro e w1 ⟨rfl, hb⟩
        have HB1 := Lib.hid (HB.out.trans ((HBA.out.trans (hb.mono HBA.out.size)).mono hz))
        clear hb
        go_wp2_with fail
        go_ret
        exact ⟨ret_b HF.out, HB1.out⟩
      | true =>
        rw [Bool.true_and] at hstep
        have HF := Lib.hid hstep
        clear hstep HS
        go_wp2_with fail
        refine (HC.out _ HBA.out).mono ?_; rintro e w1 ⟨rfl, hb⟩
        have HB1 := Lib.hid (HB.out.trans ((HBA.out.trans (hb.mono HBA.out.size)).mono hz))
        clear hb
        go_wp2_with fail
        go_roundw
        case rel => exact ⟨k + 1, by omega, by go_num, HF, HB1⟩
        case measure => simp [intOf]; omega
    · have HF : Hid (true = r) := Lib.hid (by
        have hm : M.length = L.length := HM.out.symm
        rw [← HS.out, List.drop_of_length_le (by omega), List.drop_of_length_le (by omega)]
        exact (eqB_self _).symm)
      clear HS
      go_wp2_with fail
      go_ret
      exact ⟨ret_b HF.out, HB.out⟩
theorem inp_eqf (g : Nat) (lb : Array Value) (eg : ∀ args w, (callFunc g args).run Tryz.prog w = .ok (.enter g args) w) (L M : List (Inp)) (u v : Value) (hl : L.length ≤ 100000) (hm : M.length ≤ 100000) (w : World) (h1 : InpSl u L w) (h2 : InpSl v M w)
    (H : Hid (∀ (W : World) (k : Nat) (hk : k < L.length) (hk' : k < M.length) (u v : Value), InpV u L[k] W → InpV v M[k] W → Below w.heap.size w W → Calls Tryz.prog g (#[u, v] ++ lb) W fun e w' => e = .returned (.bool (eqB L[k] M[k])) ∧ Below W.heap.size W w')) :
    Calls Tryz.prog 24 #[u, v, .func (.func g) #[] lb] w fun e w' => e = .returned (.bool (eqB L M)) ∧ Below w.heap.size w w' := by
  by_cases hlm : L.length = M.length
  · rcases h1 with ⟨a1, c1, rfl, rfl⟩ | ⟨b1, o1, c1, rfl, h1, p1⟩
    · obtain rfl : M = [] := List.eq_nil_of_length_eq_zero hlm.symm
      rw [eqB_self]
      rcases h2 with ⟨a2, c2, rfl, _⟩ | ⟨b2, o2, c2, rfl, h2, p2⟩
      · exact inp_eqf_none g lb a1 a2 c1 c2 w
      · exact inp_eqf_none g lb a1 _ c1 c2 w
    · rcases h2 with ⟨a2, c2, rfl, rfl⟩ | ⟨b2, o2, c2, rfl, h2, p2⟩
      · obtain rfl : L = [] := List.eq_nil_of_length_eq_zero hlm
        rw [eqB_self]
        exact inp_eqf_none g lb _ a2 c1 c2 w
      · rw [← hlm]
        exact inp_eqf_row g lb eg L M b1 o1 c1 b2 o2 c2 hl hlm w h1 h2 H
  · rw [eqB_len hlm]
    rcases h1 with ⟨a1, c1, rfl, rfl⟩ | ⟨b1, o1, c1, rfl, h1, p1⟩
    · rcases h2 with ⟨a2, c2, rfl, rfl⟩ | ⟨b2, o2, c2, rfl, h2, p2⟩
      · exact absurd rfl hlm
      · exact inp_eqf_len g lb a1 _ _ _ 0 _ (by omega) hm hlm w
    · rcases h2 with ⟨a2, c2, rfl, rfl⟩ | ⟨b2, o2, c2, rfl, h2, p2⟩
      · exact inp_eqf_len g lb _ a2 _ _ _ 0 hl (by omega) hlm w
      · exact inp_eqf_len g lb _ _ _ _ _ _ hl hm hlm w
end Go.Proofs.YtbejhdhhkpllfaaGreatDoor
