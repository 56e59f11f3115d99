/- Walks and plain laws of this proof, joined from smaller texts (5). -/
import Derived.Test.YtgclnjogoghhcaaGreatDoorShelf
import Derived.Shelf.Strings.Builder1
import Derived.Lib.OthersKept
import Derived.Deep.LoopGhost
import Derived.Maps.AppendAt
import Derived.Laws.OwnMore
import Derived.Laws.AppendOwnNone
import Derived.Laws.LoneSync
import Derived.Deep.DeepCutAuto
import Derived.RegionCalls
import Derived.Deep.RegionHeld3
import Derived.Test.YtgclnjogoghhcaaGreatDoorRows
import Derived.Below
import Derived.ChangeSame
import Derived.ProofKit
import Derived.Test.YtgclnjogoghhcaaGreatDoorK4
set_option linter.unusedSimpArgs false
set_option linter.unusedVariables false
namespace Go.Proofs.YtgclnjogoghhcaaGreatDoor
open Go.RowKit Go.Lib
def EnvV (p : Nat) (W : World) : Prop := ∀ W', Below p W W' → EnvU W'
theorem EnvV.to {p : Nat} {W W' : World} (h : EnvV p W) (hb : Below p W W') : EnvV p W' := fun W2 h2 => h W2 (hb.trans h2)
theorem EnvV.u {p : Nat} {W : World} (h : EnvV p W) : ∀ W', RK p W W' → EnvU W' := fun W' hk => h W' hk.1
set_option maxRecDepth 100000 in
set_option maxHeartbeats 4000000 in
theorem q_value_text (d p : Nat) (name : ByteArray) (op : Int) (v : Value) (L : List Cel) (l : List UInt8) (W : World) (hl : l.length ≤ 16384) (hv : validD l = true) (h : PS p l v op W) (hown : OwnC (p + 1) v L W) (hL : L.length ≤ 2048) (hE : EnvV p W) (c : UInt8) (rest : List UInt8) (hb : blJ l = c :: rest) (hbg : begJ c = true) (hf : L.length ≠ 2048) (hc : c = UInt8.ofNat 34) (s t : List UInt8) (ht : strJ (c :: rest) = some (s, t)) :
    Calls Tryz.prog 85 #[.pointer (some ⟨p, 0, none⟩), .string name] W (VPE p W v op (valJ d name.data.toList l L)) := by
  have HV0 : Hid (VP p W v v L l op W) := Lib.hid ⟨h, hown, VK.refl _ _ _, fun k hk => Or.inl hk⟩
  have HBL := Lib.hid (fun (W : World) (hW : PS p l v op W) => p_blanks p l v op W hW)
  have HNO : Hid (∀ (e : Int) W, Calls Tryz.prog 87 #[.int .i64 e] W fun x w' => x = .panicked (stopL e) ∧ W = w') := Lib.hid fun e W => p_no e W
  have HEE := Lib.hid hE
  have hvl : ∃ a n c, v = .slice a n c ∧ n = L.length := by
    rcases HV0.out.own.2 with ⟨h1, h2⟩ | ⟨g, cap, cur, h1, _⟩
    · exact ⟨none, 0, 0, h1, h2.symm⟩
    · exact ⟨_, _, _, h1, rfl⟩
  obtain ⟨av, nv, cv, rfl, hnv⟩ := hvl
  have HNV := Lib.hid hnv
  have hnv8 : nv ≤ 2048 := by omega
  have hL2 : nv ≤ 2047 := by omega
  have hL3 : L.length ≤ 2047 := by omega
  have tf : ((nv : Int) == 2048) = false := by rw [beq_eq_false_iff_ne]; omega
  have hcr : (c :: rest).length ≤ 16384 := by rw [← hb]; exact Nat.le_trans (cut_bl l).1 hl
  have hcv : validD (c :: rest) = true := by rw [← hb]; exact (cut_bl l).2 hv
  have hcc : (c.toNat : Int) = 34 := by rw [hc]; rfl
  have HZ : Hid (valJ d name.data.toList l L = .ok (t, L ++ [⟨3, name.data.toList, s, 0, 0⟩])) := Lib.hid (by
    rw [valJ_leaf d _ l L c rest hb hf hbg (by rw [hc]; decide)]
    unfold leafJ
    rw [if_pos (by rw [hc]; decide), ht])
  have HM := Lib.hid (fun (u : Value) (W : World) (hW : PS p (c :: rest) u op W) (hE : ∀ W', RK p W W' → EnvU W') => text_ok hcr hcv ht W hW hE)
  rw [hb] at HBL
  clear h hv hown hE hb hnv hf hc ht
  go_enter Tryz.func85, Tryz.ntmps85
  go_wp2_with fail
  refine (HBL.out _ HV0.out.st).mono ?_; rintro x w1 ⟨rfl, hst, hk⟩
  have HV1 := Lib.hid (HV0.out.rk hst hk)
  obtain ⟨b, hbl, hr⟩ := hst
  obtain ⟨c0, c1, c2⟩ := hr.cells
  obtain ⟨hb1, hb2, hb3, hb4, -⟩ := tl_cons hbl
  have h00 : b[0]'hb4 = c := at_zero hbl hb4
  obtain ⟨k, hkk⟩ : ∃ k, Lib.indexByte [123, 91, 34, 116, 102, 110, 45, 48, 49, 50, 51, 52, 53, 54, 55, 56, 57] c = k := ⟨_, rfl⟩
  have tk := beg_ix c
  rw [hkk, hbg] at tk
  simp only [Bool.not_true, Bool.not_false] at tk
  have HX1 : Hid (∀ W, Calls Tryz.prog 21 #[.string ⟨#[123, 91, 34, 116, 102, 110, 45, 48, 49, 50, 51, 52, 53, 54, 55, 56, 57]⟩, .int .u8 ((b[0]'hb4).toNat : Int)] W fun x w' => x = .returned (.int .i64 k) ∧ W = w') := Lib.hid fun W => by
    have := ix_any ⟨#[123, 91, 34, 116, 102, 110, 45, 48, 49, 50, 51, 52, 53, 54, 55, 56, 57]⟩ c W
    rw [show (⟨#[123, 91, 34, 116, 102, 110, 45, 48, 49, 50, 51, 52, 53, 54, 55, 56, 57]⟩ : ByteArray).data.toList = [123, 91, 34, 116, 102, 110, 45, 48, 49, 50, 51, 52, 53, 54, 55, 56, 57] from rfl, hkk] at this
    rw [h00]; exact this
  clear hk hr hbl h00 hkk
  go_wp2_with fail
  refine (HX1.out _).mono ?_; rintro x w2 ⟨rfl, rfl⟩
  have HVA : Hid (VP p W (.slice av nv cv) (.slice av nv cv) L (c :: rest) op (World.alloc w1 (.cells #[.int .u8 0, .string name, .string ⟨#[]⟩, .int .i64 0, .int .i64 0] 124))) := Lib.hid (HV1.out.alloc _)
  have hszp := HVA.out.st.lt
  go_wp2_with (at_builtin; refine wpList_pushC rfl _ _ rfl (p + 1) (.slice av nv cv) L rfl HVA.out.own _ 1 name.data.toList rfl (heap_alloc_new _ _) ?c1 ?c2 ?_)
  case c1 => omega
  case c2 => exact hszp
  intro v5 w4 hown' hgrow hat
  obtain ⟨hst4, hv5⟩ := HVA.out.grown hown' hgrow hat (by simp)
  obtain ⟨w5, hw5⟩ : ∃ w5, (w4.setCell ⟨p, 1, none⟩ v5) = w5 := ⟨_, rfl⟩
  have HW5 := Lib.hid hw5
  rw [hw5] at hv5
  have HV5 := Lib.hid hv5
  obtain ⟨c14, c24, f14, f24⟩ := hst4.c12
  clear hown' hgrow hat hst4 hv5 HVA hszp hw5 c0 c1 c2
  have hkl : nv < (L ++ [(⟨0, name.data.toList, [], 0, 0⟩ : Cel)]).length := by rw [HNV.out]; simp
  obtain ⟨n5, hn5⟩ : ∃ n5, (L ++ [(⟨0, name.data.toList, [], 0, 0⟩ : Cel)]).length = n5 := ⟨_, rfl⟩
  have hk5 : n5 = nv + 1 := by rw [← hn5, HNV.out]; simp
  obtain ⟨g, cap, hvg, hBg, hgl, -⟩ := HV5.out.own.form nv hkl
  rw [hn5] at hvg
  subst hvg
  obtain ⟨c15, c25, f15, f25⟩ := HV5.out.st.c12
  have hpg : p < g := by omega
  have q1 : (n5 : Int) - 1 = (nv : Int) := by omega
  have q2 : IntKind.i64.wrap (nv : Int) = (nv : Int) := IntWalk.i64_in _ (by omega)
  have q3 : (0 : Int) ≤ (nv : Int) := by omega
  have q4 : (nv : Int) < (n5 : Int) := by omega
  have q5 : (nv : Int).toNat = nv := by omega
  clear hn5 hk5
  go_wp2_with fail
  try rw [HW5.out]
  refine wp_region_held_drew (S := fun W => W.cell? ⟨p, 1, none⟩ = some (.slice (some ⟨g, 0, none⟩) n5 cap)) (by kernel_rfl) (c15) (fun hHeld => ?_)
  refine tky 0 (some 40) (v := ?_) rfl (by kernel_rfl) (by kernel_rfl) (by kernel_rfl) (fun _ _ _ h => h) ?_ hHeld ?_
  rotate_left
  focus (intro w hSw; (try dsimp only at hSw); go_simp; (try with_reducible rfl); done)
  simp only [Act.put, List.setIfInBounds_toArray, List.set_cons_zero, List.set_cons_succ]
  refine tky 1 (some 41) (v := ?_) rfl (by kernel_rfl) (by kernel_rfl) (by kernel_rfl) (fun _ _ _ h => h) ?_ hHeld ?_
  rotate_left
  focus (intro w hSw; (try dsimp only at hSw); go_simp; (try with_reducible rfl); done)
  simp only [Act.put, List.setIfInBounds_toArray, List.set_cons_zero, List.set_cons_succ]
  refine tky 2 (some 42) (v := ?_) rfl (by kernel_rfl) (by kernel_rfl) (by kernel_rfl) (fun _ _ _ h => h) ?_ hHeld ?_
  rotate_left
  focus (intro w hSw; (try dsimp only at hSw); go_simp; (try with_reducible rfl); done)
  simp only [Act.put, List.setIfInBounds_toArray, List.set_cons_zero, List.set_cons_succ]
  refine tky 3 (some 43) (v := ?_) rfl (by kernel_rfl) (by kernel_rfl) (by kernel_rfl) (fun _ _ _ h => h) ?_ hHeld ?_
  rotate_left
  focus (intro w hSw; (try dsimp only at hSw); go_simp; (try with_reducible rfl); done)
  simp only [Act.put, List.setIfInBounds_toArray, List.set_cons_zero, List.set_cons_succ]
  refine tky 4 (some 44) (v := ?_) rfl (by kernel_rfl) (by kernel_rfl) (by kernel_rfl) (fun _ _ _ h => h) ?_ hHeld ?_
  rotate_left
  focus (intro w hSw; (try dsimp only at hSw); go_simp; (try with_reducible rfl); done)
  simp only [Act.put, List.setIfInBounds_toArray, List.set_cons_zero, List.set_cons_succ]
  refine tky 5 (some 45) (v := ?_) rfl (by kernel_rfl) (by kernel_rfl) (by kernel_rfl) (fun _ _ _ h => h) ?_ hHeld ?_
  rotate_left
  focus (intro w hSw; (try dsimp only at hSw); go_simp; (try with_reducible rfl); done)
  simp only [Act.put, List.setIfInBounds_toArray, List.set_cons_zero, List.set_cons_succ]
  refine tky 6 (some 46) (v := ?_) rfl (by kernel_rfl) (by kernel_rfl) (by kernel_rfl) (fun _ _ _ h => h) ?_ hHeld ?_
  rotate_left
  focus (intro w hSw; (try dsimp only at hSw); go_simp; (try with_reducible rfl); done)
  simp only [Act.put, List.setIfInBounds_toArray, List.set_cons_zero, List.set_cons_succ]
  refine tky 7 (some 47) (v := ?_) rfl (by kernel_rfl) (by kernel_rfl) (by kernel_rfl) (fun _ _ _ h => h) ?_ hHeld ?_
  rotate_left
  focus (intro w hSw; (try dsimp only at hSw); go_simp; (try with_reducible rfl); done)
  simp only [Act.put, List.setIfInBounds_toArray, List.set_cons_zero, List.set_cons_succ]
  refine tky 8 (some 48) (v := ?_) rfl (by kernel_rfl) (by kernel_rfl) (by kernel_rfl) (fun _ _ _ h => h) ?_ hHeld ?_
  rotate_left
  focus (intro w hSw; (try dsimp only at hSw); go_simp; (try with_reducible rfl); done)
  simp only [Act.put, List.setIfInBounds_toArray, List.set_cons_zero, List.set_cons_succ]
  refine tky 9 (some 49) (v := ?_) rfl (by kernel_rfl) (by kernel_rfl) (by kernel_rfl) (fun _ _ _ h => h) ?_ hHeld ?_
  rotate_left
  focus (intro w hSw; (try dsimp only at hSw); go_simp; (try with_reducible rfl); done)
  simp only [Act.put, List.setIfInBounds_toArray, List.set_cons_zero, List.set_cons_succ]
  refine tky 10 (some 50) (v := ?_) rfl (by kernel_rfl) (by kernel_rfl) (by kernel_rfl) (fun _ _ _ h => h) ?_ hHeld ?_
  rotate_left
  focus (intro w hSw; (try dsimp only at hSw); go_simp; (try with_reducible rfl); done)
  simp only [Act.put, List.setIfInBounds_toArray, List.set_cons_zero, List.set_cons_succ]
  refine tky 11 (some 4) (v := ?_) rfl (by kernel_rfl) (by kernel_rfl) (by kernel_rfl) (fun _ _ _ h => h) ?_ hHeld ?_
  rotate_left
  focus (intro w hSw; (try dsimp only at hSw); go_simp; (try with_reducible rfl); done)
  simp only [Act.put, List.setIfInBounds_toArray, List.set_cons_zero, List.set_cons_succ]
  refine wpAnyH_done (by kernel_rfl) ?_ _
  obtain ⟨w6, hw6⟩ : ∃ w6, w5.drew = w6 := ⟨_, rfl⟩
  have HV6 : Hid (VP p W (.slice av nv cv) (.slice (some ⟨g, 0, none⟩) n5 cap) (L ++ [⟨0, name.data.toList, [], 0, 0⟩]) (c :: rest) op w6) := Lib.hid (by rw [← hw6]; exact HV5.out.below ⟨rfl, rfl, rfl, Nat.le_refl _, fun _ _ => rfl⟩)
  rw [hw6]
  obtain ⟨b6, hb6l, hr6⟩ := HV6.out.st
  have HR6 := Lib.hid hr6
  have HB6 := Lib.hid hb6l
  obtain ⟨d0, d1, d2⟩ := hr6.cells
  have e0 := hr6.frozen 0
  obtain ⟨y1, y2, y3, y4, -⟩ := tl_cons hb6l
  have h06 : b6[0]'y4 = c := at_zero hb6l y4
  obtain ⟨hfz, ck0, ck2, ck3⟩ := HV6.out.own.at_ rfl nv hkl
  have hfz0 := hfz (nv * 5)
  have hfz2 := hfz (nv * 5 + 2)
  have hfz3 := hfz (nv * 5 + 3)
  obtain ⟨z0, hz0⟩ : ∃ z : Int, (((L ++ [(⟨0, name.data.toList, [], 0, 0⟩ : Cel)])[nv]'hkl).kind.toNat : Int) = z := ⟨_, rfl⟩
  rw [hz0] at ck0
  clear hw6 hr6 hfz hz0 c14 c24 f14 f24 c15 c25 f15 f25 q1 q2 q3 q4 q5 HW5
  have t06 : ((b6[0]'y4).toNat : Int) = (c.toNat : Int) := by rw [h06]
  rw [hcc] at t06
  clear h06 hb6l hHeld
  go_wp2_with fail
  have HV7 : Hid (VP p W (.slice av nv cv) (.slice (some ⟨g, 0, none⟩) n5 cap) ((((L ++ [(⟨0, name.data.toList, [], 0, 0⟩ : Cel)])).modify nv fun c => { c with kind := 3 })) (c :: rest) op (w6.setCell ⟨g, nv * 5, none⟩ (.int .u8 3))) := Lib.hid (HV6.out.set rfl hpg (by rw [List.length_modify]) (by exact celFlat_set0 _ _ 3))
  refine (HM.out _ _ HV7.out.st (HEE.out.to HV7.out.vk.1).u).mono ?_; rintro x w8 ⟨rfl, hst, hk⟩
  have HV8 := Lib.hid (HV7.out.rk hst hk)
  clear hst hk d0 d1 d2 e0 ck0 ck2 ck3 hfz0 hfz2 hfz3
  have hkl2 : nv < ((((L ++ [(⟨0, name.data.toList, [], 0, 0⟩ : Cel)])).modify nv fun c => { c with kind := 3 })).length := by rw [List.length_modify]; exact hkl
  obtain ⟨hfz, ck0, ck2, ck3⟩ := HV8.out.own.at_ rfl nv hkl2
  have hfz2 := hfz (nv * 5 + 2)
  obtain ⟨z2, hz2⟩ : ∃ z, Value.string ⟨(((((L ++ [(⟨0, name.data.toList, [], 0, 0⟩ : Cel)])).modify nv fun c => { c with kind := 3 }))[nv]'hkl2).text.toArray⟩ = z := ⟨_, rfl⟩
  rw [hz2] at ck2
  clear ck0 ck3 hfz hz2
  have HV9 : Hid (VP p W (.slice av nv cv) (.slice (some ⟨g, 0, none⟩) n5 cap) ((((((L ++ [(⟨0, name.data.toList, [], 0, 0⟩ : Cel)])).modify nv fun c => { c with kind := 3 })).modify nv fun c => { c with text := s })) t op (w8.setCell ⟨g, nv * 5 + 2, none⟩ (.string ⟨s.toArray⟩))) := Lib.hid (HV8.out.set rfl hpg (by rw [List.length_modify]) (by exact celFlat_set2 _ _ s))
  have HOUT : Hid ((((((L ++ [(⟨0, name.data.toList, [], 0, 0⟩ : Cel)])).modify nv fun c => { c with kind := 3 })).modify nv fun c => { c with text := s }) = L ++ [⟨3, name.data.toList, s, 0, 0⟩]) := Lib.hid (by
    have hnl := HNV.out
    rw [modify_end' _ _ _ _ hnl, modify_end' _ _ _ _ hnl])
  go_wp2_with fail
  go_end0
  rw [HZ.out]
  rw [HOUT.out] at HV9
  exact ⟨rfl, by simp; omega, _, HV9.out⟩
set_option maxRecDepth 100000 in
set_option maxHeartbeats 4000000 in
theorem q_value_text_no (d p : Nat) (name : ByteArray) (op : Int) (v : Value) (L : List Cel) (l : List UInt8) (W : World) (hl : l.length ≤ 16384) (hv : validD l = true) (h : PS p l v op W) (hown : OwnC (p + 1) v L W) (hL : L.length ≤ 2048) (hE : EnvV p W) (c : UInt8) (rest : List UInt8) (hb : blJ l = c :: rest) (hbg : begJ c = true) (hf : L.length ≠ 2048) (hc : c = UInt8.ofNat 34) (ht : strJ (c :: rest) = none) :
    Calls Tryz.prog 85 #[.pointer (some ⟨p, 0, none⟩), .string name] W (VPE p W v op (valJ d name.data.toList l L)) := by
  have HV0 : Hid (VP p W v v L l op W) := Lib.hid ⟨h, hown, VK.refl _ _ _, fun k hk => Or.inl hk⟩
  have HBL := Lib.hid (fun (W : World) (hW : PS p l v op W) => p_blanks p l v op W hW)
  have HNO : Hid (∀ (e : Int) W, Calls Tryz.prog 87 #[.int .i64 e] W fun x w' => x = .panicked (stopL e) ∧ W = w') := Lib.hid fun e W => p_no e W
  have HEE := Lib.hid hE
  have hvl : ∃ a n c, v = .slice a n c ∧ n = L.length := by
    rcases HV0.out.own.2 with ⟨h1, h2⟩ | ⟨g, cap, cur, h1, _⟩
    · exact ⟨none, 0, 0, h1, h2.symm⟩
    · exact ⟨_, _, _, h1, rfl⟩
  obtain ⟨av, nv, cv, rfl, hnv⟩ := hvl
  have HNV := Lib.hid hnv
  have hnv8 : nv ≤ 2048 := by omega
  have hL2 : nv ≤ 2047 := by omega
  have hL3 : L.length ≤ 2047 := by omega
  have tf : ((nv : Int) == 2048) = false := by rw [beq_eq_false_iff_ne]; omega
  have hcr : (c :: rest).length ≤ 16384 := by rw [← hb]; exact Nat.le_trans (cut_bl l).1 hl
  have hcv : validD (c :: rest) = true := by rw [← hb]; exact (cut_bl l).2 hv
  have hcc : (c.toNat : Int) = 34 := by rw [hc]; rfl
  have HZ : Hid (valJ d name.data.toList l L = .error 40) := Lib.hid (by
    rw [valJ_leaf d _ l L c rest hb hf hbg (by rw [hc]; decide)]
    unfold leafJ
    rw [if_pos (by rw [hc]; decide), ht])
  have HM := Lib.hid (fun (u : Value) (W : World) (hW : PS p (c :: rest) u op W) (hE : ∀ W', RK p W W' → EnvU W') => text_no hcr hcv ht W hW hE)
  rw [hb] at HBL
  clear h hv hown hE hb hnv hf hc ht
  go_enter Tryz.func85, Tryz.ntmps85
  go_wp2_with fail
  refine (HBL.out _ HV0.out.st).mono ?_; rintro x w1 ⟨rfl, hst, hk⟩
  have HV1 := Lib.hid (HV0.out.rk hst hk)
  obtain ⟨b, hbl, hr⟩ := hst
  obtain ⟨c0, c1, c2⟩ := hr.cells
  obtain ⟨hb1, hb2, hb3, hb4, -⟩ := tl_cons hbl
  have h00 : b[0]'hb4 = c := at_zero hbl hb4
  obtain ⟨k, hkk⟩ : ∃ k, Lib.indexByte [123, 91, 34, 116, 102, 110, 45, 48, 49, 50, 51, 52, 53, 54, 55, 56, 57] c = k := ⟨_, rfl⟩
  have tk := beg_ix c
  rw [hkk, hbg] at tk
  simp only [Bool.not_true, Bool.not_false] at tk
  have HX1 : Hid (∀ W, Calls Tryz.prog 21 #[.string ⟨#[123, 91, 34, 116, 102, 110, 45, 48, 49, 50, 51, 52, 53, 54, 55, 56, 57]⟩, .int .u8 ((b[0]'hb4).toNat : Int)] W fun x w' => x = .returned (.int .i64 k) ∧ W = w') := Lib.hid fun W => by
    have := ix_any ⟨#[123, 91, 34, 116, 102, 110, 45, 48, 49, 50, 51, 52, 53, 54, 55, 56, 57]⟩ c W
    rw [show (⟨#[123, 91, 34, 116, 102, 110, 45, 48, 49, 50, 51, 52, 53, 54, 55, 56, 57]⟩ : ByteArray).data.toList = [123, 91, 34, 116, 102, 110, 45, 48, 49, 50, 51, 52, 53, 54, 55, 56, 57] from rfl, hkk] at this
    rw [h00]; exact this
  clear hk hr hbl h00 hkk
  go_wp2_with fail
  refine (HX1.out _).mono ?_; rintro x w2 ⟨rfl, rfl⟩
  have HVA : Hid (VP p W (.slice av nv cv) (.slice av nv cv) L (c :: rest) op (World.alloc w1 (.cells #[.int .u8 0, .string name, .string ⟨#[]⟩, .int .i64 0, .int .i64 0] 124))) := Lib.hid (HV1.out.alloc _)
  have hszp := HVA.out.st.lt
  go_wp2_with (at_builtin; refine wpList_pushC rfl _ _ rfl (p + 1) (.slice av nv cv) L rfl HVA.out.own _ 1 name.data.toList rfl (heap_alloc_new _ _) ?c1 ?c2 ?_)
  case c1 => omega
  case c2 => exact hszp
  intro v5 w4 hown' hgrow hat
  obtain ⟨hst4, hv5⟩ := HVA.out.grown hown' hgrow hat (by simp)
  obtain ⟨w5, hw5⟩ : ∃ w5, (w4.setCell ⟨p, 1, none⟩ v5) = w5 := ⟨_, rfl⟩
  have HW5 := Lib.hid hw5
  rw [hw5] at hv5
  have HV5 := Lib.hid hv5
  obtain ⟨c14, c24, f14, f24⟩ := hst4.c12
  clear hown' hgrow hat hst4 hv5 HVA hszp hw5 c0 c1 c2
  have hkl : nv < (L ++ [(⟨0, name.data.toList, [], 0, 0⟩ : Cel)]).length := by rw [HNV.out]; simp
  obtain ⟨n5, hn5⟩ : ∃ n5, (L ++ [(⟨0, name.data.toList, [], 0, 0⟩ : Cel)]).length = n5 := ⟨_, rfl⟩
  have hk5 : n5 = nv + 1 := by rw [← hn5, HNV.out]; simp
  obtain ⟨g, cap, hvg, hBg, hgl, -⟩ := HV5.out.own.form nv hkl
  rw [hn5] at hvg
  subst hvg
  obtain ⟨c15, c25, f15, f25⟩ := HV5.out.st.c12
  have hpg : p < g := by omega
  have q1 : (n5 : Int) - 1 = (nv : Int) := by omega
  have q2 : IntKind.i64.wrap (nv : Int) = (nv : Int) := IntWalk.i64_in _ (by omega)
  have q3 : (0 : Int) ≤ (nv : Int) := by omega
  have q4 : (nv : Int) < (n5 : Int) := by omega
  have q5 : (nv : Int).toNat = nv := by omega
  clear hn5 hk5
  go_wp2_with fail
  try rw [HW5.out]
  refine wp_region_held_drew (S := fun W => W.cell? ⟨p, 1, none⟩ = some (.slice (some ⟨g, 0, none⟩) n5 cap)) (by kernel_rfl) (c15) (fun hHeld => ?_)
  refine tky 0 (some 40) (v := ?_) rfl (by kernel_rfl) (by kernel_rfl) (by kernel_rfl) (fun _ _ _ h => h) ?_ hHeld ?_
  rotate_left
  focus (intro w hSw; (try dsimp only at hSw); go_simp; (try with_reducible rfl); done)
  simp only [Act.put, List.setIfInBounds_toArray, List.set_cons_zero, List.set_cons_succ]
  refine tky 1 (some 41) (v := ?_) rfl (by kernel_rfl) (by kernel_rfl) (by kernel_rfl) (fun _ _ _ h => h) ?_ hHeld ?_
  rotate_left
  focus (intro w hSw; (try dsimp only at hSw); go_simp; (try with_reducible rfl); done)
  simp only [Act.put, List.setIfInBounds_toArray, List.set_cons_zero, List.set_cons_succ]
  refine tky 2 (some 42) (v := ?_) rfl (by kernel_rfl) (by kernel_rfl) (by kernel_rfl) (fun _ _ _ h => h) ?_ hHeld ?_
  rotate_left
  focus (intro w hSw; (try dsimp only at hSw); go_simp; (try with_reducible rfl); done)
  simp only [Act.put, List.setIfInBounds_toArray, List.set_cons_zero, List.set_cons_succ]
  refine tky 3 (some 43) (v := ?_) rfl (by kernel_rfl) (by kernel_rfl) (by kernel_rfl) (fun _ _ _ h => h) ?_ hHeld ?_
  rotate_left
  focus (intro w hSw; (try dsimp only at hSw); go_simp; (try with_reducible rfl); done)
  simp only [Act.put, List.setIfInBounds_toArray, List.set_cons_zero, List.set_cons_succ]
  refine tky 4 (some 44) (v := ?_) rfl (by kernel_rfl) (by kernel_rfl) (by kernel_rfl) (fun _ _ _ h => h) ?_ hHeld ?_
  rotate_left
  focus (intro w hSw; (try dsimp only at hSw); go_simp; (try with_reducible rfl); done)
  simp only [Act.put, List.setIfInBounds_toArray, List.set_cons_zero, List.set_cons_succ]
  refine tky 5 (some 45) (v := ?_) rfl (by kernel_rfl) (by kernel_rfl) (by kernel_rfl) (fun _ _ _ h => h) ?_ hHeld ?_
  rotate_left
  focus (intro w hSw; (try dsimp only at hSw); go_simp; (try with_reducible rfl); done)
  simp only [Act.put, List.setIfInBounds_toArray, List.set_cons_zero, List.set_cons_succ]
  refine tky 6 (some 46) (v := ?_) rfl (by kernel_rfl) (by kernel_rfl) (by kernel_rfl) (fun _ _ _ h => h) ?_ hHeld ?_
  rotate_left
  focus (intro w hSw; (try dsimp only at hSw); go_simp; (try with_reducible rfl); done)
  simp only [Act.put, List.setIfInBounds_toArray, List.set_cons_zero, List.set_cons_succ]
  refine tky 7 (some 47) (v := ?_) rfl (by kernel_rfl) (by kernel_rfl) (by kernel_rfl) (fun _ _ _ h => h) ?_ hHeld ?_
  rotate_left
  focus (intro w hSw; (try dsimp only at hSw); go_simp; (try with_reducible rfl); done)
  simp only [Act.put, List.setIfInBounds_toArray, List.set_cons_zero, List.set_cons_succ]
  refine tky 8 (some 48) (v := ?_) rfl (by kernel_rfl) (by kernel_rfl) (by kernel_rfl) (fun _ _ _ h => h) ?_ hHeld ?_
  rotate_left
  focus (intro w hSw; (try dsimp only at hSw); go_simp; (try with_reducible rfl); done)
  simp only [Act.put, List.setIfInBounds_toArray, List.set_cons_zero, List.set_cons_succ]
  refine tky 9 (some 49) (v := ?_) rfl (by kernel_rfl) (by kernel_rfl) (by kernel_rfl) (fun _ _ _ h => h) ?_ hHeld ?_
  rotate_left
  focus (intro w hSw; (try dsimp only at hSw); go_simp; (try with_reducible rfl); done)
  simp only [Act.put, List.setIfInBounds_toArray, List.set_cons_zero, List.set_cons_succ]
  refine tky 10 (some 50) (v := ?_) rfl (by kernel_rfl) (by kernel_rfl) (by kernel_rfl) (fun _ _ _ h => h) ?_ hHeld ?_
  rotate_left
  focus (intro w hSw; (try dsimp only at hSw); go_simp; (try with_reducible rfl); done)
  simp only [Act.put, List.setIfInBounds_toArray, List.set_cons_zero, List.set_cons_succ]
  refine tky 11 (some 4) (v := ?_) rfl (by kernel_rfl) (by kernel_rfl) (by kernel_rfl) (fun _ _ _ h => h) ?_ hHeld ?_
  rotate_left
  focus (intro w hSw; (try dsimp only at hSw); go_simp; (try with_reducible rfl); done)
  simp only [Act.put, List.setIfInBounds_toArray, List.set_cons_zero, List.set_cons_succ]
  refine wpAnyH_done (by kernel_rfl) ?_ _
  obtain ⟨w6, hw6⟩ : ∃ w6, w5.drew = w6 := ⟨_, rfl⟩
  have HV6 : Hid (VP p W (.slice av nv cv) (.slice (some ⟨g, 0, none⟩) n5 cap) (L ++ [⟨0, name.data.toList, [], 0, 0⟩]) (c :: rest) op w6) := Lib.hid (by rw [← hw6]; exact HV5.out.below ⟨rfl, rfl, rfl, Nat.le_refl _, fun _ _ => rfl⟩)
  rw [hw6]
  obtain ⟨b6, hb6l, hr6⟩ := HV6.out.st
  have HR6 := Lib.hid hr6
  have HB6 := Lib.hid hb6l
  obtain ⟨d0, d1, d2⟩ := hr6.cells
  have e0 := hr6.frozen 0
  obtain ⟨y1, y2, y3, y4, -⟩ := tl_cons hb6l
  have h06 : b6[0]'y4 = c := at_zero hb6l y4
  obtain ⟨hfz, ck0, ck2, ck3⟩ := HV6.out.own.at_ rfl nv hkl
  have hfz0 := hfz (nv * 5)
  have hfz2 := hfz (nv * 5 + 2)
  have hfz3 := hfz (nv * 5 + 3)
  obtain ⟨z0, hz0⟩ : ∃ z : Int, (((L ++ [(⟨0, name.data.toList, [], 0, 0⟩ : Cel)])[nv]'hkl).kind.toNat : Int) = z := ⟨_, rfl⟩
  rw [hz0] at ck0
  clear hw6 hr6 hfz hz0 c14 c24 f14 f24 c15 c25 f15 f25 q1 q2 q3 q4 q5 HW5
  have t06 : ((b6[0]'y4).toNat : Int) = (c.toNat : Int) := by rw [h06]
  rw [hcc] at t06
  clear h06 hb6l hHeld
  go_wp2_with fail
  have HV7 : Hid (VP p W (.slice av nv cv) (.slice (some ⟨g, 0, none⟩) n5 cap) ((((L ++ [(⟨0, name.data.toList, [], 0, 0⟩ : Cel)])).modify nv fun c => { c with kind := 3 })) (c :: rest) op (w6.setCell ⟨g, nv * 5, none⟩ (.int .u8 3))) := Lib.hid (HV6.out.set rfl hpg (by rw [List.length_modify]) (by exact celFlat_set0 _ _ 3))
  refine (HM.out _ _ HV7.out.st (HEE.out.to HV7.out.vk.1).u).mono ?_; rintro x w8 ⟨rfl, hb⟩
  have HB8 := Lib.hid (HV7.out.vk.1.trans hb)
  clear hb
  go_wp2_with fail
  refine ⟨rfl, ?_⟩
  rw [HZ.out]
  exact ⟨rfl, HB8.out⟩
theorem q_value (d p : Nat) (name : ByteArray) (op : Int) (v : Value) (L : List Cel) (l : List UInt8) (W : World) (hl : l.length ≤ 16384) (hv : validD l = true) (h : PS p l v op W) (hown : OwnC (p + 1) v L W) (hL : L.length ≤ 2048) (hE : EnvV p W) (hf : L.length ≠ 2048) (r : List UInt8) (hq : l = 34 :: r) :
    Calls Tryz.prog 85 #[.pointer (some ⟨p, 0, none⟩), .string name] W (VPE p W v op (valJ d name.data.toList l L)) := by
  have hb : blJ l = 34 :: r := by rw [hq]; rfl
  cases ht : strJ (34 :: r) with
  | none => exact q_value_text_no d p name op v L l W hl hv h hown hL hE 34 r hb rfl hf rfl ht
  | some st => exact q_value_text d p name op v L l W hl hv h hown hL hE 34 r hb rfl hf rfl st.1 st.2 ht
set_option maxRecDepth 100000 in
theorem qread_go (s : ByteArray) (hs : s.size ≤ 17000) (hc : chkE s.data.toList = 0) (w : World) (hE : EnvU w) (r : List UInt8) (hq : s.data.toList = 34 :: r) :
    Calls Tryz.prog 83 #[.string s] w fun x w' => PReadE (w.heap.size + 1) (rdJ s.data.toList) x w' ∧ Below w.heap.size w w' := by
  have HC := Lib.hid (fun (W : World) (h : Below w.heap.size w W) => tcheck_any s (by omega) W (hE.below h))
  obtain ⟨hl16, hvd⟩ := chk_valid _ hc
  have HRJ : Hid (rdJ s.data.toList = readJ s.data.toList) := Lib.hid (by unfold rdJ; rw [if_pos hc])
  rw [hc] at HC
  have HEB : Hid (∀ p W, w.heap.size ≤ p → Below w.heap.size w W → EnvV p W) := Lib.hid fun p W hp hW W' hW' => hE.below (hW.trans (hW'.mono hp))
  have hmf : ∀ (fn : Fn) (first cap : Array Value) (w : World), (Instr.makeFunc fn first cap).run Tryz.prog w = .ok (.func fn first cap) w := fun _ _ _ _ => rfl
  rw [HRJ.out]
  obtain ⟨R, hR⟩ : ∃ R, readJ s.data.toList = R := ⟨_, rfl⟩
  have HR := Lib.hid hR
  rw [hR]
  clear hE hc hR
  go_enter_defers Tryz.func83, Tryz.ntmps83
  go_wp2_with fail
  obtain ⟨w0, hw0⟩ : ∃ w0, ((w.alloc (.cells #[.slice none 0 0] 120)).alloc (.cells #[.int .i64 0] 23)) = w0 := ⟨_, rfl⟩
  have hb0 : Below w.heap.size w w0 := by rw [← hw0]; exact ((Below.refl _ _).alloc (Nat.le_refl _) _).alloc (by simp) _
  have hz0 : w0.heap.size = w.heap.size + 2 := by rw [← hw0]; simp
  have ha0 : w0.heap[w.heap.size]? = some (.cells #[.slice none 0 0] 120 (0, 0)) := by rw [← hw0]; exact heap_old (heap_new _ _ _ rfl)
  have ha1 : w0.heap[w.heap.size + 1]? = some (.cells #[.int .i64 0] 23 (0, 0)) := by rw [← hw0]; exact heap_new _ _ _ (by simp)
  rw [hw0]
  refine (HC.out _ hb0).mono ?_; rintro x w1 ⟨rfl, hb⟩
  have HB1 : Hid (Below w.heap.size w w1) := Lib.hid (hb0.trans (hb.mono (by omega)))
  have HA0 : Hid (w1.heap[w.heap.size]? = some (.cells #[.slice none 0 0] 120 (0, 0))) := Lib.hid ((hb.block _ (by omega)).trans ha0)
  have HA1 : Hid (w1.heap[w.heap.size + 1]? = some (.cells #[.int .i64 0] 23 (0, 0))) := Lib.hid ((hb.block _ (by omega)).trans ha1)
  clear hb0 hb ha0 ha1 hw0 hz0
  have d0 : w1.cell? ⟨w.heap.size, 0, none⟩ = some (.slice none 0 0) := Lib.cell_of_heap HA0.out 0
  have d1 : w1.cell? ⟨w.heap.size + 1, 0, none⟩ = some (.int .i64 0) := Lib.cell_of_heap HA1.out 0
  have z0 : w1.frozen? ⟨w.heap.size, 0, none⟩ = false := Lib.frozen_of_heap HA0.out 0
  have z1 : w1.frozen? ⟨w.heap.size + 1, 0, none⟩ = false := Lib.frozen_of_heap HA1.out 0
  have hlt : w.heap.size + 1 < w1.heap.size := heap_lt HA1.out
  have HPS : Hid (PS w1.heap.size s.data.toList (.slice none 0 0) 0 (w1.alloc (.cells #[.string s, .slice none 0 0, .int .i64 0] 129))) := Lib.hid ⟨s, rfl, heap_alloc_new _ _⟩
  obtain ⟨p, hp⟩ : ∃ p, w1.heap.size = p := ⟨_, rfl⟩
  obtain ⟨w2, hw2⟩ : ∃ w2, w1.alloc (.cells #[.string s, .slice none 0 0, .int .i64 0] 129) = w2 := ⟨_, rfl⟩
  have hb2 : Below p w1 w2 := by rw [← hw2, ← hp]; exact (Below.refl _ _).alloc (Nat.le_refl _) _
  rw [hp, hw2] at HPS
  rw [hp] at hlt
  have HB2 : Hid (Below w.heap.size w w2) := Lib.hid (HB1.out.trans (hb2.mono (by omega)))
  have HV := Lib.hid (q_value 16 p ⟨#[]⟩ 0 (.slice none 0 0) [] s.data.toList w2 hl16 hvd HPS.out (OwnC.nil _ _) (by decide) (HEB.out p w2 (by omega) HB2.out) (by decide) r hq)
  have HH0 : Hid (∀ W, Below p w2 W → W.heap[w.heap.size]? = some (.cells #[.slice none 0 0] 120 (0, 0)) ∧ W.heap[w.heap.size + 1]? = some (.cells #[.int .i64 0] 23 (0, 0))) := Lib.hid fun W hW =>
    ⟨(hW.block _ (by omega)).trans ((hb2.block _ (by omega)).trans HA0.out), (hW.block _ (by omega)).trans ((hb2.block _ (by omega)).trans HA1.out)⟩
  rw [show (⟨#[]⟩ : ByteArray).data.toList = [] from rfl] at HV
  clear hb2 d0 d1 z0 z1 HA0 HA1 hvd hl16
  go_wp2_with fail
  cases hv : valJ 16 [] s.data.toList [] with
  | error e =>
    have HZ : Hid (R = .error e) := Lib.hid (by rw [← HR.out]; unfold readJ; rw [hv])
    rw [hv] at HV
    clear hv
    refine HV.out.mono ?_; rintro x w3 hx
    obtain ⟨hxe, hb3⟩ := hx.err
    have HZA := Lib.hid (HH0.out w3 hb3)
    have HBZ : Hid (Below w.heap.size w w3) := Lib.hid (HB2.out.trans (hb3.mono (by omega)))
    clear hx hb3
    subst hxe
    go_wp2_with fail
    refine leaves_cons (f := 84) (args := #[.pointer (some ⟨w.heap.size, 0, none⟩), .pointer (some ⟨w.heap.size + 1, 0, none⟩)]) (by simp) (by simp [go_sem]) ?_
    refine (catch_panicking w.heap.size (w.heap.size + 1) (.slice none 0 0) 0 e [] _ (by omega) (Lib.cell_of_heap HZA.out.1 0) (Lib.cell_of_heap HZA.out.2 0) (Lib.frozen_of_heap HZA.out.1 0) (Lib.frozen_of_heap HZA.out.2 0)).mono ?_
    rintro x u wf ⟨rfl, rfl, m0, m1, hbf⟩
    have HBF : Hid (Below w.heap.size w wf) := Lib.hid (HBZ.out.trans (hbf _ (Nat.le_refl _) (by omega) HBZ.out.size))
    clear hbf
    simp [Leaves, settle, results, Tryz.results83, go_sem, m0, m1]
    rw [HZ.out]
    exact ⟨rfl, HBF.out⟩
  | ok y =>
    obtain ⟨t, out⟩ := y
    have HRD : Hid (R = if (blJ t).isEmpty then .ok out else .error 40) := Lib.hid (by rw [← HR.out]; unfold readJ; rw [hv])
    rw [hv] at HV
    clear hv
    refine HV.out.mono ?_; rintro x w3 hx
    obtain ⟨hxe, hol, v3, hvp⟩ := hx.ok_
    have HV3 := Lib.hid hvp
    clear hx hvp
    subst hxe
    go_wp2_with fail
    refine (p_blanks p t v3 0 _ HV3.out.st).mono ?_; rintro x w4 ⟨rfl, hst, hk⟩
    have HV4 := Lib.hid (HV3.out.rk hst hk)
    clear hst hk
    have HZA := Lib.hid (HH0.out w4 HV4.out.vk.1)
    have HBZ : Hid (Below w.heap.size w w4) := Lib.hid (HB2.out.trans (HV4.out.vk.1.mono (by omega)))
    obtain ⟨b, hbl, hr⟩ := HV4.out.st
    obtain ⟨c0, c1, c2⟩ := hr.cells
    clear hr
    cases hbt : blJ t with
    | cons c r =>
      rw [hbt] at hbl HRD
      have HZ : Hid (R = .error 40) := Lib.hid (by rw [HRD.out]; rfl)
      obtain ⟨hb1, hb2, hb3, hb4, -⟩ := tl_cons hbl
      clear hbt hbl
      go_wp2_with fail
      refine (p_no 40 _).mono ?_; rintro x w5 ⟨rfl, rfl⟩
      go_wp2_with fail
      refine leaves_cons (f := 84) (args := #[.pointer (some ⟨w.heap.size, 0, none⟩), .pointer (some ⟨w.heap.size + 1, 0, none⟩)]) (by simp) (by simp [go_sem]) ?_
      refine (catch_panicking w.heap.size (w.heap.size + 1) (.slice none 0 0) 0 40 [] _ (by omega) (Lib.cell_of_heap HZA.out.1 0) (Lib.cell_of_heap HZA.out.2 0) (Lib.frozen_of_heap HZA.out.1 0) (Lib.frozen_of_heap HZA.out.2 0)).mono ?_
      rintro x u wf ⟨rfl, rfl, m0, m1, hbf⟩
      have HBF : Hid (Below w.heap.size w wf) := Lib.hid (HBZ.out.trans (hbf _ (Nat.le_refl _) (by omega) HBZ.out.size))
      clear hbf
      simp [Leaves, settle, results, Tryz.results83, go_sem, m0, m1]
      rw [HZ.out]
      exact ⟨rfl, HBF.out⟩
    | nil =>
      rw [hbt] at hbl HRD
      have HZ : Hid (R = .ok out) := Lib.hid (by rw [HRD.out]; rfl)
      have hbe : b = ByteArray.empty := by
        apply ByteArray.ext; apply Array.toList_inj.1; rw [hbl]; rfl
      subst hbe
      have d0 : w4.cell? ⟨w.heap.size, 0, none⟩ = some (.slice none 0 0) := Lib.cell_of_heap HZA.out.1 0
      have d1 : w4.cell? ⟨w.heap.size + 1, 0, none⟩ = some (.int .i64 0) := Lib.cell_of_heap HZA.out.2 0
      have z0 : w4.frozen? ⟨w.heap.size, 0, none⟩ = false := Lib.frozen_of_heap HZA.out.1 0
      have z1 : w4.frozen? ⟨w.heap.size + 1, 0, none⟩ = false := Lib.frozen_of_heap HZA.out.2 0
      have HF : Hid (Below w.heap.size w ((w4.setCell ⟨w.heap.size, 0, none⟩ v3).setCell ⟨w.heap.size + 1, 0, none⟩ (.int .i64 0))) := Lib.hid ((HBZ.out.setCell (p := ⟨w.heap.size, 0, none⟩) (Nat.le_refl _) _).setCell (p := ⟨w.heap.size + 1, 0, none⟩) (by show w.heap.size ≤ w.heap.size + 1; omega) _)
      have HO : Hid (OwnC (w.heap.size + 1) v3 out ((w4.setCell ⟨w.heap.size, 0, none⟩ v3).setCell ⟨w.heap.size + 1, 0, none⟩ (.int .i64 0))) := Lib.hid (((HV4.out.own.rk (RK.set w.heap.size 0 _ _) (by omega)).rk (RK.set (w.heap.size + 1) 0 _ _) (by omega)).less (by omega))
      have hvl : ∃ a n c, v3 = .slice a n c := by
        rcases HV4.out.own.2 with ⟨h1, h2⟩ | ⟨g, cap, cur, h1, _⟩
        · exact ⟨none, 0, 0, h1⟩
        · exact ⟨_, _, _, h1⟩
      obtain ⟨av, nv, cv, rfl⟩ := hvl
      clear hbt hbl
      go_wp2_with fail
      refine leaves_cons (f := 84) (args := #[.pointer (some ⟨w.heap.size, 0, none⟩), .pointer (some ⟨w.heap.size + 1, 0, none⟩)]) (by simp) (by simp [go_sem]) ?_
      refine (catch_idle ⟨w.heap.size, 0, none⟩ ⟨w.heap.size + 1, 0, none⟩ _).mono ?_
      rintro x u wf ⟨rfl, rfl, rfl⟩
      simp [Leaves, settle, results, Tryz.results83, go_sem, d0, d1, z0, z1]
      rw [HZ.out]
      exact ⟨⟨hol, _, rfl, HO.out⟩, HF.out⟩
theorem qread_any (s : ByteArray) (hs : s.size ≤ 1000000) (r : List UInt8) (hq : s.data.toList = 34 :: r) (w : World) (hE : EnvU w) :
    Calls Tryz.prog 83 #[.string s] w fun x w' => PReadE (w.heap.size + 1) (rdJ s.data.toList) x w' ∧ Below w.heap.size w w' := by
  by_cases hc : chkE s.data.toList = 0
  · exact qread_go s (by
      have := (chk_valid _ hc).1
      rw [Array.length_toList] at this
      have h2 : s.data.size = s.size := rfl
      omega) hc w hE r hq
  · exact pread_chk s hs hc w hE
end Go.Proofs.YtgclnjogoghhcaaGreatDoor
namespace Go.Proofs.YtgclnjogoghhcaaGreatDoor
open Go.RowKit
theorem new_cell (W : World) (A : Array Value) (T : TypeId) (i : Nat) (v : Value) (h : A[i]? = some v) : (W.alloc (.cells A T)).cell? ⟨W.heap.size, i, none⟩ = some v := by
  rw [Lib.cell_of_heap (heap_alloc_new W _)]; exact h
theorem bld_size : (Tryz.prog.info? 70).map (·.size) = some 2 := by kernel_rfl
theorem bld_lies : liesAt Tryz.prog Tryz.prog.depth 70 (2 / Tryz.prog.cellsOf 70) 0 70 1 = true := by kernel_rfl
set_option maxRecDepth 100000 in
theorem copy_used (b : Nat) (w : World) (h0 : w.cell? ⟨b, 0, none⟩ = some (.pointer (some ⟨b, 0, none⟩))) :
    Calls Tryz.prog 49 #[.pointer (some ⟨b, 0, none⟩)] w fun e w' => e = .returned (.tuple #[]) ∧ w' = w := by
  obtain ⟨j, hj, _⟩ := Option.map_eq_some_iff.1 bld_size
  go_enter Tryz.func49, Tryz.ntmps49
  go_wp2
  rw [Lib.run_neq_ptr_same w _ Tryz.underlying67 hj]
  go_wp2
  go_end0
  exact ⟨rfl, rfl⟩
set_option maxRecDepth 100000 in
theorem copy_fresh (b : Nat) (w : World) (h0 : w.cell? ⟨b, 0, none⟩ = some (.pointer none)) (hsh : w.shape? b = some (70, 2)) (hfz : w.frozen? ⟨b, 0, none⟩ = false) :
    Calls Tryz.prog 49 #[.pointer (some ⟨b, 0, none⟩)] w fun e w' => e = .returned (.tuple #[]) ∧ w' = w.setCell ⟨b, 0, none⟩ (.pointer (some ⟨b, 0, none⟩)) := by
  obtain ⟨j, hj, hjs⟩ := Option.map_eq_some_iff.1 bld_size
  go_enter Tryz.func49, Tryz.ntmps49
  go_wp2
  rw [Lib.run_to_unsafe w ⟨b, 0, none⟩ Tryz.underlying67 Tryz.underlying100 hj (by rw [hjs]; decide) hsh (Nat.zero_lt_succ 1)]
  simp only [Result.andThen]
  rw [Oper.upon_value]
  go_wp2
  rw [run_callFunc_extern Tryz.func58 (by kernel_rfl) (by kernel_rfl) (by kernel_rfl) (e := Extern.AbiNoEscape.same) (by kernel_rfl)]
  rw [Lib.run_noEscape]
  simp only [Result.andThen]
  rw [Oper.upon_value]
  go_wp2
  rw [Lib.run_from_unsafe w ⟨b, 0, none⟩ Tryz.underlying100 Tryz.underlying67 hj hsh bld_lies]
  simp only [Result.andThen]
  rw [Oper.upon_value]
  go_wp2
  go_end0
  exact ⟨rfl, rfl⟩
theorem copy_any (B b : Nat) (bs : List Value) (w : World) (h : Lib.IsBuilder 70 5 B b bs w) :
    Calls Tryz.prog 49 #[.pointer (some ⟨b, 0, none⟩)] w fun e w' => e = .returned (.tuple #[]) ∧ (Lib.BuilderAt 70 5 B b (.pointer (some ⟨b, 0, none⟩)) bs w' ∧ Below B w w' ∧ Lib.OthersKept 5 (some b) w w') := by
  rcases h with h | h
  · refine (copy_fresh b w h.cell0 h.shape h.frozen0).mono ?_
    rintro e w' ⟨rfl, rfl⟩
    exact ⟨rfl, h.used _, (Below.refl B w).setCell (p := ⟨b, 0, none⟩) h.1 _, (Lib.OthersKept.refl _ _ w).setCell ⟨b, 0, none⟩ rfl _⟩
  · refine (copy_used b w h.cell0).mono ?_
    rintro e w' ⟨rfl, rfl⟩
    exact ⟨rfl, h, Below.refl B _, Lib.OthersKept.refl _ _ _⟩
theorem byte_info : (Tryz.prog.info? 5).map (fun i => (i.zero, i.size, i.bytes)) = some (some (.int .u8 0), 1, 1) := by kernel_rfl
set_option maxHeartbeats 1000000 in
set_option maxRecDepth 100000 in
theorem write_any (B b : Nat) (bs : List Value) (s : ByteArray) (w : World) (h : Lib.IsBuilder 70 5 B b bs w) (hlen : bs.length + s.size ≤ 140737488355328) (hBw : B ≤ w.heap.size) :
    Calls Tryz.prog 35 #[.pointer (some ⟨b, 0, none⟩), .string s] w fun e w' => e = .returned (.tuple #[.int .i64 s.size, .nilIface]) ∧ (Lib.BuilderAt 70 5 B b (.pointer (some ⟨b, 0, none⟩)) (bs ++ Lib.strCells s) w' ∧ Below B w w' ∧ Lib.OthersKept 5 (some b) w w') := by
  obtain ⟨i0, hi, hz0, hz1, hz2⟩ := info_parts byte_info
  go_enter Tryz.func35, Tryz.ntmps35
  go_wp2_with fail
  refine (copy_any B b bs _ h).mono ?_
  rintro e w1 ⟨rfl, h1, hb1, ho1⟩
  have HO := Lib.hid ho1
  clear ho1
  obtain ⟨hB, v, hbk, hown, hne⟩ := h1
  have c0 : w1.cell? ⟨b, 0, none⟩ = some (.pointer (some ⟨b, 0, none⟩)) := by rw [Lib.cell_of_heap hbk]; rfl
  have c1 : w1.cell? ⟨b, 1, none⟩ = some v := by rw [Lib.cell_of_heap hbk]; rfl
  go_wp2_with (refine Lib.wpList_append_own_string _ rfl _ _ 68 9 rfl B 5 i0 Tryz.underlying68 Tryz.underlying9 hi hz0 hz1 hz2 _ _ _ rfl hown s rfl ?c3 ?c4 ?c5 ?_)
  case c3 => unfold maxLen; omega
  case c4 => omega
  case c5 => have := hb1.size; omega
  intro v' w2 hown' hgrow _
  have hlt : b < w1.heap.size := by
    rcases Nat.lt_or_ge b w1.heap.size with h' | h'
    · exact h'
    · simp [Array.getElem?_eq_none h'] at hbk
  have hb2 : w2.heap[b]? = some (.cells #[.pointer (some ⟨b, 0, none⟩), v] 70 (0, 0)) := by
    rw [hgrow.block b hlt (fun e => hne e.symm)]
    exact hbk
  have d0 : w2.cell? ⟨b, 0, none⟩ = some (.pointer (some ⟨b, 0, none⟩)) := by rw [Lib.cell_of_heap hb2]; rfl
  have d1 : w2.cell? ⟨b, 1, none⟩ = some v := by rw [Lib.cell_of_heap hb2]; rfl
  have f1 : w2.frozen? ⟨b, 1, none⟩ = false := Lib.frozen_of_heap hb2 1
  obtain ⟨ao, n', cap, rfl⟩ : ∃ ao n' cap, v' = .slice ao n' cap := by
    rcases hown'.2 with ⟨hv, _⟩ | ⟨g, cap, cur, hv, _⟩
    · exact ⟨_, _, _, hv⟩
    · exact ⟨_, _, _, hv⟩
  go_wp2
  go_ret2
  refine ⟨rfl, ?_, ?_, ?_⟩
  · exact Lib.BuilderAt.put (T := 70) (e := 5) hB hb2 (bs' := bs ++ Lib.strCells s) (by simpa [Lib.strCells_length] using hown') (by decide)
  · exact (hb1.grown hgrow (by have := hb1.size; omega) (fun k hk => (hown.lt k hk).1)).setCell (p := ⟨b, 1, none⟩) hB _
  · exact (HO.out.grown hgrow (Lib.ownsRowF_kind (World.ownsRowF_of hown))).setCell ⟨b, 1, none⟩ rfl _
set_option maxHeartbeats 1000000 in
set_option maxRecDepth 100000 in
theorem writeByte_any (B b : Nat) (bs : List Value) (c : Int) (w : World) (h : Lib.IsBuilder 70 5 B b bs w) (hlen : bs.length + 1 ≤ 140737488355328) (hBw : B ≤ w.heap.size) :
    Calls Tryz.prog 82 #[.pointer (some ⟨b, 0, none⟩), .int .u8 c] w fun e w' => e = .returned .nilIface ∧ (Lib.BuilderAt 70 5 B b (.pointer (some ⟨b, 0, none⟩)) (bs ++ [.int .u8 c]) w' ∧ Below B w w' ∧ Lib.OthersKept 5 (some b) w w') := by
  obtain ⟨i0, hi, hz0, hz1, hz2⟩ := info_parts byte_info
  go_enter Tryz.func82, Tryz.ntmps82
  go_wp2_with fail
  refine (copy_any B b bs _ h).mono ?_
  rintro e w1 ⟨rfl, h1, hb1, ho1⟩
  have HO := Lib.hid ho1
  clear ho1
  obtain ⟨hB, v, hbk, hown, hne⟩ := h1
  have c0 : w1.cell? ⟨b, 0, none⟩ = some (.pointer (some ⟨b, 0, none⟩)) := by rw [Lib.cell_of_heap hbk]; rfl
  have c1 : w1.cell? ⟨b, 1, none⟩ = some v := by rw [Lib.cell_of_heap hbk]; rfl
  have hlt : b < w1.heap.size := (Array.getElem?_eq_some_iff.1 hbk).1
  go_wp2_with (at_builtin; refine wpList_append_own _ rfl _ _ 68 rfl B 5 i0 (.int .u8 0) 1 1 Tryz.underlying68 hi hz0 hz1 hz2 rfl (by decide) _ _ _ rfl (hown.alloc _) ⟨w1.heap.size, 0, none⟩ 1 1 [.int .u8 c] rfl rfl ?c1 ?c2 ?c3 ?c4 ?c5 ?_)
  case c1 =>
    intro j u hj
    match j, hj with
    | 0, hj =>
      have e : u = .int .u8 c := (Option.some.inj hj).symm
      rw [e]
      exact new_cell w1 _ _ 0 _ rfl
    | j + 1, hj => cases hj
  case c2 => intro u hu; rw [List.mem_singleton] at hu; rw [hu]; rfl
  case c3 => unfold maxLen; omega
  case c4 => omega
  case c5 => have := hb1.size; simp; omega
  intro v' w2 hown' hgrow _
  have hb2 : w2.heap[b]? = some (.cells #[.pointer (some ⟨b, 0, none⟩), v] 70 (0, 0)) := by
    rw [hgrow.block b (by simp; omega) (fun e => hne e.symm), Below.heap_alloc _ _ _ hlt]
    exact hbk
  have d0 : w2.cell? ⟨b, 0, none⟩ = some (.pointer (some ⟨b, 0, none⟩)) := by rw [Lib.cell_of_heap hb2]; rfl
  have d1 : w2.cell? ⟨b, 1, none⟩ = some v := by rw [Lib.cell_of_heap hb2]; rfl
  have f1 : w2.frozen? ⟨b, 1, none⟩ = false := Lib.frozen_of_heap hb2 1
  obtain ⟨ao, n', cap, rfl⟩ : ∃ ao n' cap, v' = .slice ao n' cap := by
    rcases hown'.2 with ⟨hv, _⟩ | ⟨g, cap, cur, hv, _⟩
    · exact ⟨_, _, _, hv⟩
    · exact ⟨_, _, _, hv⟩
  go_wp2
  go_ret
  refine ⟨rfl, ?_, ?_, ?_⟩
  · exact Lib.BuilderAt.put (T := 70) (e := 5) hB hb2 (bs' := bs ++ [.int .u8 c]) (by simpa using hown') (by decide)
  · exact ((hb1.alloc (by have := hb1.size; omega) _).grown hgrow (by have := hb1.size; simp; omega) (fun k hk => (hown.lt k hk).1)).setCell (p := ⟨b, 1, none⟩) hB _
  · exact ((HO.out.alloc _).grown hgrow (Lib.ownsRowF_kind (World.ownsRowF_of (hown.alloc _)))).setCell ⟨b, 1, none⟩ rfl _
/-- A builder in block b that holds these bytes. -/
def Bld (B b : Nat) (l : List UInt8) (w : World) : Prop := Lib.IsBuilder 70 5 B b (Lib.byteCells l) w
theorem wstr (B b : Nat) (l : List UInt8) (x : ByteArray) (w : World) (h : Bld B b l w) (hlen : l.length + x.size ≤ 100000000) (hBw : B ≤ w.heap.size) :
    Calls Tryz.prog 35 #[.pointer (some ⟨b, 0, none⟩), .string x] w fun e w' => e = .returned (.tuple #[.int .i64 x.size, .nilIface]) ∧ Bld B b (l ++ x.data.toList) w' ∧ Below B w w' ∧ Lib.OthersKept 5 (some b) w w' :=
  (write_any B b _ x w h (by rw [Lib.byteCells_length]; omega) hBw).mono fun e w' ⟨he, h1, h2, h3⟩ => ⟨he, by
    unfold Bld
    have e : Lib.byteCells (l ++ x.data.toList) = Lib.byteCells l ++ Lib.strCells x := by
      unfold Lib.byteCells Lib.strCells
      rw [List.map_append]
    rw [e]
    exact Or.inr h1, h2, h3⟩
theorem wbyte (B b : Nat) (l : List UInt8) (c : UInt8) (n : Int) (hn : n = (c.toNat : Int)) (w : World) (h : Bld B b l w) (hlen : l.length + 1 ≤ 100000000) (hBw : B ≤ w.heap.size) :
    Calls Tryz.prog 82 #[.pointer (some ⟨b, 0, none⟩), .int .u8 n] w fun e w' => e = .returned .nilIface ∧ Bld B b (l ++ [c]) w' ∧ Below B w w' ∧ Lib.OthersKept 5 (some b) w w' := by
  subst hn
  refine (writeByte_any B b _ _ w h (by rw [Lib.byteCells_length]; omega) hBw).mono ?_
  rintro e w' ⟨rfl, h1, h2, h3⟩
  refine ⟨rfl, ?_, h2, h3⟩
  unfold Bld
  have e : Lib.byteCells (l ++ [c]) = Lib.byteCells l ++ [Value.int .u8 c.toNat] := by
    unfold Lib.byteCells
    rw [List.map_append]; rfl
  rw [e]
  exact Or.inr h1
theorem wdone (B b : Nat) (l : List UInt8) (w : World) (h : Bld B b l w) (hBw : B ≤ w.heap.size) :
    Calls Tryz.prog 36 #[.pointer (some ⟨b, 0, none⟩)] w fun e w' => e = .returned (.string ⟨l.toArray⟩) ∧ Below B w w' :=
  Tryz.Builder_String_any B b l w h hBw
end Go.Proofs.YtgclnjogoghhcaaGreatDoor
namespace Go.Proofs.YtgclnjogoghhcaaGreatDoor
open Go.RowKit
theorem rd_json (l : List UInt8) : rdJ l = jsonT l := by
  unfold rdJ jsonT chkE
  by_cases h1 : 16384 < l.length
  · simp [h1]
  · cases h2 : Lib.validD l <;> simp [h1]
theorem pread_wide (s : ByteArray) (hs : s.size ≤ 1000000) (r : List UInt8) (hq : s.data.toList = 34 :: r) (w : World) (hE : EnvU w) :
    Calls Tryz.prog 83 #[.string s] w fun x w' => PReadE (w.heap.size + 1) (jsonT s.data.toList) x w' ∧ Below w.heap.size w w' := by
  rw [← rd_json]
  exact qread_any s hs r hq w hE
/-- What a reader tells: kind, text, how many bytes. -/
def tellX (k : UInt8) (o : Option (List UInt8 × Nat)) : Value := match o with
  | some (a, n) => .tuple #[tokV k a 0, .int .i64 (n : Int)]
  | none => .tuple #[tokV 0 [] 0, .int .i64 0]
/-- While a text is read: the token's cells, the builder. -/
structure TX (w : World) (pre : List UInt8) (W : World) : Prop where
  ht : W.heap[w.heap.size + 1]? = some (.cells #[.int .u8 0, .string ⟨#[]⟩, .int .i64 0] 30 (0, 0))
  hb : Bld (w.heap.size + 2) (w.heap.size + 2) pre W
  bel : Below w.heap.size w W
  sz : w.heap.size + 2 ≤ W.heap.size
theorem TX.step {w W W' : World} {pre pre' : List UInt8} (h : TX w pre W) (hb : Bld (w.heap.size + 2) (w.heap.size + 2) pre' W') (h1 : Below (w.heap.size + 2) W W') : TX w pre' W' :=
  ⟨(h1.block _ (by omega)).trans h.ht, hb, h.bel.trans (h1.mono (by omega)), Nat.le_trans h.sz h1.size⟩
theorem TX.start (w : World) : TX w [] (((w.alloc (.cells #[] 48)).alloc (.cells #[.int .u8 0, .string ⟨#[]⟩, .int .i64 0] 30)).alloc (.cells #[.pointer none, .slice none 0 0] 70)) := by
  refine ⟨?_, ?_, ?_, by simp⟩
  · exact heap_old (heap_new _ _ _ (by simp))
  · exact Or.inl ⟨by omega, .slice none 0 0, heap_new _ _ _ (by simp), World.ownsRow_nil _ _ _ _, by simp [Value.ownBlock]⟩
  · exact (((Below.refl _ _).alloc (Nat.le_refl _) _).alloc (by simp) _).alloc (by simp; omega) _
theorem TX.byte {w W : World} {pre : List UInt8} (h : TX w pre W) (hl : pre.length ≤ 90000000) (c : UInt8) : Calls Tryz.prog 82 #[.pointer (some ⟨w.heap.size + 1 + 1, 0, none⟩), .int .u8 (c.toNat : Int)] W fun e w' => e = .returned .nilIface ∧ TX w (pre ++ [c]) w' :=
  (wbyte (w.heap.size + 2) (w.heap.size + 2) pre c _ rfl W h.hb (by omega) h.sz).mono fun e w' ⟨h1, h2, h3, h4⟩ => ⟨h1, h.step h2 h3⟩
theorem TX.byteN {w W : World} {pre : List UInt8} (h : TX w pre W) (hl : pre.length ≤ 90000000) (c : UInt8) (n : Int) (hn : n = (c.toNat : Int)) : Calls Tryz.prog 82 #[.pointer (some ⟨w.heap.size + 1 + 1, 0, none⟩), .int .u8 n] W fun e w' => e = .returned .nilIface ∧ TX w (pre ++ [c]) w' := by subst hn; exact h.byte hl c
theorem u8_not (a b : UInt8) (h : a ≠ b) : ¬ ((b.toNat : Int) = (a.toNat : Int)) := fun e => h (by
  have e2 : a.toNat = b.toNat := by omega
  rw [← UInt8.ofNat_toNat (x := a), ← UInt8.ofNat_toNat (x := b), e2])
theorem TX.str {w W : World} {pre : List UInt8} (h : TX w pre W) (hl : pre.length ≤ 90000000) (x : ByteArray) (hx : x.size ≤ 1000000) : Calls Tryz.prog 35 #[.pointer (some ⟨w.heap.size + 1 + 1, 0, none⟩), .string x] W fun e w' => (e = .returned (.tuple #[.int .i64 x.size, .nilIface])) ∧ TX w (pre ++ x.data.toList) w' :=
  (wstr (w.heap.size + 2) (w.heap.size + 2) pre x W h.hb (by omega) h.sz).mono fun e w' ⟨h1, h2, h3, h4⟩ => ⟨h1, h.step h2 h3⟩
/-- The token's cells, and nothing older has turned. -/
structure TZ (w : World) (A : Array Value) (W : World) : Prop where
  ht : W.heap[w.heap.size + 1]? = some (.cells A 30 (0, 0))
  bel : Below w.heap.size w W
theorem TZ.step {w W W' : World} {A : Array Value} (h : TZ w A W) (hb : Below W.heap.size W W') : TZ w A W' := ⟨(hb.block _ (heap_lt h.ht)).trans h.ht, h.bel.trans (hb.mono h.bel.size)⟩
theorem TX.done {w W : World} {pre : List UInt8} (h : TX w pre W) : Calls Tryz.prog 36 #[.pointer (some ⟨w.heap.size + 1 + 1, 0, none⟩)] W fun e w' => e = .returned (.string ⟨pre.toArray⟩) ∧ TZ w #[.int .u8 0, .string ⟨#[]⟩, .int .i64 0] w' :=
  (wdone (w.heap.size + 2) (w.heap.size + 2) pre W h.hb h.sz).mono fun e w' ⟨h1, h2⟩ => ⟨h1, (h2.block _ (by omega)).trans h.ht, h.bel.trans (h2.mono (by omega))⟩
theorem cel_head {B : Nat} {u : Value} {c : Cel} {W : World} (h : OwnC B u [c] W) : ∃ b off cap, u = .slice (some ⟨b, off, none⟩) 1 cap ∧ W.cell? ⟨b, off + 2, none⟩ = some (.string ⟨c.text.toArray⟩) := by
  rcases h.sl with ⟨a, cap, h1, h2, _⟩ | ⟨b, off, cap, h1, h2, _⟩
  · cases h2
  · exact ⟨b, off, cap, h1, by have := (h2 0 (by simp)).2.2.1; simpa using this⟩
set_option maxRecDepth 100000 in
theorem txt_no (s : ByteArray) (h0 : 0 < s.size) (hs : s.size ≤ 17000) (hq : s[0] ≠ 34) (w : World) :
    Calls Tryz.prog 81 #[.agg #[], .string s] w fun e w' => e = .returned (tellX 3 none) ∧ Below w.heap.size w w' := by
  have hq2 : ¬ ((s[0].toNat : Int) = 34) := fun e => hq (by
    rw [← UInt8.ofNat_toNat (x := s[0]), show s[0].toNat = 34 from by omega]; rfl)
  obtain ⟨V, hV⟩ : ∃ V, tellX 3 none = V := ⟨_, rfl⟩
  rw [hV]
  have HV := Lib.hid hV
  clear hV hq
  go_enter Tryz.func81, Tryz.ntmps81
  go_wp2_with fail
  obtain ⟨⟨c0, c1, c2⟩, ⟨g0, g1, g2⟩, hz⟩ := tcells (cells_new w (.cells #[] 48) (.int .u8 0) (.string ⟨#[]⟩) (.int .i64 0))
  refine bodyPost_ret (v := .tuple #[.agg #[(.int .u8 0), .string ⟨#[]⟩, .int .i64 0], .int .i64 0]) (by simp [results, Tryz.results81, go_sem, *]) rfl ⟨by rw [← HV.out]; rfl, ((Below.refl _ _).alloc (Nat.le_refl _) _).alloc (by simp) _⟩
set_option maxRecDepth 100000 in
theorem txt_three_ (s : ByteArray) (h0 : 0 < s.size) (hs : s.size ≤ 17000) (hq : ((s[0].toNat : Nat) : Int) = 34)
    (HP : Hid (∀ w, Calls Tryz.prog 29 #[.string s, .string ⟨#[34, 34, 34]⟩] w fun e w' => e = .returned (.bool true) ∧ w = w')) (w : World) :
    Calls Tryz.prog 81 #[.agg #[], .string s] w fun e w' => e = .returned (tellX 3 none) ∧ Below w.heap.size w w' := by
  obtain ⟨V, hV⟩ : ∃ V, tellX 3 none = V := ⟨_, rfl⟩
  rw [hV]
  have HV := Lib.hid hV
  clear hV
  go_enter Tryz.func81, Tryz.ntmps81
  go_wp2_with fail
  refine (HP.out _).mono ?_; rintro e w1 ⟨rfl, rfl⟩
  go_wp2_with fail
  obtain ⟨⟨c0, c1, c2⟩, ⟨g0, g1, g2⟩, hz⟩ := tcells (cells_new w (.cells #[] 48) (.int .u8 0) (.string ⟨#[]⟩) (.int .i64 0))
  refine bodyPost_ret (v := .tuple #[.agg #[(.int .u8 0), .string ⟨#[]⟩, .int .i64 0], .int .i64 0]) (by simp [results, Tryz.results81, go_sem, *]) rfl ⟨by rw [← HV.out]; rfl, ((Below.refl _ _).alloc (Nat.le_refl _) _).alloc (by simp) _⟩
set_option maxRecDepth 100000 in
set_option maxHeartbeats 4000000 in
theorem txt_go (s : ByteArray) (h0 : 0 < s.size) (hs : s.size ≤ 17000) (hq : ((s[0].toNat : Nat) : Int) = 34) (r : List UInt8) (hr : Hid (s.data.toList = 34 :: r))
    (HP : Hid (∀ w, Calls Tryz.prog 29 #[.string s, .string ⟨#[34, 34, 34]⟩] w fun e w' => e = .returned (.bool false) ∧ w = w'))
    (V : Value) (HN : Hid (scanT false r = none → V = tellX 3 none)) (HY : Hid (∀ b n e, scanT false r = some (b, n) → jsonT (34 :: (b ++ [34])) = .error e → V = tellX 3 none))
    (HO : Hid (∀ b n v, scanT false r = some (b, n) → jsonT (34 :: (b ++ [34])) = .ok v → V = tellX 3 (some ((v.headD ⟨0, [], [], 0, 0⟩).text, n + 1))))
    (w : World) (hE : EnvU w) :
    Calls Tryz.prog 81 #[.agg #[], .string s] w fun e w' => e = .returned V ∧ Below w.heap.size w w' := by
  have HE := Lib.hid (fun (js : ByteArray) (hj : js.size ≤ 1000000) (rr : List UInt8) (hq : js.data.toList = 34 :: rr) (W : World) (h : Below w.heap.size w W) => pread_wide js hj rr hq W (hE.below h))
  clear hE
  have hst := TX.start w
  have HB0 := Lib.hid (hst.byte (by simp) 34)
  have hs34 : ((34 : UInt8).toNat : Int) = 34 := rfl
  rw [hs34] at HB0
  have HT := Lib.hid hst
  clear hst hs34
  go_enter Tryz.func81, Tryz.ntmps81
  go_wp2_with fail
  refine (HP.out _).mono ?_; rintro e w1 ⟨rfl, rfl⟩
  go_wp2_with fail
  refine HB0.out.mono ?_; rintro e w1 ⟨rfl, hx⟩
  have HX1 := Lib.hid hx
  clear hx
  go_wp2_with fail
  go_loopg [7, 8] (s.size - 1) (fun g vi vq wx => ∃ (k : Nat) (q : Bool) (pre : List UInt8), vi = .int .i64 k ∧ vq = .bool q ∧ k + g = s.size ∧ 1 ≤ k ∧ pre.length ≤ 2 * k ∧ Hid (Sc r pre q (s.data.toList.drop k) (k - 1)) ∧ Hid (TX w (34 :: pre) wx))
  case atStart => exact ⟨1, false, [], rfl, rfl, by omega, Nat.le_refl _, by simp, Lib.hid (by rw [hr.out]; exact Sc.start r), HX1⟩
  case round =>
    rename World => wo
    obtain ⟨k, q, pre, rfl, rfl, hkg, hk1, hpl, HS, HX⟩ := hrel
    by_cases hlt : k < s.size
    · have hda := drop_at s k hlt
      obtain ⟨c, hc⟩ : ∃ c : UInt8, s[k] = c := ⟨_, rfl⟩
      rw [hc] at hda
      have HS2 : Hid (Sc r pre q (c :: s.data.toList.drop (k + 1)) (k - 1)) := Lib.hid (by rw [← hda]; exact HS.out)
      clear hda HS
      have hkk : k - 1 + 1 = k := by omega
      have HW := Lib.hid HX.out.bel
      cases q with
      | true =>
        have SC2 : Hid (Sc r (pre ++ [c]) false (s.data.toList.drop (k + 1)) (k + 1 - 1)) := Lib.hid (by
          have := HS2.out.step (by rfl)
          rw [hkk, show (c == 9 && !true) = false from by simp] at this
          exact this)
        by_cases h9 : c = 9
        · subst h9
          have HC := Lib.hid (HX.out.byteN (by simp; omega) 9 9 rfl)
          obtain ⟨g, rfl⟩ : ∃ g, gk = g + 1 := ⟨gk - 1, by omega⟩
          clear hkk
          go_wp2_with fail
          ((with_reducible refine HC.out.mono ?_); rintro e w2 ⟨rfl, hx⟩)
          have HX2 := Lib.hid hx
          clear hx
          go_wp2_with fail
          go_roundg g
          case measure => omega
          case rel => exact ⟨k + 1, false, pre ++ [9], by go_num, rfl, by omega, by omega, by rw [List.length_append]; simp; omega, SC2, HX2⟩
        · have h9i : ¬ ((c.toNat : Int) = 9) := u8_not 9 c (fun e => h9 e.symm)
          have HC := Lib.hid (HX.out.byte (by simp; omega) c)
          obtain ⟨g, rfl⟩ : ∃ g, gk = g + 1 := ⟨gk - 1, by omega⟩
          clear hkk
          go_wp2_with fail
          ((with_reducible refine HC.out.mono ?_); rintro e w2 ⟨rfl, hx⟩)
          have HX2 := Lib.hid hx
          clear hx
          go_wp2_with fail
          go_roundg g
          case measure => omega
          case rel => exact ⟨k + 1, false, pre ++ [c], by go_num, rfl, by omega, by omega, by rw [List.length_append]; simp; omega, SC2, HX2⟩
      | false =>
        by_cases h34 : c = 34
        · subst h34
          have hsc := HS2.out.stop
          rw [hkk] at hsc
          have HSC := Lib.hid hsc
          clear hsc
          have h34i : ((s[k].toNat : Nat) : Int) = 34 := by rw [hc]; rfl
          clear hc
          have hke : ¬ ((k : Int) = (s.size : Int)) := by omega
          have HD := Lib.hid HX.out.done
          obtain ⟨js, hjs⟩ : ∃ js : ByteArray, (⟨(34 :: pre).toArray⟩ : ByteArray) ++ ⟨#[34]⟩ = js := ⟨_, rfl⟩
          have hjl : js.data.toList = 34 :: (pre ++ [34]) := by rw [← hjs]; simp
          have hjz : js.size ≤ 1000000 := by
            have := len_z js
            rw [hjl] at this; simp at this; omega
          have HJ := Lib.hid (HE.out js hjz _ hjl)
          rw [hjl] at HJ
          obtain ⟨pp, hpp⟩ : ∃ pp : ByteArray, (⟨(34 :: pre).toArray⟩ : ByteArray) = pp := ⟨_, rfl⟩
          rw [hpp] at HD hjs
          have hpz : pp.size ≤ 1000000 := by rw [← hpp]; show (34 :: pre).toArray.size ≤ 1000000; simp; omega
          clear hpp hjl
          cases hj : jsonT (34 :: (pre ++ [34])) with
          | error e =>
            have HV := Lib.hid (HY.out pre k e HSC.out hj)
            have he0 : ¬ e = 0 := by rw [← rd_json] at hj; exact rdJ_err _ _ hj
            rw [hj] at HJ
            clear hj
            go_wp2_with fail
            refine HD.out.mono ?_; rintro x w2 ⟨rfl, hz⟩
            have HZ := Lib.hid hz
            clear hz
            go_wp2_with fail
            refine (HJ.out _ HZ.out.bel).mono ?_; rintro x w3 ⟨hx, hb⟩
            have hx : x = .returned (.tuple #[.slice none 0 0, .int .i64 e]) := hx
            subst hx
            have HZ3 := Lib.hid (HZ.out.step hb)
            clear hb
            obtain ⟨⟨c0, c1, c2⟩, ⟨g0, g1, g2⟩, hz⟩ := tcells HZ3.out.ht
            have s0 := pset (i := 0) HZ3.out.ht (.int .u8 0) rfl
            have s1 := pset (i := 1) s0 (.string ⟨#[]⟩) rfl
            have s2 := pset (i := 2) s1 (.int .i64 0) rfl
            have HT3 := Lib.hid s2
            have HB3 := Lib.hid (((HZ3.out.bel.setCell (p := ⟨w.heap.size + 1, 0, none⟩) (Nat.le_succ _) (.int .u8 0)).setCell (p := ⟨w.heap.size + 1, 1, none⟩) (Nat.le_succ _) (.string ⟨#[]⟩)).setCell (p := ⟨w.heap.size + 1, 2, none⟩) (Nat.le_succ _) (.int .i64 0))
            clear s0 s1 s2
            go_wp2_with fail
            clear c0 c1 c2 g0 g1 g2 hz
            obtain ⟨⟨c0, c1, c2⟩, ⟨g0, g1, g2⟩, hz⟩ := tcells HT3.out
            refine bodyPost_ret (v := .tuple #[.agg #[.int .u8 0, .string ⟨#[]⟩, .int .i64 0], .int .i64 0]) (by simp [results, Tryz.results81, go_sem, *]) rfl ⟨by rw [HV.out]; rfl, HB3.out⟩
          | ok v =>
            have HV := Lib.hid (HO.out pre k v HSC.out hj)
            obtain ⟨x, hv, hvx, _⟩ := json_quote_ok _ _ hj
            rw [hj] at HJ
            rw [hv] at HV HJ
            clear hj hv hvx
            go_wp2_with fail
            refine HD.out.mono ?_; rintro x1 w2 ⟨rfl, hz⟩
            have HZ := Lib.hid hz
            clear hz
            go_wp2_with fail
            refine (HJ.out _ HZ.out.bel).mono ?_; rintro x2 w3 ⟨hx, hb⟩
            obtain ⟨_, u, hx, hu⟩ := (show _ ∧ ∃ u, x2 = .returned (.tuple #[u, .int .i64 0]) ∧ OwnC (w2.heap.size + 1) u [⟨3, [], x, 0, 0⟩] w3 from hx)
            subst hx
            obtain ⟨b, off, cap, rfl, hcx⟩ := cel_head hu
            clear hu
            have HZ3 := Lib.hid (HZ.out.step hb)
            clear hb
            obtain ⟨xs, hxs⟩ : ∃ xs : ByteArray, (⟨x.toArray⟩ : ByteArray) = xs := ⟨_, rfl⟩
            rw [show (⟨(⟨3, [], x, 0, 0⟩ : Cel).text.toArray⟩ : ByteArray) = xs from hxs] at hcx
            have HXS := Lib.hid hxs
            clear hxs
            obtain ⟨⟨c0, c1, c2⟩, ⟨g0, g1, g2⟩, hz⟩ := tcells HZ3.out.ht
            have s0 := pset (i := 0) HZ3.out.ht (.int .u8 3) rfl
            have s1 := pset (i := 1) s0 (.string xs) rfl
            have s2 := pset (i := 2) s1 (.int .i64 0) rfl
            have HT3 := Lib.hid s2
            have HB3 := Lib.hid (((HZ3.out.bel.setCell (p := ⟨w.heap.size + 1, 0, none⟩) (Nat.le_succ _) (.int .u8 3)).setCell (p := ⟨w.heap.size + 1, 1, none⟩) (Nat.le_succ _) (.string xs)).setCell (p := ⟨w.heap.size + 1, 2, none⟩) (Nat.le_succ _) (.int .i64 0))
            clear s0 s1 s2
            go_wp2_with fail
            clear c0 c1 c2 g0 g1 g2 hz
            obtain ⟨⟨c0, c1, c2⟩, ⟨g0, g1, g2⟩, hz⟩ := tcells HT3.out
            refine bodyPost_ret (v := .tuple #[.agg #[.int .u8 3, .string xs, .int .i64 0], .int .i64 ((k : Int) + 1)]) (by simp [results, Tryz.results81, go_sem, *]) rfl ⟨by rw [HV.out, ← HXS.out]; rfl, HB3.out⟩
        · have h34i : ¬ ((c.toNat : Int) = 34) := u8_not 34 c (fun e => h34 e.symm)
          by_cases h9 : c = 9
          · subst h9
            have SC2 : Hid (Sc r (pre ++ [92, 116]) false (s.data.toList.drop (k + 1)) (k + 1 - 1)) := Lib.hid (by
              have := HS2.out.step (by rfl)
              rw [hkk] at this
              exact this)
            have HC := Lib.hid (HX.out.str (by simp; omega) ⟨#[92, 116]⟩ (by decide))
            obtain ⟨g, rfl⟩ : ∃ g, gk = g + 1 := ⟨gk - 1, by omega⟩
            clear hkk
            go_wp2_with fail
            ((with_reducible refine HC.out.mono ?_); rintro e w2 ⟨rfl, hx⟩)
            have HX2 := Lib.hid hx
            clear hx
            go_wp2_with fail
            go_roundg g
            case measure => omega
            case rel => exact ⟨k + 1, false, pre ++ [92, 116], by go_num, rfl, by omega, by omega, by rw [List.length_append]; simp; omega, SC2, HX2⟩
          · have h9i : ¬ ((c.toNat : Int) = 9) := u8_not 9 c (fun e => h9 e.symm)
            by_cases h92 : c = 92
            · subst h92
              have SC2 : Hid (Sc r (pre ++ [92]) true (s.data.toList.drop (k + 1)) (k + 1 - 1)) := Lib.hid (by
                have := HS2.out.step (by rfl)
                rw [hkk] at this
                exact this)
              have HC := Lib.hid (HX.out.byteN (by simp; omega) 92 92 rfl)
              obtain ⟨g, rfl⟩ : ∃ g, gk = g + 1 := ⟨gk - 1, by omega⟩
              clear hkk
              go_wp2_with fail
              ((with_reducible refine HC.out.mono ?_); rintro e w2 ⟨rfl, hx⟩)
              have HX2 := Lib.hid hx
              clear hx
              go_wp2_with fail
              go_roundg g
              case measure => omega
              case rel => exact ⟨k + 1, true, pre ++ [92], by go_num, rfl, by omega, by omega, by rw [List.length_append]; simp; omega, SC2, HX2⟩
            · have h92i : ((c.toNat : Int) == 92) = false := beq_eq_false_iff_ne.2 (u8_not 92 c (fun e => h92 e.symm))
              have SC2 : Hid (Sc r (pre ++ [c]) false (s.data.toList.drop (k + 1)) (k + 1 - 1)) := Lib.hid (by
                have := HS2.out.step (by simp [h34])
                rw [hkk, show (c == 9 && !false) = false from by simp [h9], show (!false && c == 92) = false from by simp [h92]] at this
                exact this)
              have HC := Lib.hid (HX.out.byte (by simp; omega) c)
              obtain ⟨g, rfl⟩ : ∃ g, gk = g + 1 := ⟨gk - 1, by omega⟩
              clear hkk
              go_wp2_with fail
              ((with_reducible refine HC.out.mono ?_); rintro e w2 ⟨rfl, hx⟩)
              have HX2 := Lib.hid hx
              clear hx
              go_wp2_with fail
              go_roundg g
              case measure => omega
              case rel => exact ⟨k + 1, false, pre ++ [c], by go_num, rfl, by omega, by omega, by rw [List.length_append]; simp; omega, SC2, HX2⟩
    · obtain rfl : k = s.size := by omega
      have hsn : scanT false r = none := by
        have := HS.out
        rw [List.drop_of_length_le (by rw [len_z]; exact Nat.le_refl _)] at this
        exact this.none
      have HV := Lib.hid (HN.out hsn)
      have HZ3 : Hid (TZ w #[.int .u8 0, .string ⟨#[]⟩, .int .i64 0] wo) := Lib.hid ⟨HX.out.ht, HX.out.bel⟩
      clear hsn
      obtain ⟨⟨c0, c1, c2⟩, ⟨g0, g1, g2⟩, hz⟩ := tcells HZ3.out.ht
      have s0 := pset (i := 0) HZ3.out.ht (.int .u8 0) rfl
      have s1 := pset (i := 1) s0 (.string ⟨#[]⟩) rfl
      have s2 := pset (i := 2) s1 (.int .i64 0) rfl
      have HT3 := Lib.hid s2
      have HB3 := Lib.hid (((HZ3.out.bel.setCell (p := ⟨w.heap.size + 1, 0, none⟩) (Nat.le_succ _) (.int .u8 0)).setCell (p := ⟨w.heap.size + 1, 1, none⟩) (Nat.le_succ _) (.string ⟨#[]⟩)).setCell (p := ⟨w.heap.size + 1, 2, none⟩) (Nat.le_succ _) (.int .i64 0))
      clear s0 s1 s2
      go_wp2_with fail
      clear c0 c1 c2 g0 g1 g2 hz
      obtain ⟨⟨c0, c1, c2⟩, ⟨g0, g1, g2⟩, hz⟩ := tcells HT3.out
      refine bodyPost_ret (v := .tuple #[.agg #[.int .u8 0, .string ⟨#[]⟩, .int .i64 0], .int .i64 0]) (by simp [results, Tryz.results81, go_sem, *]) rfl ⟨by rw [HV.out]; rfl, HB3.out⟩
theorem tread_any (s : ByteArray) (h0 : 0 < s.size) (hs : s.size ≤ 17000) (w : World) (hE : EnvU w) :
    Calls Tryz.prog 81 #[.agg #[], .string s] w fun e w' => e = .returned (tellX 3 (txtT s.data.toList)) ∧ Below w.heap.size w w' := by
  have hd := head_z s h0
  obtain ⟨r, hr⟩ : ∃ r, s.data.toList.drop 1 = r := ⟨_, rfl⟩
  rw [hr] at hd
  by_cases hq : s[0] = 34
  · rw [hq] at hd
    have hqi : ((s[0].toNat : Nat) : Int) = 34 := by rw [hq]; rfl
    have HP := fun w => Tryz.strings_HasPrefix s ⟨#[34, 34, 34]⟩ w
    cases hp : Lib.hasPrefix s.data.toList (⟨#[34, 34, 34]⟩ : ByteArray).data.toList with
    | true =>
      rw [hp] at HP
      rw [hd, txt_three 34 r (by rw [← hd]; exact hp)]
      exact txt_three_ s h0 hs hqi (Lib.hid fun w => (HP w).mono fun e w' ⟨h1, h2⟩ => ⟨h1, h2.symm⟩) w
    | false =>
      rw [hp] at HP
      have hp2 : [34, 34, 34].isPrefixOf (34 :: r) = false := by rw [← hd]; exact hp
      rw [hd]
      exact txt_go s h0 hs hqi r (Lib.hid hd) (Lib.hid fun w => (HP w).mono fun e w' ⟨h1, h2⟩ => ⟨h1, h2.symm⟩) _ (Lib.hid fun h => by rw [txt_open r hp2 h]) (Lib.hid fun b n e h1 h2 => by rw [txt_bad r b n e hp2 h1 h2]) (Lib.hid fun b n v h1 h2 => by rw [txt_good r b n v hp2 h1 h2]) w hE
  · rw [hd, txt_quote _ r hq]
    exact txt_no s h0 hs hq w
end Go.Proofs.YtgclnjogoghhcaaGreatDoor
namespace Go.Proofs.YtgclnjogoghhcaaGreatDoor
open Go.RowKit
/-- Tokens that stand in a row from a place of a block on. -/
def TokRow (b off : Nat) (L : List Tok) (W : World) : Prop := ∀ (k : Nat) (h : k < L.length), W.cell? ⟨b, off + k * 3, none⟩ = some (.int .u8 (L[k].kind.toNat : Int)) ∧ W.cell? ⟨b, off + k * 3 + 1, none⟩ = some (.string ⟨L[k].text.toArray⟩) ∧ W.cell? ⟨b, off + k * 3 + 2, none⟩ = some (.int .i64 L[k].pos)
theorem TokRow.below {b off : Nat} {L : List Tok} {w w' : World} (h : TokRow b off L w) (hb : Below w.heap.size w w') (hlt : b < w.heap.size) : TokRow b off L w' := by
  intro k hk
  obtain ⟨h1, h2, h3⟩ := h k hk
  exact ⟨(hb.cell (p := ⟨b, _, none⟩) hlt).trans h1, (hb.cell (p := ⟨b, _, none⟩) hlt).trans h2, (hb.cell (p := ⟨b, _, none⟩) hlt).trans h3⟩
theorem TokRow.below' {b off : Nat} {L : List Tok} {w w' : World} (h : TokRow b off L w) (hb : Below w.heap.size w w') : TokRow b off L w' := by
  intro k hk
  exact h.below hb (lt_of_cell (h k hk).1) k hk
/-- A slice that reads as tokens. -/
def TokSl (v : Value) (L : List Tok) (W : World) : Prop := (∃ a cap, v = .slice a 0 cap ∧ L = [] ∧ (a = none → cap = 0)) ∨ ∃ b off cap, v = .slice (some ⟨b, off, none⟩) L.length cap ∧ TokRow b off L W
theorem TokSl.below {v : Value} {L : List Tok} {w w' : World} (h : TokSl v L w) (hb : Below w.heap.size w w') : TokSl v L w' := by
  rcases h with h | ⟨b, off, cap, h1, h2⟩
  · exact Or.inl h
  · exact Or.inr ⟨b, off, cap, h1, h2.below' hb⟩
theorem TokSl.nil (w : World) : TokSl (.slice none 0 0) [] w := Or.inl ⟨_, _, rfl, rfl, fun _ => rfl⟩
def sameP (a : Bool) (t u : Tok) : Bool := t.kind == u.kind && t.text == u.text && (!a || t.pos == u.pos)
/-- Are two lists of tokens the same (a: whether the places count)? -/
def sameT (a : Bool) : List Tok → List Tok → Bool
  | [], [] => true
  | t :: r, u :: s => sameP a t u && sameT a r s
  | _, _ => false
theorem sameT_len (a : Bool) : ∀ (L M : List Tok), L.length ≠ M.length → sameT a L M = false
  | [], [], h => absurd rfl h
  | [], _ :: _, _ => rfl
  | _ :: _, [], _ => rfl
  | t :: r, u :: s, h => by
    rw [sameT, sameT_len a r s (by simpa using h), Bool.and_false]
theorem sameT_self (a : Bool) : ∀ L : List Tok, sameT a L L = true
  | [] => rfl
  | t :: r => by rw [sameT, sameT_self a r]; simp [sameP]
theorem sameT_drop (a : Bool) (L M : List Tok) (k : Nat) (h : k < L.length) (h' : k < M.length) : sameT a (L.drop k) (M.drop k) = (sameP a L[k] M[k] && sameT a (L.drop (k + 1)) (M.drop (k + 1))) := by
  rw [List.drop_eq_getElem_cons h, List.drop_eq_getElem_cons h', sameT]
end Go.Proofs.YtgclnjogoghhcaaGreatDoor
namespace Go.Proofs.YtgclnjogoghhcaaGreatDoor
open Go.RowKit
theorem tok_info : (Tryz.prog.info? 30).map (fun i => (i.zero, i.size, i.bytes)) = some (some (.agg #[.int .u8 0, .string ⟨#[]⟩, .int .i64 0]), 3, 32) := by kernel_rfl
def tokCells : List Tok → List Value
  | [] => []
  | t :: r => .int .u8 (t.kind.toNat : Int) :: .string ⟨t.text.toArray⟩ :: .int .i64 t.pos :: tokCells r
theorem tokCells_len : ∀ L : List Tok, (tokCells L).length = L.length * 3
  | [] => rfl
  | t :: r => by rw [tokCells]; simp [tokCells_len r]; omega
theorem tokCells_app : ∀ L M : List Tok, tokCells (L ++ M) = tokCells L ++ tokCells M
  | [], _ => rfl
  | t :: r, M => by rw [List.cons_append, tokCells, tokCells_app r M, tokCells]; rfl
theorem tokCells_one : ∀ L : List Tok, ∀ u ∈ tokCells L, u.oneCell' = true
  | [], u, h => by cases h
  | t :: r, u, h => by
    rw [tokCells] at h
    rcases List.mem_cons.1 h with h | h
    · rw [h]; rfl
    rcases List.mem_cons.1 h with h | h
    · rw [h]; rfl
    rcases List.mem_cons.1 h with h | h
    · rw [h]; rfl
    · exact tokCells_one r u h
theorem tokCells_get : ∀ (L : List Tok) (k : Nat) (h : k < L.length), (tokCells L)[k * 3]? = some (.int .u8 (L[k].kind.toNat : Int)) ∧ (tokCells L)[k * 3 + 1]? = some (.string ⟨L[k].text.toArray⟩) ∧ (tokCells L)[k * 3 + 2]? = some (.int .i64 L[k].pos)
  | [], k, h => by simp at h
  | t :: r, 0, h => by simp [tokCells]
  | t :: r, k + 1, h => by
    have ih := tokCells_get r k (by simpa using h)
    rw [show (k + 1) * 3 = k * 3 + 1 + 1 + 1 from by omega, show k * 3 + 1 + 1 + 1 + 1 = k * 3 + 1 + 1 + 1 + 1 from rfl]
    simp only [tokCells, List.getElem?_cons_succ, List.getElem_cons_succ]
    exact ih
theorem row_cells : ∀ (L : List Tok) (b off : Nat) (w : World), TokRow b off L w → ∀ j u, (tokCells L)[j]? = some u → w.cell? ⟨b, off + j, none⟩ = some u
  | [], b, off, w, h, j, u, hu => by simp [tokCells] at hu
  | t :: r, b, off, w, h, j, u, hu => by
    obtain ⟨c0, c1, c2⟩ := h 0 (by simp)
    rw [tokCells] at hu
    match j, hu with
    | 0, hu => rw [← hu]; simpa using c0
    | 1, hu => rw [← hu]; simpa using c1
    | 2, hu => rw [← hu]; simpa using c2
    | j + 3, hu =>
      have ht : TokRow b (off + 3) r w := by
        intro k hk
        have := h (k + 1) (by simpa using hk)
        rw [show off + (k + 1) * 3 = off + 3 + k * 3 from by omega] at this
        exact this
      have := row_cells r b (off + 3) w ht j u (by simpa using hu)
      rw [show off + (j + 3) = off + 3 + j from by omega]
      exact this
theorem addr_addT (b o j : Nat) : (⟨b, o, none⟩ : Addr).add j = ⟨b, o + j, none⟩ := by
  unfold Addr.add
  split
  · rename_i hz; rw [hz]; rfl
  · rfl
/-- A slice of tokens of the call's own. -/
def OwnT (B : Nat) (v : Value) (L : List Tok) (W : World) : Prop := W.ownsRow B 30 3 v L.length (tokCells L)
theorem OwnT.nil (B : Nat) (W : World) : OwnT B (.slice none 0 0) [] W := World.ownsRow_nil W B 30 3
theorem OwnT.below {B : Nat} {v : Value} {l : List Tok} {w w' : World} (h : OwnT B v l w) (hb : Below w.heap.size w w') : OwnT B v l w' := by
  obtain ⟨h1, h2⟩ := h
  refine ⟨h1, ?_⟩
  rcases h2 with h2 | ⟨g, cap, cur, hv, hB, hg, hrest⟩
  · exact Or.inl h2
  · have hlt : g < w.heap.size := (Array.getElem?_eq_some_iff.1 hg).1
    exact Or.inr ⟨g, cap, cur, hv, hB, (hb.block g hlt).trans hg, hrest⟩
theorem OwnT.alloc {B : Nat} {v : Value} {l : List Tok} {w : World} (h : OwnT B v l w) (o : Obj) : OwnT B v l (w.alloc o) := World.ownsRow.alloc h o
theorem OwnT.lt {B : Nat} {v : Value} {l : List Tok} {w : World} (h : OwnT B v l w) : ∀ k, v.ownBlock = some k → B ≤ k := fun k hk => (World.ownsRow.lt h k hk).1
theorem OwnT.sl {B : Nat} {v : Value} {L : List Tok} {w : World} (h : OwnT B v L w) : TokSl v L w := by
  obtain ⟨h1, h2⟩ := h
  rcases h2 with ⟨rfl, h2⟩ | ⟨g, cap, cur, rfl, hB, hg, hn, hc, hcs, ht⟩
  · exact Or.inl ⟨_, _, rfl, List.eq_nil_of_length_eq_zero h2, fun _ => rfl⟩
  · refine Or.inr ⟨g, 0, cap, rfl, ?_⟩
    intro k hk
    obtain ⟨g0, g1, g2⟩ := tokCells_get L k hk
    have F : ∀ j u, (tokCells L)[j]? = some u → w.cell? ⟨g, 0 + j, none⟩ = some u := by
      intro j u hj
      have hjl : j < L.length * 3 := by rw [← tokCells_len]; exact (List.getElem?_eq_some_iff.1 hj).1
      rw [← ht, List.getElem?_take, if_pos hjl] at hj
      rw [Nat.zero_add]
      refine (Lib.cell_of_heap hg j).trans ?_
      simpa using hj
    exact ⟨F _ _ g0, F _ _ g1, F _ _ g2⟩
/-- 'append(v, u..)' of tokens that stand in a row. -/
theorem wpList_appT {ops : Array Oper} {rest : List Oper} {o : Oper} {a : Act} {Q : Exit → Act → World → Prop} {w : World} (hgd : o.guard = none) (s x : Operand)
    (ho : o.op = .call { callee := .builtin .append, args := #[s, x], argTypes := #[24, 24] }) (B : Nat) (v u : Value) (L M : List Tok) (hs : a.eval s = v) (hown : OwnT B v L w)
    (hx : a.eval x = u) (hu : TokSl u M w) (hlen : L.length + M.length ≤ 1000000) (hB : B ≤ w.heap.size)
    (h : ∀ v' w', OwnT B v' (L ++ M) w' → w.grownBy w' v.ownBlock → wpList Tryz.prog ops Q rest (a.put o.dst v') w') : wpList Tryz.prog ops Q (o :: rest) a w := by
  obtain ⟨i0, hi, hz0, hz1, hz2⟩ := info_parts tok_info
  have fin : ∀ (ad : Addr) (c : Nat), u = .slice (some ad) M.length c → (∀ j q, (tokCells M)[j]? = some q → w.cell? (ad.add j) = some q) → wpList Tryz.prog ops Q (o :: rest) a w := by
    intro ad c hu2 hcells
    refine wpList_append_own w hgd s x 24 ho B 30 i0 (.agg #[.int .u8 0, .string ⟨#[]⟩, .int .i64 0]) 3 32 Tryz.underlying24 hi hz0 hz1 hz2 rfl (by decide) v L.length (tokCells L) hs hown ad M.length c (tokCells M) (hx.trans hu2) (tokCells_len M) hcells (tokCells_one M) (by unfold maxLen; omega) (by omega) hB ?_
    intro v' w' h1 h2 _
    refine h v' w' ?_ h2
    unfold OwnT
    rw [List.length_append, tokCells_app]
    exact h1
  rcases hu with ⟨ua, uc, hu2, rfl, hcap⟩ | ⟨b, off, cap, hu2, hr⟩
  · rcases ua with _ | ad
    · refine wpList_append_own_none hgd s x 24 ho B 30 i0 3 Tryz.underlying24 hi v L.length (tokCells L) hs hown (by rw [hx, hu2, hcap rfl]) ?_
      have := h v w (by rw [List.append_nil]; exact hown) (World.grownBy.refl w _)
      exact this
    · exact fin ad uc hu2 (fun j q hq => by simp [tokCells] at hq)
  · exact fin ⟨b, off, none⟩ cap hu2 (fun j q hq => by rw [addr_addT]; exact row_cells M b off w hr j q hq)
theorem wpList_want {P : Program} {ops : Array Oper} {rest : List Oper} {o : Oper} {a : Act} {Q : Exit → Act → World → Prop} {w : World} (hw : Region.wanted o (yielded ops a.tmps) = true) (h : o.wp P a w (wpList P ops Q rest) Q) : wpList P ops Q (o :: rest) a w := by
  unfold wpList
  rw [if_pos hw]
  exact Or.inl h
/-- .. where a guard stands ahead of it. -/
theorem wpList_gappT {ops : Array Oper} {rest : List Oper} {o : Oper} {a : Act} {Q : Exit → Act → World → Prop} {w : World} (hw : Region.wanted o (yielded ops a.tmps) = true) (s x : Operand)
    (ho : o.op = .call { callee := .builtin .append, args := #[s, x], argTypes := #[24, 24] }) (B : Nat) (v u : Value) (L M : List Tok) (hs : a.eval s = v) (hown : OwnT B v L w)
    (hx : a.eval x = u) (hu : TokSl u M w) (h0 : 0 < M.length) (hlen : L.length + M.length ≤ 1000000) (hB : B ≤ w.heap.size)
    (h : ∀ v' w', OwnT B v' (L ++ M) w' → w.grownBy w' v.ownBlock → wpList Tryz.prog ops Q rest (a.put o.dst v') w') : wpList Tryz.prog ops Q (o :: rest) a w := by
  obtain ⟨i0, hi, hz0, hz1, hz2⟩ := info_parts tok_info
  rcases hu with ⟨ua, uc, hu2, rfl, hcap⟩ | ⟨b, off, cap, hu2, hr⟩
  · cases h0
  · refine wpList_want hw (wp_append_own w s x 24 ho B 30 i0 (.agg #[.int .u8 0, .string ⟨#[]⟩, .int .i64 0]) 3 32 Tryz.underlying24 hi hz0 hz1 hz2 rfl (by decide) v L.length (tokCells L) hs hown ⟨b, off, none⟩ M.length cap (tokCells M) (hx.trans hu2) (tokCells_len M) (fun j q hq => by rw [addr_addT]; exact row_cells M b off w hr j q hq) (tokCells_one M) (by unfold maxLen; omega) (by omega) hB ?_)
    intro v' w' h1 h2 _
    refine h v' w' ?_ h2
    unfold OwnT
    rw [List.length_append, tokCells_app]
    exact h1
end Go.Proofs.YtgclnjogoghhcaaGreatDoor
namespace Go.Proofs.YtgclnjogoghhcaaGreatDoor
open Go.RowKit
set_option maxRecDepth 100000 in
theorem add_any (F f : Nat) (hf : f ≤ 100000) (W : World) (hh : W.heap[F]? = some (.cells #[.int .i32 (f : Int)] 45 (0, 0))) :
    Calls Tryz.prog 20 #[.pointer (some ⟨F, 0, none⟩), .int .i32 1] W fun e w' => e = .returned (.int .i32 ((f : Int) + 1)) ∧ w' = W.setCell ⟨F, 0, none⟩ (.int .i32 ((f : Int) + 1)) := by
  have hc : W.cell? ⟨F, 0, none⟩ = some (.int .i32 (f : Int)) := by rw [Lib.cell_of_heap hh]; rfl
  have hz : W.frozen? ⟨F, 0, none⟩ = false := Lib.frozen_of_heap hh 0
  have hw : IntKind.i32.wrap ((f : Int) + 1) = (f : Int) + 1 := by
    rw [IntKind.wrap_i32]; omega
  have hadd := run_call_add (P := Tryz.prog) Tryz.func31 (by kernel_rfl) (by kernel_rfl) (by kernel_rfl) .i32 (by kernel_rfl) (y := 1) (s := (f : Int) + 1) hc hz (by simp [go_sem, hw])
  clear hw
  go_enter Tryz.func20, Tryz.ntmps20
  go_wp2
  go_ret
  exact ⟨rfl, rfl⟩
/-- What Lex holds: its fuel, its readers, the tokens so far. -/
structure LX (w : World) (F f : Nat) (v : Value) (L : List Tok) (W : World) : Prop where
  hf : W.heap[F]? = some (.cells #[.int .i32 (f : Int)] 45 (0, 0))
  ha : W.heap[F + 1]? = some (.cells #[.iface 46 (.agg #[]), .iface 47 (.agg #[]), .iface 48 (.agg #[]), .iface 49 (.agg #[])] 55 (0, 0))
  own : OwnT (F + 2) v L W
  bel : Below w.heap.size w W
  le : w.heap.size ≤ F
section
variable {w W W' : World} {F f : Nat} {v v' : Value} {L L' : List Tok}
theorem LX.lt (h : LX w F f v L W) : F + 1 < W.heap.size := heap_lt h.ha
theorem LX.below (h : LX w F f v L W) (hb : Below W.heap.size W W') : LX w F f v L W' :=
  ⟨(hb.block _ (heap_lt h.hf)).trans h.hf, (hb.block _ (heap_lt h.ha)).trans h.ha, h.own.below hb, h.bel.trans (hb.mono h.bel.size), h.le⟩
theorem own_at {B b : Nat} (h : OwnT B v L W) (u : Value) (i : Nat) (hne : v.ownBlock ≠ some b) : OwnT B v L (W.setCell ⟨b, i, none⟩ u) := by
  obtain ⟨h1, h2⟩ := h
  refine ⟨h1, ?_⟩
  rcases h2 with h2 | ⟨g, cap, cur, hv, hB, hg, hrest⟩
  · exact Or.inl h2
  · refine Or.inr ⟨g, cap, cur, hv, hB, ?_, hrest⟩
    rw [Below.heap_setCell _ _ _ _ (show g ≠ b from fun e => hne (by rw [hv, ← e]; rfl))]
    exact hg
theorem LX.fuel (h : LX w F f v L W) : LX w F (f + 1) v L (W.setCell ⟨F, 0, none⟩ (.int .i32 ((f : Int) + 1))) := by
  refine ⟨?_, ?_, own_at h.own _ _ (fun e => ?_), h.bel.setCell (p := ⟨F, 0, none⟩) h.le _, h.le⟩
  · exact pset h.hf _ rfl
  · rw [Below.heap_setCell _ _ _ _ (show F + 1 ≠ F by omega)]; exact h.ha
  · have := h.own.lt F e; omega
theorem LX.set {b : Nat} (h : LX w F f v L W) (i : Nat) (u : Value) (hb : F + 2 ≤ b) (hne : v.ownBlock ≠ some b) : LX w F f v L (W.setCell ⟨b, i, none⟩ u) := by
  refine ⟨?_, ?_, own_at h.own _ _ hne, h.bel.setCell (p := ⟨b, i, none⟩) (by have := h.le; show w.heap.size ≤ b; omega) _, h.le⟩
  · rw [Below.heap_setCell _ _ _ _ (show F ≠ b by omega)]; exact h.hf
  · rw [Below.heap_setCell _ _ _ _ (show F + 1 ≠ b by omega)]; exact h.ha
theorem LX.grown (h : LX w F f v L W) (ho : OwnT (F + 2) v' L' W') (hg : W.grownBy W' v.ownBlock) : LX w F f v' L' W' := by
  have hlt := h.lt
  refine ⟨?_, ?_, ho, ?_, h.le⟩
  · rw [hg.block F (by omega) (fun e => by have := h.own.lt F e.symm; omega)]; exact h.hf
  · rw [hg.block (F + 1) (by omega) (fun e => by have := h.own.lt (F + 1) e.symm; omega)]; exact h.ha
  · exact h.bel.grown hg h.bel.size (fun k hk => by have := h.own.lt k hk; have := h.le; omega)
theorem LX.own_lt (h : LX w F f v L W) (k : Nat) (hk : v.ownBlock = some k) : k < W.heap.size := by
  rcases h.own.2 with h2 | ⟨g, cap, cur, hv, hB, hg, hrest⟩
  · rw [h2.1] at hk; cases hk
  · rw [hv] at hk; injection hk with hk; subst hk; exact heap_lt hg
end
/-- .. and the token that was read. -/
structure LY (w : World) (F f : Nat) (v : Value) (L : List Tok) (b : Nat) (A : Array Value) (W : World) : Prop where
  x : LX w F f v L W
  ht : W.heap[b]? = some (.cells A 30 (0, 0))
  hb : F + 2 ≤ b
  ne : v.ownBlock ≠ some b
theorem LY.new1 {w W w5 : World} {F f : Nat} {v : Value} {L : List Tok} (h : LX w F f v L W) (hb : Below W.drew.heap.size W.drew w5) (a0 a1 a2 : Value) : LY w F f v L w5.heap.size #[a0, a1, a2] (w5.alloc (.cells #[a0, a1, a2] 30)) := by
  have h1 : LX w F f v L w5 := (h.below (Below.refl W.heap.size W).drew).below hb
  refine ⟨h1.below ((Below.refl _ _).alloc (Nat.le_refl _) _), heap_alloc_new w5 _, h1.lt, fun e => ?_⟩
  have := h1.own_lt _ e; omega
theorem LY.new2 {w W w5 : World} {F f : Nat} {v : Value} {L : List Tok} {O : Obj} (h : LX w F f v L W) (hb : Below (W.alloc O).drew.heap.size (W.alloc O).drew w5) (b0 b1 b2 : Value) (hh : w5.heap[W.heap.size]? = some (.cells #[b0, b1, b2] 30 (0, 0))) (a0 a1 a2 : Value) : LY w F f v L W.heap.size #[a0, a1, a2] (((w5.setCell ⟨W.heap.size, 0, none⟩ a0).setCell ⟨W.heap.size, 1, none⟩ a1).setCell ⟨W.heap.size, 2, none⟩ a2) := by
  have hne : v.ownBlock ≠ some W.heap.size := fun e => by have := h.own_lt _ e; omega
  have h1 : LX w F f v L w5 := ((h.below ((Below.refl W.heap.size W).alloc (Nat.le_refl _) O)).below (Below.refl (W.alloc O).heap.size (W.alloc O)).drew).below hb
  exact ⟨((h1.set 0 a0 h.lt hne).set 1 a1 h.lt hne).set 2 a2 h.lt hne, pset (pset (pset hh a0 rfl) a1 rfl) a2 rfl, h.lt, hne⟩
theorem tok_new (W : World) (k : UInt8) (a : List UInt8) (p : Int) : TokSl (.slice (some ⟨W.heap.size, 0, none⟩) 1 1) [⟨k, a, p⟩] (W.alloc (.cells #[.int .u8 (k.toNat : Int), .string ⟨a.toArray⟩, .int .i64 p] 30)) := by
  refine Or.inr ⟨_, _, _, rfl, ?_⟩
  intro j hj
  have : j = 0 := by simp at hj; omega
  subst this
  have h := heap_alloc_new W (.cells #[.int .u8 (k.toNat : Int), .string ⟨a.toArray⟩, .int .i64 p] 30 (0, 0))
  exact ⟨(Lib.cell_of_heap h 0).trans rfl, (Lib.cell_of_heap h 1).trans rfl, (Lib.cell_of_heap h 2).trans rfl⟩
theorem tok_newn (n : Nat) (W : World) (hn : n = W.heap.size) (k : UInt8) (a : List UInt8) (p : Int) : TokSl (.slice (some ⟨n, 0, none⟩) 1 1) [⟨k, a, p⟩] (W.alloc (.cells #[.int .u8 (k.toNat : Int), .string ⟨a.toArray⟩, .int .i64 p] 30)) := by
  subst hn; exact tok_new W k a p
/-- What Lex answers. -/
def LexE (B : Nat) (o : Except (Int × Nat) (List Tok)) (x : Ending) (W : World) : Prop := match o with
  | .error (e, a) => x = .returned (.tuple #[.slice none 0 0, .int .i64 (a : Int), .int .i64 e])
  | .ok L => ∃ v, x = .returned (.tuple #[v, .int .i64 0, .int .i64 0]) ∧ OwnT B v L W
theorem LexE.err {B : Nat} {o : Except (Int × Nat) (List Tok)} {a : Nat} {i e : Int} {W : World} (h : o = .error (e, a)) (hi : (a : Int) = i) : LexE B o (.returned (.tuple #[.slice none 0 0, .int .i64 i, .int .i64 e])) W := by
  rw [h, ← hi]; rfl
theorem OwnT.less {B B' : Nat} {v : Value} {L : List Tok} {W : World} (h : OwnT B v L W) (hB : B' ≤ B) : OwnT B' v L W := by
  obtain ⟨h1, h2⟩ := h
  refine ⟨h1, ?_⟩
  rcases h2 with h2 | ⟨g, cap, cur, hv, hg, hrest⟩
  · exact Or.inl h2
  · exact Or.inr ⟨g, cap, cur, hv, Nat.le_trans hB hg, hrest⟩
theorem rd_form (j : Nat) (l : List UInt8) : ∃ (kv : Int) (xs : ByteArray) (n : Int), tellY (rdT j l) = .tuple #[.agg #[.int .u8 kv, .string xs, .int .i64 0], .int .i64 n] ∧ ((rdT j l = none ∧ n = 0) ∨ ∃ k a m, rdT j l = some (k, a, m) ∧ kv = (k.toNat : Int) ∧ xs = ⟨a.toArray⟩ ∧ n = (m : Int)) := by
  cases h : rdT j l with
  | none => exact ⟨0, ⟨#[]⟩, 0, rfl, Or.inl ⟨rfl, rfl⟩⟩
  | some x => obtain ⟨k, a, m⟩ := x; exact ⟨_, _, _, rfl, Or.inr ⟨k, a, m, rfl, rfl, rfl, rfl⟩⟩
theorem tell_rd (k : UInt8) (o : Option (List UInt8)) : tellV k o = tellY (o.map fun a => (k, a, a.length)) := by cases o <;> rfl
theorem tell_rx (o : Option (List UInt8 × Nat)) : tellX 3 o = tellY (o.map fun x => (3, x.1, x.2)) := by cases o with | none => rfl | some x => rfl
theorem nil_0 (n : Nat) (w : World) : (nilAhead (n + 1) 46 (.agg #[]) "provost/lex.read").run Tryz.prog w = .ok (some false) w := by kernel_rfl
theorem meth_0 (n : Nat) (w : World) : (method (n + 1) 46 (.agg #[]) "provost/lex.read").run Tryz.prog w = .ok (79, .agg #[]) w := by kernel_rfl
theorem nil_1 (n : Nat) (w : World) : (nilAhead (n + 1) 47 (.agg #[]) "provost/lex.read").run Tryz.prog w = .ok (some false) w := by kernel_rfl
theorem meth_1 (n : Nat) (w : World) : (method (n + 1) 47 (.agg #[]) "provost/lex.read").run Tryz.prog w = .ok (80, .agg #[]) w := by kernel_rfl
theorem nil_2 (n : Nat) (w : World) : (nilAhead (n + 1) 48 (.agg #[]) "provost/lex.read").run Tryz.prog w = .ok (some false) w := by kernel_rfl
theorem meth_2 (n : Nat) (w : World) : (method (n + 1) 48 (.agg #[]) "provost/lex.read").run Tryz.prog w = .ok (81, .agg #[]) w := by kernel_rfl
theorem nil_3 (n : Nat) (w : World) : (nilAhead (n + 1) 49 (.agg #[]) "provost/lex.read").run Tryz.prog w = .ok (some false) w := by kernel_rfl
theorem meth_3 (n : Nat) (w : World) : (method (n + 1) 49 (.agg #[]) "provost/lex.read").run Tryz.prog w = .ok (140, .agg #[]) w := by kernel_rfl
end Go.Proofs.YtgclnjogoghhcaaGreatDoor
namespace Go.Proofs.YtgclnjogoghhcaaGreatDoor
open Go.RowKit
set_option maxRecDepth 100000 in
set_option maxHeartbeats 8000000 in
theorem lex_go (s : ByteArray) (hs : s.size ≤ 16384) (w : World) (hE : EnvU w) (HC : Hid (Calls Tryz.prog 18 #[.string s] w fun e w' => e = .returned (.int .i64 0) ∧ Below w.heap.size w w')) (R : Except (Int × Nat) (List Tok)) (HR : Hid (lexG 1024 0 s.data.toList [] = R)) :
    Calls Tryz.prog 8 #[.string s] w fun e w' => LexE w.heap.size R e w' ∧ Below w.heap.size w w' := by
  obtain ⟨l, hl⟩ : ∃ l, s.data.toList = l := ⟨_, rfl⟩
  rw [hl] at HR
  have hll := len_z s
  rw [hl] at hll
  have HLL := Lib.hid hll
  have HL := Lib.hid hl
  have HSK := Lib.hid (fun (u : ByteArray) (hu : u.size ≤ 1000000) (W : World) (h : Below w.heap.size w W) => skip_any u hu W (hE.below h))
  have HT2 := Lib.hid (fun (u : ByteArray) (h0 : 0 < u.size) (hu : u.size ≤ 17000) (W : World) (h : Below w.heap.size w W) => tread_any u h0 hu W (hE.below h))
  clear hE hl hll
  go_enter Tryz.func8, Tryz.ntmps8
  go_wp2_with fail
  go_step3
  go_wp2_with fail
  refine HC.out.mono ?_; rintro e w1 ⟨rfl, hb⟩
  have HB1 := Lib.hid hb
  clear hb
  go_wp2_with fail
  go_step3
  go_wp2_with fail
  obtain ⟨F, hF⟩ : ∃ F, w1.heap.size = F := ⟨_, rfl⟩
  have hx0 : LX w F 0 (.slice none 0 0) [] ((w1.alloc (.cells #[.int .i32 0] 45)).alloc (.cells #[.iface 46 (.agg #[]), .iface 47 (.agg #[]), .iface 48 (.agg #[]), .iface 49 (.agg #[])] 55)) :=
    ⟨heap_old (heap_new _ _ _ hF.symm), heap_new _ _ _ (by simp [hF]), OwnT.nil _ _, HB1.out.trans (((Below.refl _ _).alloc (Nat.le_refl _) _).alloc (by simp) _ |>.mono HB1.out.size), by rw [← hF]; exact HB1.out.size⟩
  have HX0 := Lib.hid hx0
  rw [hF]
  clear hx0 hF
  go_loopg [2, 3] s.size (fun g v2 v3 wx => ∃ (f at_ : Nat) (L : List Tok), v3 = .int .i64 at_ ∧ at_ + g = s.size ∧ f ≤ 1024 ∧ Hid (L.length ≤ f) ∧ Hid (lexG (1024 - f) at_ (l.drop at_) L = R) ∧ Hid (LX w F f v2 L wx))
  case atStart => exact ⟨0, 0, [], rfl, by omega, by omega, Lib.hid (Nat.zero_le _), Lib.hid (by rw [List.drop_zero]; exact HR.out), HX0⟩
  case round =>
    rename World => wo
    obtain ⟨v2, rfl⟩ : ∃ v2, v2 = u2 := ⟨_, rfl⟩
    generalize gk = g0 at *
    obtain ⟨f, at_, L, rfl, hag, hf, HLN, HG, HX⟩ := hrel
    obtain ⟨u, hu⟩ : ∃ u, s.extract at_ s.size = u := ⟨_, rfl⟩
    have hul : u.data.toList = l.drop at_ := by rw [← hu, extract_drop, HL.out]
    have huz : u.size = s.size - at_ := by
      have := len_z u
      rw [hul, List.length_drop, HLL.out] at this; omega
    have hu6 : u.size ≤ 1000000 := by omega
    have HS1 := Lib.hid (HSK.out u hu6 wo HX.out.bel)
    rw [hul] at HS1
    obtain ⟨sd1, sd2⟩ := skip_drop (l.drop at_)
    obtain ⟨l1, hl1⟩ : ∃ l1, (skip0 (l.drop at_)).1 = l1 := ⟨_, rfl⟩
    obtain ⟨ok, hok⟩ : ∃ ok, (skip0 (l.drop at_)).2 = ok := ⟨_, rfl⟩
    rw [hl1] at sd1 sd2
    have hdl : (l.drop at_).length = u.size := by rw [← hul, len_z]
    rw [hdl] at sd1 sd2
    obtain ⟨m1, hm1⟩ : ∃ m1, u.size - l1.length = m1 := ⟨_, rfl⟩
    rw [hl1, hok, hm1] at HS1
    rw [hm1, List.drop_drop] at sd1
    have hm2 : m1 ≤ u.size := by omega
    have HDL := Lib.hid hdl
    have HM1 := Lib.hid hm1
    have HL1 := Lib.hid hl1
    have HOK := Lib.hid hok
    have HD1 := Lib.hid sd1
    have hle1 : at_ + m1 ≤ s.size := by omega
    have hl1z : l1.length = s.size - (at_ + m1) := by omega
    have HL1Z := Lib.hid hl1z
    have hat : (at_ : Int) ≤ (s.size : Int) := by omega
    clear hul huz hdl sd1 sd2 hl1 hm1 hok hl1z
    cases ok with
    | false =>
      have F1 : Hid (R = .error (170, at_ + m1)) := Lib.hid (by
        rw [← HG.out, lex_bad _ _ _ _ HOK.out, HL1.out, HDL.out, HM1.out])
      go_wp2_with fail
      refine HS1.out.mono ?_; rintro e w2 ⟨rfl, hb⟩
      have HX2 := Lib.hid (HX.out.below hb)
      clear hb
      go_wp2_with fail
      (try rw [Exit.noGoto_ret])
      go_ret3
      exact ⟨LexE.err F1.out (by omega), HX2.out.bel⟩
    | true =>
      by_cases hend : at_ + m1 = s.size
      · have F1 : Hid (R = .ok (L ++ [⟨0, [], ((at_ + m1 : Nat) : Int)⟩])) := Lib.hid (by
          have hl0 : l1 = [] := List.length_eq_zero_iff.1 (by rw [HL1Z.out]; omega)
          have := lex_done (1024 - f) at_ (l.drop at_) L HOK.out (by rw [HL1.out, hl0])
          rw [← HG.out, this, HL1.out, HDL.out, HM1.out])
        have hendi : (at_ : Int) + (m1 : Int) = (s.size : Int) := by omega
        go_wp2_with fail
        refine HS1.out.mono ?_; rintro e w2 ⟨rfl, hb⟩
        have HX2 := Lib.hid (HX.out.below hb)
        clear hb
        go_wp2_with (at_builtin; refine wpList_appT rfl _ _ rfl (F + 2) v2 (.slice (some ⟨w2.heap.size, 0, none⟩) 1 1) L [⟨0, [], (s.size : Int)⟩] rfl (HX2.out.own.below ((Below.refl _ _).alloc (Nat.le_refl _) _)) rfl (tok_new w2 0 [] (s.size : Int)) ?c1 ?c2 ?_)
        case c1 => have := HLN.out; simp; omega
        case c2 => have := HX2.out.lt; simp; omega
        intro v' w3 hown hg
        have HX3 := Lib.hid ((HX2.out.below ((Below.refl _ _).alloc (Nat.le_refl _) _)).grown hown hg)
        clear hown hg
        go_wp2_with fail
        (try rw [Exit.noGoto_ret])
        go_ret3
        refine ⟨?_, HX3.out.bel⟩
        rw [F1.out]
        exact ⟨v', rfl, by rw [show ((at_ + m1 : Nat) : Int) = (s.size : Int) from by omega]; exact HX3.out.own.less (by have := HX3.out.le; omega)⟩
      · have hendi : ¬ ((at_ : Int) + (m1 : Int) = (s.size : Int)) := by omega
        have hne : Hid (l1 ≠ []) := Lib.hid (fun e => by have := HL1Z.out; rw [e] at this; simp at this; omega)
        by_cases hful : f = 1024
        · subst hful
          have F1 : Hid (R = .error (171, at_ + m1)) := Lib.hid (by
            rw [← HG.out, Nat.sub_self, lex_fuel _ _ _ HOK.out (by rw [HL1.out]; exact hne.out), HL1.out, HDL.out, HM1.out])
          go_wp2_with fail
          refine HS1.out.mono ?_; rintro e w2 ⟨rfl, hb⟩
          have HX2 := Lib.hid (HX.out.below hb)
          clear hb
          go_wp2_with fail
          refine (add_any F 1024 (by decide) w2 HX2.out.hf).mono ?_; rintro e w3 ⟨rfl, rfl⟩
          go_wp2_with fail
          (try rw [Exit.noGoto_ret])
          go_ret3
          exact ⟨LexE.err F1.out (by omega), HX2.out.fuel.bel⟩
        · have hf1 : f < 1024 := by omega
          have hfi : ¬ (1024 : Int) < (f : Int) + 1 := by omega
          obtain ⟨A, hA⟩ : ∃ A, at_ + m1 = A := ⟨_, rfl⟩
          have hAi : (at_ : Int) + (m1 : Int) = (A : Int) := by omega
          rw [hA] at HD1 HL1Z hle1
          have hsA : (A : Int) ≠ (s.size : Int) := by omega
          go_wp2_with fail
          refine HS1.out.mono ?_; rintro e w2 ⟨rfl, hb⟩
          have HX2 := Lib.hid (HX.out.below hb)
          clear hb
          go_wp2_with fail
          refine (add_any F f (by omega) w2 HX2.out.hf).mono ?_; rintro e w3 ⟨rfl, hw3⟩
          have HX3 : Hid (LX w F (f + 1) v2 L w3) := Lib.hid (by rw [hw3]; exact HX2.out.fuel)
          clear hw3
          obtain ⟨u2, hu2⟩ : ∃ u2, s.extract A s.size = u2 := ⟨_, rfl⟩
          have hu2l : u2.data.toList = l1 := by rw [← hu2, extract_drop, HL.out, HD1.out]
          have hu2z : u2.size = s.size - A := by
            have := len_z u2
            rw [hu2l, HL1Z.out] at this; omega
          have hu20 : 0 < u2.size := by omega
          have RD0 := Lib.hid (fun W => nread_any u2 (by omega) W)
          have RD1 := Lib.hid (fun W => numread_any u2 (by omega) W)
          have RD2 := Lib.hid (fun W h => HT2.out u2 hu20 (by omega) W h)
          have RD3 := Lib.hid (fun W => pread17_any u2 hu20 (by omega) W)
          rw [hu2l, tell_rd] at RD0 RD1 RD3
          rw [hu2l, tell_rx] at RD2
          have HU2Z := Lib.hid hu2z
          clear hu2l hu2z hu20
          go_wp2_with fail
          rename World => w3
          generalize hwo : w3 = wz at *
          go_loopg [2, 3, 58] 4 (fun g s2 s3 s58 wx => ∃ jj : Nat, s58 = .int .i64 jj ∧ jj + g = 4 ∧ s2 = v2 ∧ s3 = .int .i64 A ∧ Hid (∀ i, i < jj → rdT i l1 = none) ∧ Hid (LX w F (f + 1) v2 L wx))
          case atStart => exact ⟨0, rfl, rfl, rfl, rfl, Lib.hid (fun i h => absurd h (Nat.not_lt_zero _)), HX3⟩
          case round =>
            rename World => wq
            obtain ⟨jj, rfl, hjg, hs2, rfl, HPR, HXQ⟩ := hrel
            obtain rfl := hs2
            obtain ⟨v2, rfl⟩ : ∃ v2, v2 = u2 := ⟨_, rfl⟩
            rcases (show jj = 4 ∨ jj = 0 ∨ jj = 1 ∨ jj = 2 ∨ jj = 3 from by omega) with hj | hj | hj | hj | hj
            · obtain rfl : jj = 4 := hj
              have F1 : Hid (R = .error (170, A)) := Lib.hid (by
                have hn : tokG l1 = none := by rw [tok_rd, HPR.out 0 (by omega), HPR.out 1 (by omega), HPR.out 2 (by omega), HPR.out 3 (by omega)]; rfl
                have := lex_none (1023 - f) at_ (l.drop at_) L HOK.out (by rw [HL1.out]; exact hne.out) (by rw [HL1.out]; exact hn)
                rw [← HG.out, show 1024 - f = 1023 - f + 1 from by omega, this, HL1.out, HDL.out, HM1.out, hA])
              go_wp2_with fail
              (try rw [Exit.noGoto_ret])
              go_ret3
              exact ⟨LexE.err F1.out rfl, HXQ.out.bel⟩
            · obtain rfl : jj = 0 := hj
              have cq0 : wq.cell? ⟨F + 1, 0, none⟩ = some (.iface 46 (.agg #[])) := Lib.cell_of_heap HXQ.out.ha 0
              obtain ⟨kv, xs, nn, hform, hcase⟩ := rd_form 0 l1
              have HRD := RD0
              rw [show tellY ((nameT l1).map fun a => (1, a, a.length)) = tellY (rdT 0 l1) from rfl, hform] at HRD
              have HCASE := Lib.hid hcase
              have hAle : (A : Int) ≤ (s.size : Int) := by omega
              clear hform hcase
              have hnil := fun w => nil_0 279 w
              have hmeth := fun w => meth_0 279 w
              go_upto_region 17 with fail
              go_cut [12, 13] (fun s12 s13 wx => ∃ b, s12 = .pointer (some ⟨b, 0, none⟩) ∧ s13 = .int .i64 nn ∧ Hid (LY w F (f + 1) v2 L b #[.int .u8 kv, .string xs, .int .i64 0] wx))
              case first =>
                refine wp_region_held_drew (S := fun _ => True) (by kernel_rfl) trivial (fun hHeld => ?_)
                refine tky 0 (some 63) (v := ?_) rfl (by kernel_rfl) (by kernel_rfl) (by kernel_rfl) (fun _ _ _ h => h) ?_ hHeld ?_
                rotate_left
                focus (intro w hSw; go_simp; (try with_reducible rfl); done)
                simp only [Act.put, List.setIfInBounds_toArray, List.set_cons_zero, List.set_cons_succ]
                refine tky 1 (some 64) (v := ?_) rfl (by kernel_rfl) (by kernel_rfl) (by kernel_rfl) (fun _ _ _ h => h) ?_ hHeld ?_
                rotate_left
                focus (intro w hSw; go_simp; (try with_reducible rfl); done)
                simp only [Act.put, List.setIfInBounds_toArray, List.set_cons_zero, List.set_cons_succ]
                refine tky 2 (some 65) (v := ?_) rfl (by kernel_rfl) (by kernel_rfl) (by kernel_rfl) (fun _ _ _ h => h) ?_ hHeld ?_
                rotate_left
                focus (intro w hSw; go_simp; (try with_reducible rfl); done)
                simp only [Act.put, List.setIfInBounds_toArray, List.set_cons_zero, List.set_cons_succ]
                refine tky 3 (some 66) (v := ?_) rfl (by kernel_rfl) (by kernel_rfl) (by kernel_rfl) (fun _ _ _ h => h) ?_ hHeld ?_
                rotate_left
                focus (intro w hSw; go_simp; (try with_reducible rfl); done)
                simp only [Act.put, List.setIfInBounds_toArray, List.set_cons_zero, List.set_cons_succ]
                refine tky 4 (some 67) (v := ?_) rfl (by kernel_rfl) (by kernel_rfl) (by kernel_rfl) (fun _ _ _ h => h) ?_ hHeld ?_
                rotate_left
                focus (intro w hSw; go_simp; (try with_reducible rfl); done)
                simp only [Act.put, List.setIfInBounds_toArray, List.set_cons_zero, List.set_cons_succ]
                refine tky 5 (some 68) (v := ?_) rfl (by kernel_rfl) (by kernel_rfl) (by kernel_rfl) (fun _ _ _ h => h) ?_ hHeld ?_
                rotate_left
                focus (intro w hSw; go_simp; (try with_reducible rfl); done)
                simp only [Act.put, List.setIfInBounds_toArray, List.set_cons_zero, List.set_cons_succ]
                refine tky 6 (some 69) (v := ?_) rfl (by kernel_rfl) (by kernel_rfl) (by kernel_rfl) (fun _ _ _ h => h) ?_ hHeld ?_
                rotate_left
                focus (intro w hSw; go_simp; (try with_reducible rfl); done)
                simp only [Act.put, List.setIfInBounds_toArray, List.set_cons_zero, List.set_cons_succ]
                refine wpAnyH_ready (rs := [7, 11]) (by kernel_rfl) (by simp) ?_
                refine acons 7 rfl (fun K hK => ?_) ?_
                · go_simp
                  ((with_reducible refine (HRD.out _).mono ?_); rintro e w5 ⟨rfl, hb5⟩)
                  (try dsimp only)
                  refine hK.out _ _ trivial (fun _ => ?_)
                  clear hK K
                  (try simp only [Act.put, List.setIfInBounds_toArray, List.set_cons_zero, List.set_cons_succ])
                  (try (have hh5 := (hb5.block _ (by simp)).trans (heap_alloc_new _ _); obtain ⟨⟨c0, c1, c2⟩, ⟨g0, g1, g2⟩, hz5⟩ := tcells hh5))
                  refine tky 8 (some 62) (v := ?_) rfl (by kernel_rfl) (by kernel_rfl) (by kernel_rfl) (fun _ _ _ h => h) ?_ hHeld ?_
                  rotate_left
                  focus (intro w hSw; go_simp; (try with_reducible rfl); done)
                  simp only [Act.put, List.setIfInBounds_toArray, List.set_cons_zero, List.set_cons_succ]
                  refine tky 9 (some 71) (v := ?_) rfl (by kernel_rfl) (by kernel_rfl) (by kernel_rfl) (fun _ _ _ h => h) ?_ hHeld ?_
                  rotate_left
                  focus (intro w hSw; go_simp; (try with_reducible rfl); done)
                  simp only [Act.put, List.setIfInBounds_toArray, List.set_cons_zero, List.set_cons_succ]
                  refine tky 10 (some 72) (v := ?_) rfl (by kernel_rfl) (by kernel_rfl) (by kernel_rfl) (fun _ _ _ h => h) ?_ hHeld ?_
                  rotate_left
                  focus (intro w hSw; go_simp; (try with_reducible rfl); done)
                  simp only [Act.put, List.setIfInBounds_toArray, List.set_cons_zero, List.set_cons_succ]
                  refine rcons 11 rfl (by kernel_rfl) (fun K hK => ?_)
                  go_simp
                  refine hK.out _ _ trivial (fun _ => ?_)
                  clear hK K
                  (try simp only [Act.put, List.setIfInBounds_toArray, List.set_cons_zero, List.set_cons_succ])
                  refine rcons 12 rfl (by kernel_rfl) (fun K hK => ?_)
                  go_simp
                  refine hK.out _ _ trivial (fun _ => ?_)
                  clear hK K
                  (try simp only [Act.put, List.setIfInBounds_toArray, List.set_cons_zero, List.set_cons_succ])
                  refine tky 13 (some 13) (v := ?_) rfl (by kernel_rfl) (by kernel_rfl) (by kernel_rfl) (fun _ _ _ h => h) ?_ hHeld ?_
                  rotate_left
                  focus (intro w hSw; go_simp; (try with_reducible rfl); done)
                  simp only [Act.put, List.setIfInBounds_toArray, List.set_cons_zero, List.set_cons_succ]
                  refine wpAnyH_done (by kernel_rfl) ?_ _
                  go_wp2_with fail
                  go_meet
                  first | exact ⟨_, rfl, rfl, Lib.hid (LY.new1 HXQ.out hb5 _ _ _)⟩ | exact ⟨_, rfl, rfl, Lib.hid (LY.new2 HXQ.out hb5 _ _ _ hh5 _ _ _)⟩
                refine acons 11 rfl (fun K hK => ?_) ?_
                · go_simp
                  refine hK.out _ _ trivial (fun _ => ?_)
                  clear hK K
                  (try simp only [Act.put, List.setIfInBounds_toArray, List.set_cons_zero, List.set_cons_succ])
                  refine rcons 7 rfl (by kernel_rfl) (fun K hK => ?_)
                  go_simp
                  ((with_reducible refine (HRD.out _).mono ?_); rintro e w5 ⟨rfl, hb5⟩)
                  (try dsimp only)
                  refine hK.out _ _ trivial (fun _ => ?_)
                  clear hK K
                  (try simp only [Act.put, List.setIfInBounds_toArray, List.set_cons_zero, List.set_cons_succ])
                  (try (have hh5 := (hb5.block _ (by simp)).trans (heap_alloc_new _ _); obtain ⟨⟨c0, c1, c2⟩, ⟨g0, g1, g2⟩, hz5⟩ := tcells hh5))
                  refine tky 8 (some 62) (v := ?_) rfl (by kernel_rfl) (by kernel_rfl) (by kernel_rfl) (fun _ _ _ h => h) ?_ hHeld ?_
                  rotate_left
                  focus (intro w hSw; go_simp; (try with_reducible rfl); done)
                  simp only [Act.put, List.setIfInBounds_toArray, List.set_cons_zero, List.set_cons_succ]
                  refine tky 9 (some 71) (v := ?_) rfl (by kernel_rfl) (by kernel_rfl) (by kernel_rfl) (fun _ _ _ h => h) ?_ hHeld ?_
                  rotate_left
                  focus (intro w hSw; go_simp; (try with_reducible rfl); done)
                  simp only [Act.put, List.setIfInBounds_toArray, List.set_cons_zero, List.set_cons_succ]
                  refine tky 10 (some 72) (v := ?_) rfl (by kernel_rfl) (by kernel_rfl) (by kernel_rfl) (fun _ _ _ h => h) ?_ hHeld ?_
                  rotate_left
                  focus (intro w hSw; go_simp; (try with_reducible rfl); done)
                  simp only [Act.put, List.setIfInBounds_toArray, List.set_cons_zero, List.set_cons_succ]
                  refine rcons 12 rfl (by kernel_rfl) (fun K hK => ?_)
                  go_simp
                  refine hK.out _ _ trivial (fun _ => ?_)
                  clear hK K
                  (try simp only [Act.put, List.setIfInBounds_toArray, List.set_cons_zero, List.set_cons_succ])
                  refine tky 13 (some 13) (v := ?_) rfl (by kernel_rfl) (by kernel_rfl) (by kernel_rfl) (fun _ _ _ h => h) ?_ hHeld ?_
                  rotate_left
                  focus (intro w hSw; go_simp; (try with_reducible rfl); done)
                  simp only [Act.put, List.setIfInBounds_toArray, List.set_cons_zero, List.set_cons_succ]
                  refine wpAnyH_done (by kernel_rfl) ?_ _
                  go_wp2_with fail
                  go_meet
                  first | exact ⟨_, rfl, rfl, Lib.hid (LY.new1 HXQ.out hb5 _ _ _)⟩ | exact ⟨_, rfl, rfl, Lib.hid (LY.new2 HXQ.out hb5 _ _ _ hh5 _ _ _)⟩
                exact AllReadyH.nil
              case rest =>
                clear cq0 hnil hmeth HRD
                rename World => wy
                obtain ⟨b, rfl, rfl, HY⟩ := hcut
                rcases HCASE.out with ⟨hno, hn0⟩ | ⟨k, a, m, hso, hkv, hxs, hnn⟩
                · have HPR2 : Hid (∀ i, i < 0 + 1 → rdT i l1 = none) := Lib.hid (fun i hi => by
                    by_cases h : i = 0
                    · rw [h]; exact hno
                    · exact HPR.out i (by omega))
                  subst hn0
                  clear hno
                  go_wp2_with fail
                  go_roundg 3
                  case measure => omega
                  case rel => exact ⟨0 + 1, rfl, by omega, rfl, rfl, HPR2, Lib.hid HY.out.x⟩
                · subst hkv hxs hnn
                  obtain ⟨ht, hm0, hml⟩ := rd_pos 0 l1 (by have := HL1Z.out; omega) HPR.out (by omega) k a m hso
                  rw [HL1Z.out] at hml
                  have HLEX : Hid (lexG (1024 - (f + 1)) (A + m) (l.drop (A + m)) (L ++ [⟨k, a, (A : Int)⟩]) = R) := Lib.hid (by
                    have := lex_some (1023 - f) at_ (l.drop at_) L k a m HOK.out (by rw [HL1.out]; exact hne.out) (by rw [HL1.out]; exact ht)
                    rw [HL1.out, HDL.out, HM1.out, hA, HD1.out, List.drop_drop] at this
                    rw [← HG.out, show 1024 - f = 1023 - f + 1 from by omega, this, show 1024 - (f + 1) = 1023 - f from by omega])
                  have hmi : (0 : Int) < (m : Int) := by omega
                  have hAm : A + m ≤ s.size := by omega
                  obtain ⟨aa, haa⟩ : ∃ aa : ByteArray, (⟨a.toArray⟩ : ByteArray) = aa := ⟨_, rfl⟩
                  have HTN := Lib.hid (fun (W : World) (n : Nat) (hn : n = W.heap.size) => tok_newn n W hn k a (A : Int))
                  rw [haa] at HTN HY
                  obtain ⟨⟨c0, c1, c2⟩, ⟨g0_, g1, g2⟩, hz⟩ := tcells HY.out.ht
                  have hy2 := pset (i := 2) HY.out.ht (.int .i64 (A : Int)) rfl
                  obtain ⟨⟨d0, d1, d2⟩, ⟨q0, q1, q2⟩, hzz⟩ := tcells hy2
                  have HX5 : Hid (LX w F (f + 1) v2 L (wy.setCell ⟨b, 2, none⟩ (.int .i64 (A : Int)))) := Lib.hid (HY.out.x.set 2 _ HY.out.hb HY.out.ne)
                  clear hy2 ht hso haa
                  go_wp2_with (at_builtin; refine wpList_appT rfl _ _ rfl (F + 2) v2 (.slice (some ⟨wy.heap.size, 0, none⟩) 1 1) L [⟨k, a, (A : Int)⟩] rfl (HX5.out.own.below ((Below.refl _ _).alloc (Nat.le_refl _) _)) rfl (HTN.out _ _ (by simp)) ?c1 ?c2 ?_)
                  case c1 => have := HLN.out; simp; omega
                  case c2 => have := HX5.out.lt; simp at this ⊢; omega
                  intro v' w6 hown hg
                  have HX6 := Lib.hid ((HX5.out.below ((Below.refl _ _).alloc (Nat.le_refl _) _)).grown hown hg)
                  clear hown hg c0 c1 c2 g0_ g1 g2 hz d0 d1 d2 q0 q1 q2 hzz
                  go_wp2_with fail
                  obtain ⟨gg, hgg⟩ : ∃ gg, A + m + gg = s.size := ⟨s.size - (A + m), by omega⟩
                  go_roundg gg
                  case measure => omega
                  case rel => exact ⟨f + 1, A + m, L ++ [⟨k, a, (A : Int)⟩], by go_num, hgg, by omega, Lib.hid (by have := HLN.out; simp; omega), HLEX, HX6⟩
            · obtain rfl : jj = 1 := hj
              have cq0 : wq.cell? ⟨F + 1, 1, none⟩ = some (.iface 47 (.agg #[])) := Lib.cell_of_heap HXQ.out.ha 1
              obtain ⟨kv, xs, nn, hform, hcase⟩ := rd_form 1 l1
              have HRD := RD1
              rw [show tellY ((numTk l1).map fun a => (2, a, a.length)) = tellY (rdT 1 l1) from rfl, hform] at HRD
              have HCASE := Lib.hid hcase
              have hAle : (A : Int) ≤ (s.size : Int) := by omega
              clear hform hcase
              have hnil := fun w => nil_1 279 w
              have hmeth := fun w => meth_1 279 w
              go_upto_region 17 with fail
              go_cut [12, 13] (fun s12 s13 wx => ∃ b, s12 = .pointer (some ⟨b, 0, none⟩) ∧ s13 = .int .i64 nn ∧ Hid (LY w F (f + 1) v2 L b #[.int .u8 kv, .string xs, .int .i64 0] wx))
              case first =>
                refine wp_region_held_drew (S := fun _ => True) (by kernel_rfl) trivial (fun hHeld => ?_)
                refine tky 0 (some 63) (v := ?_) rfl (by kernel_rfl) (by kernel_rfl) (by kernel_rfl) (fun _ _ _ h => h) ?_ hHeld ?_
                rotate_left
                focus (intro w hSw; go_simp; (try with_reducible rfl); done)
                simp only [Act.put, List.setIfInBounds_toArray, List.set_cons_zero, List.set_cons_succ]
                refine tky 1 (some 64) (v := ?_) rfl (by kernel_rfl) (by kernel_rfl) (by kernel_rfl) (fun _ _ _ h => h) ?_ hHeld ?_
                rotate_left
                focus (intro w hSw; go_simp; (try with_reducible rfl); done)
                simp only [Act.put, List.setIfInBounds_toArray, List.set_cons_zero, List.set_cons_succ]
                refine tky 2 (some 65) (v := ?_) rfl (by kernel_rfl) (by kernel_rfl) (by kernel_rfl) (fun _ _ _ h => h) ?_ hHeld ?_
                rotate_left
                focus (intro w hSw; go_simp; (try with_reducible rfl); done)
                simp only [Act.put, List.setIfInBounds_toArray, List.set_cons_zero, List.set_cons_succ]
                refine tky 3 (some 66) (v := ?_) rfl (by kernel_rfl) (by kernel_rfl) (by kernel_rfl) (fun _ _ _ h => h) ?_ hHeld ?_
                rotate_left
                focus (intro w hSw; go_simp; (try with_reducible rfl); done)
                simp only [Act.put, List.setIfInBounds_toArray, List.set_cons_zero, List.set_cons_succ]
                refine tky 4 (some 67) (v := ?_) rfl (by kernel_rfl) (by kernel_rfl) (by kernel_rfl) (fun _ _ _ h => h) ?_ hHeld ?_
                rotate_left
                focus (intro w hSw; go_simp; (try with_reducible rfl); done)
                simp only [Act.put, List.setIfInBounds_toArray, List.set_cons_zero, List.set_cons_succ]
                refine tky 5 (some 68) (v := ?_) rfl (by kernel_rfl) (by kernel_rfl) (by kernel_rfl) (fun _ _ _ h => h) ?_ hHeld ?_
                rotate_left
                focus (intro w hSw; go_simp; (try with_reducible rfl); done)
                simp only [Act.put, List.setIfInBounds_toArray, List.set_cons_zero, List.set_cons_succ]
                refine tky 6 (some 69) (v := ?_) rfl (by kernel_rfl) (by kernel_rfl) (by kernel_rfl) (fun _ _ _ h => h) ?_ hHeld ?_
                rotate_left
                focus (intro w hSw; go_simp; (try with_reducible rfl); done)
                simp only [Act.put, List.setIfInBounds_toArray, List.set_cons_zero, List.set_cons_succ]
                refine wpAnyH_ready (rs := [7, 11]) (by kernel_rfl) (by simp) ?_
                refine acons 7 rfl (fun K hK => ?_) ?_
                · go_simp
                  ((with_reducible refine (HRD.out _).mono ?_); rintro e w5 ⟨rfl, hb5⟩)
                  (try dsimp only)
                  refine hK.out _ _ trivial (fun _ => ?_)
                  clear hK K
                  (try simp only [Act.put, List.setIfInBounds_toArray, List.set_cons_zero, List.set_cons_succ])
                  (try (have hh5 := (hb5.block _ (by simp)).trans (heap_alloc_new _ _); obtain ⟨⟨c0, c1, c2⟩, ⟨g0, g1, g2⟩, hz5⟩ := tcells hh5))
                  refine tky 8 (some 62) (v := ?_) rfl (by kernel_rfl) (by kernel_rfl) (by kernel_rfl) (fun _ _ _ h => h) ?_ hHeld ?_
                  rotate_left
                  focus (intro w hSw; go_simp; (try with_reducible rfl); done)
                  simp only [Act.put, List.setIfInBounds_toArray, List.set_cons_zero, List.set_cons_succ]
                  refine tky 9 (some 71) (v := ?_) rfl (by kernel_rfl) (by kernel_rfl) (by kernel_rfl) (fun _ _ _ h => h) ?_ hHeld ?_
                  rotate_left
                  focus (intro w hSw; go_simp; (try with_reducible rfl); done)
                  simp only [Act.put, List.setIfInBounds_toArray, List.set_cons_zero, List.set_cons_succ]
                  refine tky 10 (some 72) (v := ?_) rfl (by kernel_rfl) (by kernel_rfl) (by kernel_rfl) (fun _ _ _ h => h) ?_ hHeld ?_
                  rotate_left
                  focus (intro w hSw; go_simp; (try with_reducible rfl); done)
                  simp only [Act.put, List.setIfInBounds_toArray, List.set_cons_zero, List.set_cons_succ]
                  refine rcons 11 rfl (by kernel_rfl) (fun K hK => ?_)
                  go_simp
                  refine hK.out _ _ trivial (fun _ => ?_)
                  clear hK K
                  (try simp only [Act.put, List.setIfInBounds_toArray, List.set_cons_zero, List.set_cons_succ])
                  refine rcons 12 rfl (by kernel_rfl) (fun K hK => ?_)
                  go_simp
                  refine hK.out _ _ trivial (fun _ => ?_)
                  clear hK K
                  (try simp only [Act.put, List.setIfInBounds_toArray, List.set_cons_zero, List.set_cons_succ])
                  refine tky 13 (some 13) (v := ?_) rfl (by kernel_rfl) (by kernel_rfl) (by kernel_rfl) (fun _ _ _ h => h) ?_ hHeld ?_
                  rotate_left
                  focus (intro w hSw; go_simp; (try with_reducible rfl); done)
                  simp only [Act.put, List.setIfInBounds_toArray, List.set_cons_zero, List.set_cons_succ]
                  refine wpAnyH_done (by kernel_rfl) ?_ _
                  go_wp2_with fail
                  go_meet
                  first | exact ⟨_, rfl, rfl, Lib.hid (LY.new1 HXQ.out hb5 _ _ _)⟩ | exact ⟨_, rfl, rfl, Lib.hid (LY.new2 HXQ.out hb5 _ _ _ hh5 _ _ _)⟩
                refine acons 11 rfl (fun K hK => ?_) ?_
                · go_simp
                  refine hK.out _ _ trivial (fun _ => ?_)
                  clear hK K
                  (try simp only [Act.put, List.setIfInBounds_toArray, List.set_cons_zero, List.set_cons_succ])
                  refine rcons 7 rfl (by kernel_rfl) (fun K hK => ?_)
                  go_simp
                  ((with_reducible refine (HRD.out _).mono ?_); rintro e w5 ⟨rfl, hb5⟩)
                  (try dsimp only)
                  refine hK.out _ _ trivial (fun _ => ?_)
                  clear hK K
                  (try simp only [Act.put, List.setIfInBounds_toArray, List.set_cons_zero, List.set_cons_succ])
                  (try (have hh5 := (hb5.block _ (by simp)).trans (heap_alloc_new _ _); obtain ⟨⟨c0, c1, c2⟩, ⟨g0, g1, g2⟩, hz5⟩ := tcells hh5))
                  refine tky 8 (some 62) (v := ?_) rfl (by kernel_rfl) (by kernel_rfl) (by kernel_rfl) (fun _ _ _ h => h) ?_ hHeld ?_
                  rotate_left
                  focus (intro w hSw; go_simp; (try with_reducible rfl); done)
                  simp only [Act.put, List.setIfInBounds_toArray, List.set_cons_zero, List.set_cons_succ]
                  refine tky 9 (some 71) (v := ?_) rfl (by kernel_rfl) (by kernel_rfl) (by kernel_rfl) (fun _ _ _ h => h) ?_ hHeld ?_
                  rotate_left
                  focus (intro w hSw; go_simp; (try with_reducible rfl); done)
                  simp only [Act.put, List.setIfInBounds_toArray, List.set_cons_zero, List.set_cons_succ]
                  refine tky 10 (some 72) (v := ?_) rfl (by kernel_rfl) (by kernel_rfl) (by kernel_rfl) (fun _ _ _ h => h) ?_ hHeld ?_
                  rotate_left
                  focus (intro w hSw; go_simp; (try with_reducible rfl); done)
                  simp only [Act.put, List.setIfInBounds_toArray, List.set_cons_zero, List.set_cons_succ]
                  refine rcons 12 rfl (by kernel_rfl) (fun K hK => ?_)
                  go_simp
                  refine hK.out _ _ trivial (fun _ => ?_)
                  clear hK K
                  (try simp only [Act.put, List.setIfInBounds_toArray, List.set_cons_zero, List.set_cons_succ])
                  refine tky 13 (some 13) (v := ?_) rfl (by kernel_rfl) (by kernel_rfl) (by kernel_rfl) (fun _ _ _ h => h) ?_ hHeld ?_
                  rotate_left
                  focus (intro w hSw; go_simp; (try with_reducible rfl); done)
                  simp only [Act.put, List.setIfInBounds_toArray, List.set_cons_zero, List.set_cons_succ]
                  refine wpAnyH_done (by kernel_rfl) ?_ _
                  go_wp2_with fail
                  go_meet
                  first | exact ⟨_, rfl, rfl, Lib.hid (LY.new1 HXQ.out hb5 _ _ _)⟩ | exact ⟨_, rfl, rfl, Lib.hid (LY.new2 HXQ.out hb5 _ _ _ hh5 _ _ _)⟩
                exact AllReadyH.nil
              case rest =>
                clear cq0 hnil hmeth HRD
                rename World => wy
                obtain ⟨b, rfl, rfl, HY⟩ := hcut
                rcases HCASE.out with ⟨hno, hn0⟩ | ⟨k, a, m, hso, hkv, hxs, hnn⟩
                · have HPR2 : Hid (∀ i, i < 1 + 1 → rdT i l1 = none) := Lib.hid (fun i hi => by
                    by_cases h : i = 1
                    · rw [h]; exact hno
                    · exact HPR.out i (by omega))
                  subst hn0
                  clear hno
                  go_wp2_with fail
                  go_roundg 2
                  case measure => omega
                  case rel => exact ⟨1 + 1, rfl, by omega, rfl, rfl, HPR2, Lib.hid HY.out.x⟩
                · subst hkv hxs hnn
                  obtain ⟨ht, hm0, hml⟩ := rd_pos 1 l1 (by have := HL1Z.out; omega) HPR.out (by omega) k a m hso
                  rw [HL1Z.out] at hml
                  have HLEX : Hid (lexG (1024 - (f + 1)) (A + m) (l.drop (A + m)) (L ++ [⟨k, a, (A : Int)⟩]) = R) := Lib.hid (by
                    have := lex_some (1023 - f) at_ (l.drop at_) L k a m HOK.out (by rw [HL1.out]; exact hne.out) (by rw [HL1.out]; exact ht)
                    rw [HL1.out, HDL.out, HM1.out, hA, HD1.out, List.drop_drop] at this
                    rw [← HG.out, show 1024 - f = 1023 - f + 1 from by omega, this, show 1024 - (f + 1) = 1023 - f from by omega])
                  have hmi : (0 : Int) < (m : Int) := by omega
                  have hAm : A + m ≤ s.size := by omega
                  obtain ⟨aa, haa⟩ : ∃ aa : ByteArray, (⟨a.toArray⟩ : ByteArray) = aa := ⟨_, rfl⟩
                  have HTN := Lib.hid (fun (W : World) (n : Nat) (hn : n = W.heap.size) => tok_newn n W hn k a (A : Int))
                  rw [haa] at HTN HY
                  obtain ⟨⟨c0, c1, c2⟩, ⟨g0_, g1, g2⟩, hz⟩ := tcells HY.out.ht
                  have hy2 := pset (i := 2) HY.out.ht (.int .i64 (A : Int)) rfl
                  obtain ⟨⟨d0, d1, d2⟩, ⟨q0, q1, q2⟩, hzz⟩ := tcells hy2
                  have HX5 : Hid (LX w F (f + 1) v2 L (wy.setCell ⟨b, 2, none⟩ (.int .i64 (A : Int)))) := Lib.hid (HY.out.x.set 2 _ HY.out.hb HY.out.ne)
                  clear hy2 ht hso haa
                  go_wp2_with (at_builtin; refine wpList_appT rfl _ _ rfl (F + 2) v2 (.slice (some ⟨wy.heap.size, 0, none⟩) 1 1) L [⟨k, a, (A : Int)⟩] rfl (HX5.out.own.below ((Below.refl _ _).alloc (Nat.le_refl _) _)) rfl (HTN.out _ _ (by simp)) ?c1 ?c2 ?_)
                  case c1 => have := HLN.out; simp; omega
                  case c2 => have := HX5.out.lt; simp at this ⊢; omega
                  intro v' w6 hown hg
                  have HX6 := Lib.hid ((HX5.out.below ((Below.refl _ _).alloc (Nat.le_refl _) _)).grown hown hg)
                  clear hown hg c0 c1 c2 g0_ g1 g2 hz d0 d1 d2 q0 q1 q2 hzz
                  go_wp2_with fail
                  obtain ⟨gg, hgg⟩ : ∃ gg, A + m + gg = s.size := ⟨s.size - (A + m), by omega⟩
                  go_roundg gg
                  case measure => omega
                  case rel => exact ⟨f + 1, A + m, L ++ [⟨k, a, (A : Int)⟩], by go_num, hgg, by omega, Lib.hid (by have := HLN.out; simp; omega), HLEX, HX6⟩
            · obtain rfl : jj = 2 := hj
              have cq0 : wq.cell? ⟨F + 1, 2, none⟩ = some (.iface 48 (.agg #[])) := Lib.cell_of_heap HXQ.out.ha 2
              obtain ⟨kv, xs, nn, hform, hcase⟩ := rd_form 2 l1
              have HRD := RD2
              rw [show tellY ((txtT l1).map fun x => (3, x.1, x.2)) = tellY (rdT 2 l1) from rfl, hform] at HRD
              have HCASE := Lib.hid hcase
              have hAle : (A : Int) ≤ (s.size : Int) := by omega
              clear hform hcase
              have hnil := fun w => nil_2 279 w
              have hmeth := fun w => meth_2 279 w
              go_upto_region 17 with fail
              go_cut [12, 13] (fun s12 s13 wx => ∃ b, s12 = .pointer (some ⟨b, 0, none⟩) ∧ s13 = .int .i64 nn ∧ Hid (LY w F (f + 1) v2 L b #[.int .u8 kv, .string xs, .int .i64 0] wx))
              case first =>
                refine wp_region_held_drew (S := fun _ => True) (by kernel_rfl) trivial (fun hHeld => ?_)
                refine tky 0 (some 63) (v := ?_) rfl (by kernel_rfl) (by kernel_rfl) (by kernel_rfl) (fun _ _ _ h => h) ?_ hHeld ?_
                rotate_left
                focus (intro w hSw; go_simp; (try with_reducible rfl); done)
                simp only [Act.put, List.setIfInBounds_toArray, List.set_cons_zero, List.set_cons_succ]
                refine tky 1 (some 64) (v := ?_) rfl (by kernel_rfl) (by kernel_rfl) (by kernel_rfl) (fun _ _ _ h => h) ?_ hHeld ?_
                rotate_left
                focus (intro w hSw; go_simp; (try with_reducible rfl); done)
                simp only [Act.put, List.setIfInBounds_toArray, List.set_cons_zero, List.set_cons_succ]
                refine tky 2 (some 65) (v := ?_) rfl (by kernel_rfl) (by kernel_rfl) (by kernel_rfl) (fun _ _ _ h => h) ?_ hHeld ?_
                rotate_left
                focus (intro w hSw; go_simp; (try with_reducible rfl); done)
                simp only [Act.put, List.setIfInBounds_toArray, List.set_cons_zero, List.set_cons_succ]
                refine tky 3 (some 66) (v := ?_) rfl (by kernel_rfl) (by kernel_rfl) (by kernel_rfl) (fun _ _ _ h => h) ?_ hHeld ?_
                rotate_left
                focus (intro w hSw; go_simp; (try with_reducible rfl); done)
                simp only [Act.put, List.setIfInBounds_toArray, List.set_cons_zero, List.set_cons_succ]
                refine tky 4 (some 67) (v := ?_) rfl (by kernel_rfl) (by kernel_rfl) (by kernel_rfl) (fun _ _ _ h => h) ?_ hHeld ?_
                rotate_left
                focus (intro w hSw; go_simp; (try with_reducible rfl); done)
                simp only [Act.put, List.setIfInBounds_toArray, List.set_cons_zero, List.set_cons_succ]
                refine tky 5 (some 68) (v := ?_) rfl (by kernel_rfl) (by kernel_rfl) (by kernel_rfl) (fun _ _ _ h => h) ?_ hHeld ?_
                rotate_left
                focus (intro w hSw; go_simp; (try with_reducible rfl); done)
                simp only [Act.put, List.setIfInBounds_toArray, List.set_cons_zero, List.set_cons_succ]
                refine tky 6 (some 69) (v := ?_) rfl (by kernel_rfl) (by kernel_rfl) (by kernel_rfl) (fun _ _ _ h => h) ?_ hHeld ?_
                rotate_left
                focus (intro w hSw; go_simp; (try with_reducible rfl); done)
                simp only [Act.put, List.setIfInBounds_toArray, List.set_cons_zero, List.set_cons_succ]
                refine wpAnyH_ready (rs := [7, 11]) (by kernel_rfl) (by simp) ?_
                refine acons 7 rfl (fun K hK => ?_) ?_
                · go_simp
                  (refine (HRD.out _ (by first | exact HXQ.out.bel.drew | exact (HXQ.out.bel.alloc HXQ.out.bel.size _).drew)).mono ?_; rintro e w5 ⟨rfl, hb5⟩)
                  (try dsimp only)
                  refine hK.out _ _ trivial (fun _ => ?_)
                  clear hK K
                  (try simp only [Act.put, List.setIfInBounds_toArray, List.set_cons_zero, List.set_cons_succ])
                  (try (have hh5 := (hb5.block _ (by simp)).trans (heap_alloc_new _ _); obtain ⟨⟨c0, c1, c2⟩, ⟨g0, g1, g2⟩, hz5⟩ := tcells hh5))
                  refine tky 8 (some 62) (v := ?_) rfl (by kernel_rfl) (by kernel_rfl) (by kernel_rfl) (fun _ _ _ h => h) ?_ hHeld ?_
                  rotate_left
                  focus (intro w hSw; go_simp; (try with_reducible rfl); done)
                  simp only [Act.put, List.setIfInBounds_toArray, List.set_cons_zero, List.set_cons_succ]
                  refine tky 9 (some 71) (v := ?_) rfl (by kernel_rfl) (by kernel_rfl) (by kernel_rfl) (fun _ _ _ h => h) ?_ hHeld ?_
                  rotate_left
                  focus (intro w hSw; go_simp; (try with_reducible rfl); done)
                  simp only [Act.put, List.setIfInBounds_toArray, List.set_cons_zero, List.set_cons_succ]
                  refine tky 10 (some 72) (v := ?_) rfl (by kernel_rfl) (by kernel_rfl) (by kernel_rfl) (fun _ _ _ h => h) ?_ hHeld ?_
                  rotate_left
                  focus (intro w hSw; go_simp; (try with_reducible rfl); done)
                  simp only [Act.put, List.setIfInBounds_toArray, List.set_cons_zero, List.set_cons_succ]
                  refine rcons 11 rfl (by kernel_rfl) (fun K hK => ?_)
                  go_simp
                  refine hK.out _ _ trivial (fun _ => ?_)
                  clear hK K
                  (try simp only [Act.put, List.setIfInBounds_toArray, List.set_cons_zero, List.set_cons_succ])
                  refine rcons 12 rfl (by kernel_rfl) (fun K hK => ?_)
                  go_simp
                  refine hK.out _ _ trivial (fun _ => ?_)
                  clear hK K
                  (try simp only [Act.put, List.setIfInBounds_toArray, List.set_cons_zero, List.set_cons_succ])
                  refine tky 13 (some 13) (v := ?_) rfl (by kernel_rfl) (by kernel_rfl) (by kernel_rfl) (fun _ _ _ h => h) ?_ hHeld ?_
                  rotate_left
                  focus (intro w hSw; go_simp; (try with_reducible rfl); done)
                  simp only [Act.put, List.setIfInBounds_toArray, List.set_cons_zero, List.set_cons_succ]
                  refine wpAnyH_done (by kernel_rfl) ?_ _
                  go_wp2_with fail
                  go_meet
                  first | exact ⟨_, rfl, rfl, Lib.hid (LY.new1 HXQ.out hb5 _ _ _)⟩ | exact ⟨_, rfl, rfl, Lib.hid (LY.new2 HXQ.out hb5 _ _ _ hh5 _ _ _)⟩
                refine acons 11 rfl (fun K hK => ?_) ?_
                · go_simp
                  refine hK.out _ _ trivial (fun _ => ?_)
                  clear hK K
                  (try simp only [Act.put, List.setIfInBounds_toArray, List.set_cons_zero, List.set_cons_succ])
                  refine rcons 7 rfl (by kernel_rfl) (fun K hK => ?_)
                  go_simp
                  (refine (HRD.out _ (by first | exact HXQ.out.bel.drew | exact (HXQ.out.bel.alloc HXQ.out.bel.size _).drew)).mono ?_; rintro e w5 ⟨rfl, hb5⟩)
                  (try dsimp only)
                  refine hK.out _ _ trivial (fun _ => ?_)
                  clear hK K
                  (try simp only [Act.put, List.setIfInBounds_toArray, List.set_cons_zero, List.set_cons_succ])
                  (try (have hh5 := (hb5.block _ (by simp)).trans (heap_alloc_new _ _); obtain ⟨⟨c0, c1, c2⟩, ⟨g0, g1, g2⟩, hz5⟩ := tcells hh5))
                  refine tky 8 (some 62) (v := ?_) rfl (by kernel_rfl) (by kernel_rfl) (by kernel_rfl) (fun _ _ _ h => h) ?_ hHeld ?_
                  rotate_left
                  focus (intro w hSw; go_simp; (try with_reducible rfl); done)
                  simp only [Act.put, List.setIfInBounds_toArray, List.set_cons_zero, List.set_cons_succ]
                  refine tky 9 (some 71) (v := ?_) rfl (by kernel_rfl) (by kernel_rfl) (by kernel_rfl) (fun _ _ _ h => h) ?_ hHeld ?_
                  rotate_left
                  focus (intro w hSw; go_simp; (try with_reducible rfl); done)
                  simp only [Act.put, List.setIfInBounds_toArray, List.set_cons_zero, List.set_cons_succ]
                  refine tky 10 (some 72) (v := ?_) rfl (by kernel_rfl) (by kernel_rfl) (by kernel_rfl) (fun _ _ _ h => h) ?_ hHeld ?_
                  rotate_left
                  focus (intro w hSw; go_simp; (try with_reducible rfl); done)
                  simp only [Act.put, List.setIfInBounds_toArray, List.set_cons_zero, List.set_cons_succ]
                  refine rcons 12 rfl (by kernel_rfl) (fun K hK => ?_)
                  go_simp
                  refine hK.out _ _ trivial (fun _ => ?_)
                  clear hK K
                  (try simp only [Act.put, List.setIfInBounds_toArray, List.set_cons_zero, List.set_cons_succ])
                  refine tky 13 (some 13) (v := ?_) rfl (by kernel_rfl) (by kernel_rfl) (by kernel_rfl) (fun _ _ _ h => h) ?_ hHeld ?_
                  rotate_left
                  focus (intro w hSw; go_simp; (try with_reducible rfl); done)
                  simp only [Act.put, List.setIfInBounds_toArray, List.set_cons_zero, List.set_cons_succ]
                  refine wpAnyH_done (by kernel_rfl) ?_ _
                  go_wp2_with fail
                  go_meet
                  first | exact ⟨_, rfl, rfl, Lib.hid (LY.new1 HXQ.out hb5 _ _ _)⟩ | exact ⟨_, rfl, rfl, Lib.hid (LY.new2 HXQ.out hb5 _ _ _ hh5 _ _ _)⟩
                exact AllReadyH.nil
              case rest =>
                clear cq0 hnil hmeth HRD
                rename World => wy
                obtain ⟨b, rfl, rfl, HY⟩ := hcut
                rcases HCASE.out with ⟨hno, hn0⟩ | ⟨k, a, m, hso, hkv, hxs, hnn⟩
                · have HPR2 : Hid (∀ i, i < 2 + 1 → rdT i l1 = none) := Lib.hid (fun i hi => by
                    by_cases h : i = 2
                    · rw [h]; exact hno
                    · exact HPR.out i (by omega))
                  subst hn0
                  clear hno
                  go_wp2_with fail
                  go_roundg 1
                  case measure => omega
                  case rel => exact ⟨2 + 1, rfl, by omega, rfl, rfl, HPR2, Lib.hid HY.out.x⟩
                · subst hkv hxs hnn
                  obtain ⟨ht, hm0, hml⟩ := rd_pos 2 l1 (by have := HL1Z.out; omega) HPR.out (by omega) k a m hso
                  rw [HL1Z.out] at hml
                  have HLEX : Hid (lexG (1024 - (f + 1)) (A + m) (l.drop (A + m)) (L ++ [⟨k, a, (A : Int)⟩]) = R) := Lib.hid (by
                    have := lex_some (1023 - f) at_ (l.drop at_) L k a m HOK.out (by rw [HL1.out]; exact hne.out) (by rw [HL1.out]; exact ht)
                    rw [HL1.out, HDL.out, HM1.out, hA, HD1.out, List.drop_drop] at this
                    rw [← HG.out, show 1024 - f = 1023 - f + 1 from by omega, this, show 1024 - (f + 1) = 1023 - f from by omega])
                  have hmi : (0 : Int) < (m : Int) := by omega
                  have hAm : A + m ≤ s.size := by omega
                  obtain ⟨aa, haa⟩ : ∃ aa : ByteArray, (⟨a.toArray⟩ : ByteArray) = aa := ⟨_, rfl⟩
                  have HTN := Lib.hid (fun (W : World) (n : Nat) (hn : n = W.heap.size) => tok_newn n W hn k a (A : Int))
                  rw [haa] at HTN HY
                  obtain ⟨⟨c0, c1, c2⟩, ⟨g0_, g1, g2⟩, hz⟩ := tcells HY.out.ht
                  have hy2 := pset (i := 2) HY.out.ht (.int .i64 (A : Int)) rfl
                  obtain ⟨⟨d0, d1, d2⟩, ⟨q0, q1, q2⟩, hzz⟩ := tcells hy2
                  have HX5 : Hid (LX w F (f + 1) v2 L (wy.setCell ⟨b, 2, none⟩ (.int .i64 (A : Int)))) := Lib.hid (HY.out.x.set 2 _ HY.out.hb HY.out.ne)
                  clear hy2 ht hso haa
                  go_wp2_with (at_builtin; refine wpList_appT rfl _ _ rfl (F + 2) v2 (.slice (some ⟨wy.heap.size, 0, none⟩) 1 1) L [⟨k, a, (A : Int)⟩] rfl (HX5.out.own.below ((Below.refl _ _).alloc (Nat.le_refl _) _)) rfl (HTN.out _ _ (by simp)) ?c1 ?c2 ?_)
                  case c1 => have := HLN.out; simp; omega
                  case c2 => have := HX5.out.lt; simp at this ⊢; omega
                  intro v' w6 hown hg
                  have HX6 := Lib.hid ((HX5.out.below ((Below.refl _ _).alloc (Nat.le_refl _) _)).grown hown hg)
                  clear hown hg c0 c1 c2 g0_ g1 g2 hz d0 d1 d2 q0 q1 q2 hzz
                  go_wp2_with fail
                  obtain ⟨gg, hgg⟩ : ∃ gg, A + m + gg = s.size := ⟨s.size - (A + m), by omega⟩
                  go_roundg gg
                  case measure => omega
                  case rel => exact ⟨f + 1, A + m, L ++ [⟨k, a, (A : Int)⟩], by go_num, hgg, by omega, Lib.hid (by have := HLN.out; simp; omega), HLEX, HX6⟩
            · obtain rfl : jj = 3 := hj
              have cq0 : wq.cell? ⟨F + 1, 3, none⟩ = some (.iface 49 (.agg #[])) := Lib.cell_of_heap HXQ.out.ha 3
              obtain ⟨kv, xs, nn, hform, hcase⟩ := rd_form 3 l1
              have HRD := RD3
              rw [show tellY ((punT l1).map fun a => (4, a, a.length)) = tellY (rdT 3 l1) from rfl, hform] at HRD
              have HCASE := Lib.hid hcase
              have hAle : (A : Int) ≤ (s.size : Int) := by omega
              clear hform hcase
              have hnil := fun w => nil_3 279 w
              have hmeth := fun w => meth_3 279 w
              go_upto_region 17 with fail
              go_cut [12, 13] (fun s12 s13 wx => ∃ b, s12 = .pointer (some ⟨b, 0, none⟩) ∧ s13 = .int .i64 nn ∧ Hid (LY w F (f + 1) v2 L b #[.int .u8 kv, .string xs, .int .i64 0] wx))
              case first =>
                refine wp_region_held_drew (S := fun _ => True) (by kernel_rfl) trivial (fun hHeld => ?_)
                refine tky 0 (some 63) (v := ?_) rfl (by kernel_rfl) (by kernel_rfl) (by kernel_rfl) (fun _ _ _ h => h) ?_ hHeld ?_
                rotate_left
                focus (intro w hSw; go_simp; (try with_reducible rfl); done)
                simp only [Act.put, List.setIfInBounds_toArray, List.set_cons_zero, List.set_cons_succ]
                refine tky 1 (some 64) (v := ?_) rfl (by kernel_rfl) (by kernel_rfl) (by kernel_rfl) (fun _ _ _ h => h) ?_ hHeld ?_
                rotate_left
                focus (intro w hSw; go_simp; (try with_reducible rfl); done)
                simp only [Act.put, List.setIfInBounds_toArray, List.set_cons_zero, List.set_cons_succ]
                refine tky 2 (some 65) (v := ?_) rfl (by kernel_rfl) (by kernel_rfl) (by kernel_rfl) (fun _ _ _ h => h) ?_ hHeld ?_
                rotate_left
                focus (intro w hSw; go_simp; (try with_reducible rfl); done)
                simp only [Act.put, List.setIfInBounds_toArray, List.set_cons_zero, List.set_cons_succ]
                refine tky 3 (some 66) (v := ?_) rfl (by kernel_rfl) (by kernel_rfl) (by kernel_rfl) (fun _ _ _ h => h) ?_ hHeld ?_
                rotate_left
                focus (intro w hSw; go_simp; (try with_reducible rfl); done)
                simp only [Act.put, List.setIfInBounds_toArray, List.set_cons_zero, List.set_cons_succ]
                refine tky 4 (some 67) (v := ?_) rfl (by kernel_rfl) (by kernel_rfl) (by kernel_rfl) (fun _ _ _ h => h) ?_ hHeld ?_
                rotate_left
                focus (intro w hSw; go_simp; (try with_reducible rfl); done)
                simp only [Act.put, List.setIfInBounds_toArray, List.set_cons_zero, List.set_cons_succ]
                refine tky 5 (some 68) (v := ?_) rfl (by kernel_rfl) (by kernel_rfl) (by kernel_rfl) (fun _ _ _ h => h) ?_ hHeld ?_
                rotate_left
                focus (intro w hSw; go_simp; (try with_reducible rfl); done)
                simp only [Act.put, List.setIfInBounds_toArray, List.set_cons_zero, List.set_cons_succ]
                refine tky 6 (some 69) (v := ?_) rfl (by kernel_rfl) (by kernel_rfl) (by kernel_rfl) (fun _ _ _ h => h) ?_ hHeld ?_
                rotate_left
                focus (intro w hSw; go_simp; (try with_reducible rfl); done)
                simp only [Act.put, List.setIfInBounds_toArray, List.set_cons_zero, List.set_cons_succ]
                refine wpAnyH_ready (rs := [7, 11]) (by kernel_rfl) (by simp) ?_
                refine acons 7 rfl (fun K hK => ?_) ?_
                · go_simp
                  ((with_reducible refine (HRD.out _).mono ?_); rintro e w5 ⟨rfl, hb5⟩)
                  (try dsimp only)
                  refine hK.out _ _ trivial (fun _ => ?_)
                  clear hK K
                  (try simp only [Act.put, List.setIfInBounds_toArray, List.set_cons_zero, List.set_cons_succ])
                  (try (have hh5 := (hb5.block _ (by simp)).trans (heap_alloc_new _ _); obtain ⟨⟨c0, c1, c2⟩, ⟨g0, g1, g2⟩, hz5⟩ := tcells hh5))
                  refine tky 8 (some 62) (v := ?_) rfl (by kernel_rfl) (by kernel_rfl) (by kernel_rfl) (fun _ _ _ h => h) ?_ hHeld ?_
                  rotate_left
                  focus (intro w hSw; go_simp; (try with_reducible rfl); done)
                  simp only [Act.put, List.setIfInBounds_toArray, List.set_cons_zero, List.set_cons_succ]
                  refine tky 9 (some 71) (v := ?_) rfl (by kernel_rfl) (by kernel_rfl) (by kernel_rfl) (fun _ _ _ h => h) ?_ hHeld ?_
                  rotate_left
                  focus (intro w hSw; go_simp; (try with_reducible rfl); done)
                  simp only [Act.put, List.setIfInBounds_toArray, List.set_cons_zero, List.set_cons_succ]
                  refine tky 10 (some 72) (v := ?_) rfl (by kernel_rfl) (by kernel_rfl) (by kernel_rfl) (fun _ _ _ h => h) ?_ hHeld ?_
                  rotate_left
                  focus (intro w hSw; go_simp; (try with_reducible rfl); done)
                  simp only [Act.put, List.setIfInBounds_toArray, List.set_cons_zero, List.set_cons_succ]
                  refine rcons 11 rfl (by kernel_rfl) (fun K hK => ?_)
                  go_simp
                  refine hK.out _ _ trivial (fun _ => ?_)
                  clear hK K
                  (try simp only [Act.put, List.setIfInBounds_toArray, List.set_cons_zero, List.set_cons_succ])
                  refine rcons 12 rfl (by kernel_rfl) (fun K hK => ?_)
                  go_simp
                  refine hK.out _ _ trivial (fun _ => ?_)
                  clear hK K
                  (try simp only [Act.put, List.setIfInBounds_toArray, List.set_cons_zero, List.set_cons_succ])
                  refine tky 13 (some 13) (v := ?_) rfl (by kernel_rfl) (by kernel_rfl) (by kernel_rfl) (fun _ _ _ h => h) ?_ hHeld ?_
                  rotate_left
                  focus (intro w hSw; go_simp; (try with_reducible rfl); done)
                  simp only [Act.put, List.setIfInBounds_toArray, List.set_cons_zero, List.set_cons_succ]
                  refine wpAnyH_done (by kernel_rfl) ?_ _
                  go_wp2_with fail
                  go_meet
                  first | exact ⟨_, rfl, rfl, Lib.hid (LY.new1 HXQ.out hb5 _ _ _)⟩ | exact ⟨_, rfl, rfl, Lib.hid (LY.new2 HXQ.out hb5 _ _ _ hh5 _ _ _)⟩
                refine acons 11 rfl (fun K hK => ?_) ?_
                · go_simp
                  refine hK.out _ _ trivial (fun _ => ?_)
                  clear hK K
                  (try simp only [Act.put, List.setIfInBounds_toArray, List.set_cons_zero, List.set_cons_succ])
                  refine rcons 7 rfl (by kernel_rfl) (fun K hK => ?_)
                  go_simp
                  ((with_reducible refine (HRD.out _).mono ?_); rintro e w5 ⟨rfl, hb5⟩)
                  (try dsimp only)
                  refine hK.out _ _ trivial (fun _ => ?_)
                  clear hK K
                  (try simp only [Act.put, List.setIfInBounds_toArray, List.set_cons_zero, List.set_cons_succ])
                  (try (have hh5 := (hb5.block _ (by simp)).trans (heap_alloc_new _ _); obtain ⟨⟨c0, c1, c2⟩, ⟨g0, g1, g2⟩, hz5⟩ := tcells hh5))
                  refine tky 8 (some 62) (v := ?_) rfl (by kernel_rfl) (by kernel_rfl) (by kernel_rfl) (fun _ _ _ h => h) ?_ hHeld ?_
                  rotate_left
                  focus (intro w hSw; go_simp; (try with_reducible rfl); done)
                  simp only [Act.put, List.setIfInBounds_toArray, List.set_cons_zero, List.set_cons_succ]
                  refine tky 9 (some 71) (v := ?_) rfl (by kernel_rfl) (by kernel_rfl) (by kernel_rfl) (fun _ _ _ h => h) ?_ hHeld ?_
                  rotate_left
                  focus (intro w hSw; go_simp; (try with_reducible rfl); done)
                  simp only [Act.put, List.setIfInBounds_toArray, List.set_cons_zero, List.set_cons_succ]
                  refine tky 10 (some 72) (v := ?_) rfl (by kernel_rfl) (by kernel_rfl) (by kernel_rfl) (fun _ _ _ h => h) ?_ hHeld ?_
                  rotate_left
                  focus (intro w hSw; go_simp; (try with_reducible rfl); done)
                  simp only [Act.put, List.setIfInBounds_toArray, List.set_cons_zero, List.set_cons_succ]
                  refine rcons 12 rfl (by kernel_rfl) (fun K hK => ?_)
                  go_simp
                  refine hK.out _ _ trivial (fun _ => ?_)
                  clear hK K
                  (try simp only [Act.put, List.setIfInBounds_toArray, List.set_cons_zero, List.set_cons_succ])
                  refine tky 13 (some 13) (v := ?_) rfl (by kernel_rfl) (by kernel_rfl) (by kernel_rfl) (fun _ _ _ h => h) ?_ hHeld ?_
                  rotate_left
                  focus (intro w hSw; go_simp; (try with_reducible rfl); done)
                  simp only [Act.put, List.setIfInBounds_toArray, List.set_cons_zero, List.set_cons_succ]
                  refine wpAnyH_done (by kernel_rfl) ?_ _
                  go_wp2_with fail
                  go_meet
                  first | exact ⟨_, rfl, rfl, Lib.hid (LY.new1 HXQ.out hb5 _ _ _)⟩ | exact ⟨_, rfl, rfl, Lib.hid (LY.new2 HXQ.out hb5 _ _ _ hh5 _ _ _)⟩
                exact AllReadyH.nil
              case rest =>
                clear cq0 hnil hmeth HRD
                rename World => wy
                obtain ⟨b, rfl, rfl, HY⟩ := hcut
                rcases HCASE.out with ⟨hno, hn0⟩ | ⟨k, a, m, hso, hkv, hxs, hnn⟩
                · have HPR2 : Hid (∀ i, i < 3 + 1 → rdT i l1 = none) := Lib.hid (fun i hi => by
                    by_cases h : i = 3
                    · rw [h]; exact hno
                    · exact HPR.out i (by omega))
                  subst hn0
                  clear hno
                  go_wp2_with fail
                  go_roundg 0
                  case measure => omega
                  case rel => exact ⟨3 + 1, rfl, by omega, rfl, rfl, HPR2, Lib.hid HY.out.x⟩
                · subst hkv hxs hnn
                  obtain ⟨ht, hm0, hml⟩ := rd_pos 3 l1 (by have := HL1Z.out; omega) HPR.out (by omega) k a m hso
                  rw [HL1Z.out] at hml
                  have HLEX : Hid (lexG (1024 - (f + 1)) (A + m) (l.drop (A + m)) (L ++ [⟨k, a, (A : Int)⟩]) = R) := Lib.hid (by
                    have := lex_some (1023 - f) at_ (l.drop at_) L k a m HOK.out (by rw [HL1.out]; exact hne.out) (by rw [HL1.out]; exact ht)
                    rw [HL1.out, HDL.out, HM1.out, hA, HD1.out, List.drop_drop] at this
                    rw [← HG.out, show 1024 - f = 1023 - f + 1 from by omega, this, show 1024 - (f + 1) = 1023 - f from by omega])
                  have hmi : (0 : Int) < (m : Int) := by omega
                  have hAm : A + m ≤ s.size := by omega
                  obtain ⟨aa, haa⟩ : ∃ aa : ByteArray, (⟨a.toArray⟩ : ByteArray) = aa := ⟨_, rfl⟩
                  have HTN := Lib.hid (fun (W : World) (n : Nat) (hn : n = W.heap.size) => tok_newn n W hn k a (A : Int))
                  rw [haa] at HTN HY
                  obtain ⟨⟨c0, c1, c2⟩, ⟨g0_, g1, g2⟩, hz⟩ := tcells HY.out.ht
                  have hy2 := pset (i := 2) HY.out.ht (.int .i64 (A : Int)) rfl
                  obtain ⟨⟨d0, d1, d2⟩, ⟨q0, q1, q2⟩, hzz⟩ := tcells hy2
                  have HX5 : Hid (LX w F (f + 1) v2 L (wy.setCell ⟨b, 2, none⟩ (.int .i64 (A : Int)))) := Lib.hid (HY.out.x.set 2 _ HY.out.hb HY.out.ne)
                  clear hy2 ht hso haa
                  go_wp2_with (at_builtin; refine wpList_appT rfl _ _ rfl (F + 2) v2 (.slice (some ⟨wy.heap.size, 0, none⟩) 1 1) L [⟨k, a, (A : Int)⟩] rfl (HX5.out.own.below ((Below.refl _ _).alloc (Nat.le_refl _) _)) rfl (HTN.out _ _ (by simp)) ?c1 ?c2 ?_)
                  case c1 => have := HLN.out; simp; omega
                  case c2 => have := HX5.out.lt; simp at this ⊢; omega
                  intro v' w6 hown hg
                  have HX6 := Lib.hid ((HX5.out.below ((Below.refl _ _).alloc (Nat.le_refl _) _)).grown hown hg)
                  clear hown hg c0 c1 c2 g0_ g1 g2 hz d0 d1 d2 q0 q1 q2 hzz
                  go_wp2_with fail
                  obtain ⟨gg, hgg⟩ : ∃ gg, A + m + gg = s.size := ⟨s.size - (A + m), by omega⟩
                  go_roundg gg
                  case measure => omega
                  case rel => exact ⟨f + 1, A + m, L ++ [⟨k, a, (A : Int)⟩], by go_num, hgg, by omega, Lib.hid (by have := HLN.out; simp; omega), HLEX, HX6⟩
end Go.Proofs.YtgclnjogoghhcaaGreatDoor
namespace Go.Proofs.YtgclnjogoghhcaaGreatDoor
open Go.Lib
/-- Are these a text's tokens, and is its end where the text ends? -/
def isL (l : List UInt8) (want : List (UInt8 × List UInt8)) : Bool := match lex0 l with
  | .error _ => false
  | .ok L => L.map kt == want ++ [(0, [])] && (L.getLastD ⟨0, [], -1⟩).pos == (l.length : Int)
def failsL (l : List UInt8) (e : Int) (n : Nat) : Bool := match lex0 l with
  | .error x => x.1 == e && x.2 == n
  | .ok _ => false
theorem ex_alive1 : isL [123, 97, 40, 98, 58, 45, 49, 41, 125, 32, 35, 120] [(4, [123]), (1, [97]), (4, [40]), (1, [98]), (4, [58]), (2, [45, 49]), (4, [41]), (4, [125])] = true := by decide +kernel
theorem ex_alive2 : isL [34, 92, 117, 48, 48, 101, 57, 44, 34, 44, 32, 120] [(3, [195, 169, 44]), (1, [120])] = true := by decide +kernel
theorem ex_none : isL [] [] = true := by decide +kernel
theorem ex_mixed : isL [239, 187, 191, 32, 97, 9, 34, 9, 34, 46, 46, 46] [(1, [97]), (3, [9]), (4, [46, 46, 46])] = true := by decide +kernel
theorem ex_01 : failsL [48, 49] 170 0 = true := by decide +kernel
theorem ex_15 : failsL [49, 46, 53] 170 0 = true := by decide +kernel
theorem ex_1a : failsL [49, 97] 170 0 = true := by decide +kernel
theorem ex_dots : failsL [46, 46] 170 0 = true := by decide +kernel
theorem ex_open : failsL [34, 97] 170 0 = true := by decide +kernel
theorem ex_four : failsL [34, 34, 34, 34] 170 0 = true := by decide +kernel
theorem ex_ask : failsL [97, 32, 63] 170 2 = true := by decide +kernel
theorem ex_ctl : failsL [35, 1] 170 1 = true := by decide +kernel
theorem ex_utf : failsL [255] 10 0 = true := by decide +kernel
def manyA : Nat → List UInt8
  | 0 => []
  | n + 1 => 97 :: 32 :: manyA n
def tokA (p : Nat) : Tok := ⟨1, [97], (p : Int)⟩
theorem many_len : ∀ n, (manyA n).length = 2 * n
  | 0 => rfl
  | n + 1 => by unfold manyA; simp only [List.length_cons]; rw [many_len n]; omega
theorem many_ascii : ∀ n, ∀ c ∈ manyA n, c.toNat < 128
  | 0, c, h => by cases h
  | n + 1, c, h => by
    unfold manyA at h
    rcases List.mem_cons.1 h with rfl | h
    · decide
    · rcases List.mem_cons.1 h with rfl | h
      · decide
      · exact many_ascii n c h
theorem blank_32 (r : List UInt8) : BlankR (32 :: r) := by intro c hc; injection hc with hc; subst hc; decide
theorem lex_many : ∀ (n m j a : Nat) (acc : List Tok), ∃ M, M.length = n ∧ lexG (n + j) a (32 :: manyA (n + m)) acc = lexG j (a + 2 * n) (32 :: manyA m) (acc ++ M)
  | 0, m, j, a, acc => ⟨[], rfl, by rw [Nat.zero_add, Nat.zero_add, List.append_nil]; rfl⟩
  | n + 1, m, j, a, acc => by
    have h := lex_tok (n + j) a (tokA 0) [32] (32 :: manyA (n + m)) acc (Or.inr rfl) (by decide) (by decide) (by decide) (blank_32 _)
    obtain ⟨M, h1, h2⟩ := lex_many n m j (a + 2) (acc ++ [tokA (a + 1)])
    refine ⟨tokA (a + 1) :: M, by simp [h1], ?_⟩
    have e1 : n + 1 + j = n + j + 1 := by omega
    have e2 : n + 1 + m = n + m + 1 := by omega
    have e3 : a + 2 * (n + 1) = a + 2 + 2 * n := by omega
    rw [e1, e2, e3]
    refine (show lexG (n + j + 1) a (32 :: manyA (n + m + 1)) acc = _ from h).trans ?_
    refine (show _ = lexG (n + j) (a + 2) (32 :: manyA (n + m)) (acc ++ [tokA (a + 1)]) from rfl).trans ?_
    rw [h2, List.append_assoc]
    rfl
theorem lex_first (m : Nat) : lexG 1024 0 (manyA (m + 1)) [] = lexG 1023 1 (32 :: manyA m) [tokA 0] :=
  lex_tok 1023 0 (tokA 0) [] (32 :: manyA m) [] (Or.inl rfl) (by decide) (by decide) (by decide) (blank_32 _)
theorem lex0_many (n : Nat) (hn : n ≤ 8000) : lex0 (manyA n) = lexG 1024 0 (manyA n) [] := by
  have hv : validD (manyA n) = true := by
    have := valid_ascii (manyA n) [] (many_ascii n)
    rw [List.append_nil] at this
    rw [this]; rfl
  unfold lex0
  rw [if_neg (by rw [many_len]; omega), hv]
  rfl
/-- 1024 tokens are read. -/
theorem ex_full : ∃ L, lex0 (manyA 1024) = .ok L ∧ L.length = 1025 := by
  rw [lex0_many 1024 (by decide), show (1024 : Nat) = 1023 + 1 from rfl, lex_first 1023]
  obtain ⟨M, h1, h2⟩ := lex_many 1023 0 0 1 [tokA 0]
  rw [Nat.add_zero] at h2
  refine ⟨[tokA 0] ++ M ++ [⟨0, [], 2048⟩], ?_, by simp [h1]⟩
  rw [h2]
  rfl
/-- One more is too many. -/
theorem ex_fuel : lex0 (manyA 1025) = .error (171, 2048) := by
  rw [lex0_many 1025 (by decide), show (1025 : Nat) = 1024 + 1 from rfl, lex_first 1024]
  obtain ⟨M, h1, h2⟩ := lex_many 1023 1 0 1 [tokA 0]
  rw [Nat.add_zero] at h2
  rw [show (1024 : Nat) = 1023 + 1 from rfl, h2]
  rfl
end Go.Proofs.YtgclnjogoghhcaaGreatDoor
namespace Go.Proofs.YtgclnjogoghhcaaGreatDoor
open Go.RowKit
set_option maxRecDepth 100000 in
theorem rsame17_len (v1 v2 : Option Addr) (c1 c2 : Nat) (at_ : Bool) (n m : Nat) (hn : n ≤ 100000) (hm : m ≤ 100000) (hne : n ≠ m) (w : World) :
    Calls Tryz.prog 14 #[.slice v1 n c1, .slice v2 m c2, .bool at_] w fun e w' => e = .returned (.bool false) ∧ Below w.heap.size w w' := by
  have h1 : ((n : Int) != (m : Int)) = true := by rw [bne_iff_ne]; omega
  clear hne
  go_enter Tryz.func14, Tryz.ntmps14
  go_wp2_with fail
  go_ret
  exact ⟨rfl, Below.refl _ _⟩
set_option maxRecDepth 100000 in
set_option maxHeartbeats 1000000 in
theorem rsame17_row (L M : List Tok) (b1 o1 c1 b2 o2 c2 : Nat) (at_ : Bool) (hl : L.length ≤ 100000) (hlm : L.length = M.length) (w : World) (h1 : TokRow b1 o1 L w) (h2 : TokRow b2 o2 M w) :
    Calls Tryz.prog 14 #[.slice (some ⟨b1, o1, none⟩) L.length c1, .slice (some ⟨b2, o2, none⟩) L.length c2, .bool at_] w fun e w' => e = .returned (.bool (sameT at_ L M)) ∧ Below w.heap.size w w' := by
  have H1 := Lib.hid h1
  have H2 := Lib.hid h2
  have HM := Lib.hid hlm
  obtain ⟨r, hr⟩ : ∃ r, sameT at_ L M = r := ⟨_, rfl⟩
  have HR : Hid (sameT at_ (L.drop 0) (M.drop 0) = r) := Lib.hid hr
  rw [hr]
  clear hr h1 h2 hlm
  have hnn : ((L.length : Int) != (L.length : Int)) = false := by rw [bne_eq_false_iff_eq]
  go_enter Tryz.func14, Tryz.ntmps14
  go_wp2_with fail
  go_loopw [7] (fun i wr => ∃ k : Nat, k ≤ L.length ∧ i = .int .i64 k ∧ Hid (sameT at_ (L.drop k) (M.drop k) = r) ∧ Hid (Below w.heap.size w wr)) (fun i wr => L.length - (intOf i).toNat)
  case atStart => exact ⟨0, Nat.zero_le _, rfl, HR, Lib.hid (Below.refl _ _)⟩
  case round =>
    rename World => wr
    obtain ⟨k, hk, rfl, HS, HB⟩ := hrel
    by_cases hlt : k < L.length
    · have hltm : k < M.length := by rw [← HM.out]; exact hlt
      obtain ⟨a0, a1, a2⟩ := (H1.out.below' HB.out) k hlt
      obtain ⟨d0, d1, d2⟩ := (H2.out.below' HB.out) k hltm
      have hstep := HS.out
      rw [sameT_drop _ _ _ k hlt hltm] at hstep
      have hP : sameP at_ L[k] M[k] = (L[k].kind == M[k].kind && L[k].text == M[k].text && (!at_ || L[k].pos == M[k].pos)) := rfl
      generalize sameP at_ L[k] M[k] = sp at *
      have hkk : ((L[k].kind.toNat : Int) = (M[k].kind.toNat : Int)) ↔ L[k].kind = M[k].kind := by
        constructor
        · intro h; exact UInt8.toNat_inj.1 (by omega)
        · intro h; rw [h]
      generalize (L[k].kind.toNat : Int) = ka at *
      generalize (M[k].kind.toNat : Int) = kb at *
      generalize L[k].pos = pa at *
      generalize M[k].pos = pb at *
      have hxl : (⟨L[k].text.toArray⟩ : ByteArray).toList = L[k].text := by rw [ByteArray.toList_eq]
      have hyl : (⟨M[k].text.toArray⟩ : ByteArray).toList = M[k].text := by rw [ByteArray.toList_eq]
      generalize (⟨L[k].text.toArray⟩ : ByteArray) = x at *
      generalize (⟨M[k].text.toArray⟩ : ByteArray) = y at *
      by_cases e0 : L[k].kind = M[k].kind
      · have q0 : (ka != kb) = false := by rw [bne_eq_false_iff_eq]; exact hkk.2 e0
        by_cases e1 : L[k].text = M[k].text
        · have q1 : (x.toList != y.toList) = false := by rw [hxl, hyl, bne_eq_false_iff_eq]; exact e1
          have q1' : (x.toList == y.toList) = true := by rw [hxl, hyl]; exact beq_iff_eq.2 e1
          cases at_ with
          | false =>
            have HS2 : Hid (sameT false (L.drop (k + 1)) (M.drop (k + 1)) = r) := Lib.hid (by rw [← hstep, hP, beq_iff_eq.2 e0, beq_iff_eq.2 e1]; rfl)
            clear hstep hP hkk hxl hyl e0 e1 HS
            go_wp2_with fail
            go_quiet (fail)
            go_wp2_with fail
            go_roundw
            case rel => exact ⟨k + 1, by omega, by go_num, HS2, Lib.hid (below_dN _ HB.out)⟩
            case measure => simp [intOf]; omega
          | true =>
            by_cases e2 : pa = pb
            · have q2 : (pa != pb) = false := by rw [bne_eq_false_iff_eq]; exact e2
              have HS2 : Hid (sameT true (L.drop (k + 1)) (M.drop (k + 1)) = r) := Lib.hid (by rw [← hstep, hP, beq_iff_eq.2 e0, beq_iff_eq.2 e1, beq_iff_eq.2 e2]; rfl)
              clear hstep hP hkk hxl hyl e0 e1 e2 HS
              go_wp2_with fail
              go_quiet (fail)
              go_wp2_with fail
              go_roundw
              case rel => exact ⟨k + 1, by omega, by go_num, HS2, Lib.hid (below_dN _ HB.out)⟩
              case measure => simp [intOf]; omega
            · have q2 : (pa != pb) = true := by rw [bne_iff_ne]; exact e2
              have HF : Hid (false = r) := Lib.hid (by rw [← hstep, hP, beq_eq_false_iff_ne.2 e2]; simp)
              clear hstep hP hkk hxl hyl e0 e1 e2 HS
              go_wp2_with fail
              go_quiet (fail)
              go_wp2_with fail
              go_ret
              exact ⟨ret_b HF.out, below_dN _ HB.out⟩
        · have q1 : (x.toList != y.toList) = true := by rw [hxl, hyl, bne_iff_ne]; exact e1
          have q1' : (x.toList == y.toList) = false := by rw [hxl, hyl]; exact beq_eq_false_iff_ne.2 e1
          have HF : Hid (false = r) := Lib.hid (by rw [← hstep, hP, beq_eq_false_iff_ne.2 e1]; simp)
          clear hstep hP hkk hxl hyl e0 e1 HS
          go_wp2_with fail
          go_quiet (fail)
          go_wp2_with fail
          go_ret
          exact ⟨ret_b HF.out, below_dN _ HB.out⟩
      · have q0 : (ka != kb) = true := by rw [bne_iff_ne]; exact fun h => e0 (hkk.1 h)
        have HF : Hid (false = r) := Lib.hid (by rw [← hstep, hP, beq_eq_false_iff_ne.2 e0]; simp)
        clear hstep hP hkk hxl hyl e0 HS
        go_wp2_with fail
        go_quiet (fail)
        go_wp2_with fail
        go_ret
        exact ⟨ret_b HF.out, below_dN _ HB.out⟩
    · have HF : Hid (true = r) := Lib.hid (by
        have hm : M.length = L.length := HM.out.symm
        rw [← HS.out, List.drop_of_length_le (by omega), List.drop_of_length_le (by omega)]; rfl)
      clear HS
      go_wp2_with fail
      go_ret
      exact ⟨ret_b HF.out, HB.out⟩
set_option maxRecDepth 100000 in
theorem rsame17_none (c1 : Nat) (a : Option Addr) (v : Option Addr) (c2 : Nat) (at_ : Bool) (w : World) :
    Calls Tryz.prog 14 #[.slice a 0 c1, .slice v 0 c2, .bool at_] w fun e w' => e = .returned (.bool true) ∧ Below w.heap.size w w' := by
  go_enter Tryz.func14, Tryz.ntmps14
  go_wp2_with fail
  refine wp_loop_rounds 1 ?_; rw [rounds_succ]
  go_wp2_with fail
  go_ret
  exact ⟨rfl, Below.refl _ _⟩
theorem rsame17_any (L M : List Tok) (u v : Value) (at_ : Bool) (hl : L.length ≤ 100000) (hm : M.length ≤ 100000) (w : World) (h1 : TokSl u L w) (h2 : TokSl v M w) :
    Calls Tryz.prog 14 #[u, v, .bool at_] w fun e w' => e = .returned (.bool (sameT at_ L M)) ∧ Below w.heap.size w w' := by
  by_cases hlm : L.length = M.length
  · rcases h1 with ⟨a1, c1, rfl, rfl, _⟩ | ⟨b1, o1, c1, rfl, h1⟩
    · obtain rfl : M = [] := List.eq_nil_of_length_eq_zero hlm.symm
      rcases h2 with ⟨a2, c2, rfl, _, _⟩ | ⟨b2, o2, c2, rfl, h2⟩
      · exact rsame17_none c1 a1 a2 c2 _ w
      · exact rsame17_none c1 a1 _ c2 _ w
    · rcases h2 with ⟨a2, c2, rfl, rfl, _⟩ | ⟨b2, o2, c2, rfl, h2⟩
      · obtain rfl : L = [] := List.eq_nil_of_length_eq_zero hlm
        exact rsame17_none c1 _ a2 c2 _ w
      · rw [← hlm]
        exact rsame17_row L M b1 o1 c1 b2 o2 c2 at_ hl hlm w h1 h2
  · rw [sameT_len _ _ _ hlm]
    rcases h1 with ⟨a1, c1, rfl, rfl, _⟩ | ⟨b1, o1, c1, rfl, h1⟩
    · rcases h2 with ⟨a2, c2, rfl, rfl, _⟩ | ⟨b2, o2, c2, rfl, h2⟩
      · exact absurd rfl hlm
      · exact rsame17_len a1 _ _ _ at_ 0 _ (by omega) hm hlm w
    · rcases h2 with ⟨a2, c2, rfl, rfl, _⟩ | ⟨b2, o2, c2, rfl, h2⟩
      · exact rsame17_len _ a2 _ _ at_ _ 0 hl (by omega) hlm w
      · exact rsame17_len _ _ _ _ at_ _ _ hl hm hlm w
end Go.Proofs.YtgclnjogoghhcaaGreatDoor
namespace Go.Proofs.YtgclnjogoghhcaaGreatDoor
open Go.RowKit
set_option maxRecDepth 100000 in
theorem lex_chk (s : ByteArray) (w : World) (e : Int) (he : e ≠ 0) (HC : Hid (Calls Tryz.prog 18 #[.string s] w fun x w' => x = .returned (.int .i64 e) ∧ Below w.heap.size w w')) :
    Calls Tryz.prog 8 #[.string s] w fun x w' => x = .returned (.tuple #[.slice none 0 0, .int .i64 0, .int .i64 e]) ∧ Below w.heap.size w w' := by
  have te : (e != 0) = true := by simpa using he
  clear he
  go_enter Tryz.func8, Tryz.ntmps8
  go_wp2_with fail
  go_step3
  go_wp2_with fail
  refine HC.out.mono ?_; rintro x w1 ⟨rfl, hb⟩
  go_wp2_with fail
  (try rw [Exit.noGoto_ret])
  go_ret3
  exact ⟨rfl, hb⟩
theorem llex_any (s : ByteArray) (hs : s.size ≤ 1000000) (w : World) (hE : EnvU w) :
    Calls Tryz.prog 8 #[.string s] w fun e w' => LexE w.heap.size (lex0 s.data.toList) e w' ∧ Below w.heap.size w w' := by
  have HC := tcheck_any s hs w hE
  unfold lex0
  have hz := len_z s
  by_cases h1 : 16384 < s.data.toList.length
  · rw [if_pos h1]
    rw [show chkE s.data.toList = 4 from by unfold chkE; rw [if_pos h1]] at HC
    exact (lex_chk s w 4 (by decide) (Lib.hid HC)).mono fun e w' ⟨h1, h2⟩ => ⟨h1, h2⟩
  · rw [if_neg h1]
    cases hv : Lib.validD s.data.toList with
    | false =>
      rw [show chkE s.data.toList = 10 from by unfold chkE; rw [if_neg h1, hv]; rfl] at HC
      exact (lex_chk s w 10 (by decide) (Lib.hid HC)).mono fun e w' ⟨h1, h2⟩ => ⟨h1, h2⟩
    | true =>
      rw [show chkE s.data.toList = 0 from by unfold chkE; rw [if_neg h1, hv]; rfl] at HC
      exact lex_go s (by omega) w hE (Lib.hid HC) _ (Lib.hid rfl)
theorem lexG_err : ∀ (k a : Nat) (l : List UInt8) (acc : List Tok) (e : Int) (n : Nat), lexG k a l acc = .error (e, n) → e ≠ 0
  | k, a, l, acc, e, n, h => by
    cases h2 : (skip0 l).2 with
    | false => rw [lex_bad k a l acc h2] at h; injection h with h; injection h with h _; subst h; decide
    | true =>
      by_cases h3 : (skip0 l).1 = []
      · rw [lex_done k a l acc h2 h3] at h; cases h
      · match k with
        | 0 => rw [lex_fuel a l acc h2 h3] at h; injection h with h; injection h with h _; subst h; decide
        | k + 1 =>
          cases h4 : tokG (skip0 l).1 with
          | none => rw [lex_none k a l acc h2 h3 h4] at h; injection h with h; injection h with h _; subst h; decide
          | some x =>
            obtain ⟨kd, tx, m⟩ := x
            rw [lex_some k a l acc kd tx m h2 h3 h4] at h
            exact lexG_err k _ _ _ e n h
theorem lex0_err (l : List UInt8) (e : Int) (n : Nat) (h : lex0 l = .error (e, n)) : e ≠ 0 := by
  unfold lex0 at h
  split at h
  · injection h with h; injection h with h _; subst h; decide
  · split at h
    · injection h with h; injection h with h _; subst h; decide
    · exact lexG_err _ _ _ _ e n h
theorem lex_yes (s : ByteArray) (hs : s.size ≤ 1000000) (L : List Tok) (h : lex0 s.data.toList = .ok L) (w : World) (hE : EnvU w) :
    Calls Tryz.prog 8 #[.string s] w fun e w' => (∃ v, e = .returned (.tuple #[v, .int .i64 0, .int .i64 0]) ∧ OwnT w.heap.size v L w') ∧ Below w.heap.size w w' :=
  (llex_any s hs w hE).mono fun e w' ⟨h1, h2⟩ => ⟨by rw [h] at h1; exact h1, h2⟩
theorem lex_not (s : ByteArray) (hs : s.size ≤ 1000000) (k : Int) (a : Nat) (h : lex0 s.data.toList = .error (k, a)) (w : World) (hE : EnvU w) :
    Calls Tryz.prog 8 #[.string s] w fun e w' => e = .returned (.tuple #[.slice none 0 0, .int .i64 (a : Int), .int .i64 k]) ∧ Below w.heap.size w w' :=
  (llex_any s hs w hE).mono fun e w' ⟨h1, h2⟩ => ⟨by rw [h] at h1; exact h1, h2⟩
theorem same_kt : ∀ L M : List Tok, sameT false L M = true ↔ L.map kt = M.map kt
  | [], [] => by simp [sameT]
  | [], _ :: _ => by simp [sameT]
  | _ :: _, [] => by simp [sameT]
  | t :: r, u :: s => by
    rw [sameT, List.map_cons, List.map_cons, List.cons_eq_cons, ← same_kt r s, Bool.and_eq_true]
    simp [sameP, kt]
theorem OwnT.form {B : Nat} {v : Value} {L : List Tok} {W : World} (h : OwnT B v L W) : ∃ a n c, v = .slice a n c ∧ n = L.length := by
  rcases h.2 with ⟨h1, h2⟩ | ⟨g, cap, cur, hv, _⟩
  · exact ⟨none, 0, 0, h1, h2.symm⟩
  · exact ⟨_, _, _, hv, rfl⟩
/-- A slice of the call's own stays when another one grows. -/
theorem OwnT.other {B : Nat} {v : Value} {L : List Tok} {W W' : World} {r : Option Nat} (h : OwnT B v L W) (hg : W.grownBy W' r) (hne : ∀ k, v.ownBlock = some k → r ≠ some k) : OwnT B v L W' := by
  obtain ⟨h1, h2⟩ := h
  refine ⟨h1, ?_⟩
  rcases h2 with h2 | ⟨g, cap, cur, hv, hB, hgg, hrest⟩
  · exact Or.inl h2
  · refine Or.inr ⟨g, cap, cur, hv, hB, ?_, hrest⟩
    rw [hg.block g (heap_lt hgg) (fun e => hne g (by rw [hv]; rfl) e.symm)]
    exact hgg
theorem OwnT.blk {B : Nat} {v : Value} {L : List Tok} {W : World} (h : OwnT B v L W) (k : Nat) (hk : v.ownBlock = some k) : k < W.heap.size := by
  rcases h.2 with h2 | ⟨g, cap, cur, hv, hB, hg, hrest⟩
  · rw [h2.1] at hk; cases hk
  · rw [hv] at hk; injection hk with hk; subst hk; exact heap_lt hg
/-- Its last one. -/
theorem OwnT.last {B : Nat} {v : Value} {L : List Tok} {W : World} (h : OwnT B v L W) (h0 : 0 < L.length) : ∃ g cap, v = .slice (some ⟨g, 0, none⟩) L.length cap ∧ W.cell? ⟨g, (L.length - 1) * 3 + 2, none⟩ = some (.int .i64 (L.getLastD ⟨0, [], -1⟩).pos) := by
  rcases h.2 with ⟨h1, h2⟩ | ⟨g, cap, cur, hv, hB, hg, hn, hc, hcs, ht⟩
  · omega
  · refine ⟨g, cap, hv, ?_⟩
    obtain ⟨_, _, g2⟩ := tokCells_get L (L.length - 1) (by omega)
    have hl := tokCells_len L
    have hj : (L.length - 1) * 3 + 2 < L.length * 3 := by omega
    rw [Lib.cell_of_heap hg, ← Array.getElem?_toList]
    rw [← ht, List.getElem?_take, if_pos hj] at g2
    rw [g2]
    congr 3
    rw [List.getLastD_eq_getLast?, List.getLast?_eq_getElem?, List.getElem?_eq_getElem (by omega)]
    rfl
theorem lex_row (s : ByteArray) (hs : s.size ≤ 1000000) (L : List Tok) (h : lex0 s.data.toList = .ok L) (h0 : 0 < L.length) (w : World) (hE : EnvU w) :
    Calls Tryz.prog 8 #[.string s] w fun e w' => (∃ g cap, e = .returned (.tuple #[.slice (some ⟨g, 0, none⟩) L.length cap, .int .i64 0, .int .i64 0]) ∧ OwnT w.heap.size (.slice (some ⟨g, 0, none⟩) L.length cap) L w') ∧ Below w.heap.size w w' := by
  refine (lex_yes s hs L h w hE).mono ?_
  rintro e w' ⟨⟨v, rfl, ho⟩, hb⟩
  obtain ⟨g, cap, rfl, _⟩ := ho.last h0
  exact ⟨⟨g, cap, rfl, ho⟩, hb⟩
set_option maxRecDepth 100000 in
set_option maxHeartbeats 1000000 in
theorem lis_yes (s : ByteArray) (hs : s.size ≤ 1000000) (want : List Tok) (hw : want.length ≤ 1000) (u : Value) (B : Nat) (w : World) (hE : EnvU w) (hB : B ≤ w.heap.size) (hu : OwnT B u want w) (hx : isL s.data.toList (want.map kt) = true) :
    Calls Tryz.prog 10 #[.string s, u] w fun e w' => e = .returned (.bool true) ∧ Below B w w' := by
  obtain ⟨M, hM⟩ : ∃ M, lex0 s.data.toList = .ok M := by
    unfold isL at hx
    cases h : lex0 s.data.toList with
    | error x => rw [h] at hx; cases hx
    | ok L => exact ⟨L, rfl⟩
  unfold isL at hx
  rw [hM] at hx
  simp only [Bool.and_eq_true, beq_iff_eq] at hx
  obtain ⟨hx1, hx2⟩ := hx
  have hMl : M.length = want.length + 1 := by have := congrArg List.length hx1; simpa using this
  have HM1 := Lib.hid hMl
  have hsame : sameT false M (want ++ [⟨0, [], 0⟩]) = true := by rw [same_kt, hx1, List.map_append]; rfl
  have HSM := Lib.hid hsame
  rw [len_z] at hx2
  have HX2 := Lib.hid hx2
  have HLX := Lib.hid (lex_row s hs M hM (by omega) w hE)
  have HU := Lib.hid hu
  have hM0 : 0 < M.length := by omega
  have hMk : M.length ≤ 100000 := by omega
  clear hx1 hx2 hsame hM hE hu hMl
  obtain ⟨a, n, c, rfl, hn⟩ := HU.out.form
  have HN := Lib.hid hn
  clear hn
  go_enter Tryz.func10, Tryz.ntmps10
  go_wp2_with fail
  refine HLX.out.mono ?_; rintro e w1 ⟨⟨ag, cg, rfl, hown⟩, hb⟩
  have HB1 := Lib.hid hb
  have HV1 := Lib.hid hown
  clear hb hown
  have hml : ((M.length : Int)) - 1 = ((M.length - 1 : Nat) : Int) := by omega
  obtain ⟨q, hq⟩ : ∃ q, M.length - 1 = q := ⟨_, rfl⟩
  have hMq : M.length = q + 1 := by omega
  have HMQ := Lib.hid hMq
  have hqlt : q < M.length := by omega
  clear hMq
  rw [hq] at hml
  clear hq
  go_wp2_with (at_builtin; refine wpList_gappT rfl _ _ rfl B (.slice a n c) (.slice (some ⟨w1.heap.size, 0, none⟩) 1 1) want [⟨0, [], 0⟩] rfl ((HU.out.below HB1.out).below ((Below.refl _ _).alloc (Nat.le_refl _) _)) rfl (tok_new w1 0 [] 0) (by decide) ?c1 ?c2 ?_)
  case c1 => simp; omega
  case c2 => have := HB1.out.size; simp; omega
  intro v' w2 hown hg
  have hbig : ∀ k, (Value.slice (some ⟨ag, 0, none⟩) M.length cg).ownBlock = some k → (Value.slice a n c).ownBlock ≠ some k := fun k hk hk2 => by
    have h1 := HV1.out.lt k hk
    have h2 := HU.out.blk k hk2
    omega
  have HV2 := Lib.hid ((HV1.out.alloc _).other hg hbig)
  have HB2 : Hid (Below B w w2) := Lib.hid (((HB1.out.mono hB).alloc (by have := HB1.out.size; omega) _).grown hg (by have := HB1.out.size; simp; omega) (fun k hk => HU.out.lt k hk))
  have HS := Lib.hid (rsame17_any M (want ++ [⟨0, [], 0⟩]) _ _ false (by omega) (by simp; omega) w2 HV2.out.sl hown.sl)
  rw [HSM.out] at HS
  have hlen : w2.cell? ⟨ag, q * 3 + 2, none⟩ = some (.int .i64 (s.size : Int)) := by
    obtain ⟨g', cap', e1, e2⟩ := HV2.out.last hM0
    injection e1 with e1 _ _
    injection e1 with e1
    injection e1 with e1 _ _
    rw [show (M.getLastD ⟨0, [], -1⟩).pos = (s.size : Int) from HX2.out, show M.length - 1 = q from by have := HMQ.out; omega, ← e1] at e2
    exact e2
  have HL2 := Lib.hid hlen
  have halt : ag < w2.heap.size := lt_of_cell hlen
  clear hlen hown hg hbig
  go_wp2_with fail
  refine HS.out.mono ?_; rintro e w3 ⟨rfl, hb⟩
  have hc3 : w3.cell? ⟨ag, q * 3 + 2, none⟩ = some (.int .i64 (s.size : Int)) := (hb.cell (p := ⟨ag, _, none⟩) halt).trans HL2.out
  have HB3 := Lib.hid (HB2.out.trans (hb.mono (by have := HB2.out.size; omega)))
  clear hb
  go_wp2_with fail
  go_ret
  exact ⟨rfl, HB3.out⟩
set_option maxRecDepth 100000 in
theorem lfails_yes (s : ByteArray) (hs : s.size ≤ 1000000) (k : Int) (n : Int) (w : World) (hE : EnvU w) (a : Nat) (hn : n = (a : Int)) (hx : failsL s.data.toList k a = true) :
    Calls Tryz.prog 7 #[.string s, .int .i64 k, .int .i64 n] w fun e w' => e = .returned (.bool true) ∧ Below w.heap.size w w' := by
  subst hn
  have hM : lex0 s.data.toList = .error (k, a) := by
    unfold failsL at hx
    cases h : lex0 s.data.toList with
    | error x => rw [h] at hx; simp only [Bool.and_eq_true, beq_iff_eq] at hx; obtain ⟨x1, x2⟩ := x; rw [← hx.1, ← hx.2]
    | ok L => rw [h] at hx; cases hx
  have HLX := Lib.hid (lex_not s hs k a hM w hE)
  clear hM hx hE
  go_enter Tryz.func7, Tryz.ntmps7
  go_wp2_with fail
  refine HLX.out.mono ?_; rintro e w1 ⟨rfl, hb⟩
  go_wp2_with fail
  go_ret
  exact ⟨rfl, hb⟩
set_option maxRecDepth 100000 in
theorem lname17 (s : ByteArray) (w : World) : Calls Tryz.prog 11 #[.string s] w fun e w' => e = .returned (.agg #[.int .u8 1, .string s, .int .i64 0]) ∧ Below w.heap.size w w' := by
  go_enter Tryz.func11, Tryz.ntmps11
  go_wp2_with fail
  have h := heap_alloc_new w (.cells #[.int .u8 1, .string s, .int .i64 0] 30 (0, 0))
  obtain ⟨⟨c0, c1, c2⟩, ⟨g0, g1, g2⟩, hz⟩ := tcells h
  refine bodyPost_ret (v := .agg #[.int .u8 1, .string s, .int .i64 0]) (by simp [results, Tryz.results11, go_sem, *]) rfl ⟨rfl, (Below.refl _ _).alloc (Nat.le_refl _) _⟩
set_option maxRecDepth 100000 in
theorem lmark17 (s : ByteArray) (w : World) : Calls Tryz.prog 12 #[.string s] w fun e w' => e = .returned (.agg #[.int .u8 4, .string s, .int .i64 0]) ∧ Below w.heap.size w w' := by
  go_enter Tryz.func12, Tryz.ntmps12
  go_wp2_with fail
  have h := heap_alloc_new w (.cells #[.int .u8 4, .string s, .int .i64 0] 30 (0, 0))
  obtain ⟨⟨c0, c1, c2⟩, ⟨g0, g1, g2⟩, hz⟩ := tcells h
  refine bodyPost_ret (v := .agg #[.int .u8 4, .string s, .int .i64 0]) (by simp [results, Tryz.results12, go_sem, *]) rfl ⟨rfl, (Below.refl _ _).alloc (Nat.le_refl _) _⟩
end Go.Proofs.YtgclnjogoghhcaaGreatDoor
namespace Go.Proofs.YtgclnjogoghhcaaGreatDoor
open Go.RowKit
theorem OwnT.built (W : World) (L : List Tok) (n : Nat) (A : Array Value) (hn : L.length = n) (hA : (tokCells L).toArray = A) (hl : L.length ≤ 1000000) : OwnT W.heap.size (.slice (some ⟨W.heap.size, 0, none⟩) n n) L (W.alloc (.cells A 30)) := by
  subst hn hA
  refine ⟨tokCells_len L, Or.inr ⟨_, _, _, rfl, Nat.le_refl _, heap_alloc_new W _, Nat.le_refl _, by unfold maxLen; omega, by rw [List.size_toArray, tokCells_len], ?_⟩⟩
  show List.take _ (tokCells L) = _
  rw [List.take_of_length_le (by rw [tokCells_len]; exact Nat.le_refl _)]
set_option maxRecDepth 100000 in
set_option maxHeartbeats 2000000 in
theorem lalive17 (w : World) (hE : EnvU w) : Calls Tryz.prog 9 #[] w fun e w' => e = .returned (.bool true) ∧ Below w.heap.size w w' := by
  have HN := Lib.hid (fun s W => lname17 s W)
  have HM := Lib.hid (fun s W => lmark17 s W)
  have HI1 := Lib.hid (fun (u : Value) (B : Nat) (W : World) (hW : Below w.heap.size w W) (hB : B ≤ W.heap.size) (hu : OwnT B u [⟨4, [123], 0⟩, ⟨1, [97], 0⟩, ⟨4, [40], 0⟩, ⟨1, [98], 0⟩, ⟨4, [58], 0⟩, ⟨2, [45, 49], 0⟩, ⟨4, [41], 0⟩, ⟨4, [125], 0⟩] W) => lis_yes ⟨#[123, 97, 40, 98, 58, 45, 49, 41, 125, 32, 35, 120]⟩ (by decide) _ (by decide) u B W (hE.below hW) hB hu ex_alive1)
  have HI2 := Lib.hid (fun (u : Value) (B : Nat) (W : World) (hW : Below w.heap.size w W) (hB : B ≤ W.heap.size) (hu : OwnT B u [⟨3, [195, 169, 44], 0⟩, ⟨1, [120], 0⟩] W) => lis_yes ⟨#[34, 92, 117, 48, 48, 101, 57, 44, 34, 44, 32, 120]⟩ (by decide) _ (by decide) u B W (hE.below hW) hB hu ex_alive2)
  clear hE
  go_enter Tryz.func9, Tryz.ntmps9
  go_wp2_with fail
  refine (HM.out _ _).mono ?_; rintro e w1 ⟨rfl, hb⟩
  have HB1 := Lib.hid hb
  clear hb
  go_wp2_with fail
  refine (HN.out _ _).mono ?_; rintro e w2 ⟨rfl, hb⟩
  have HB2 := Lib.hid (HB1.out.trans (hb.mono HB1.out.size))
  clear hb
  go_wp2_with fail
  refine (HM.out _ _).mono ?_; rintro e w3 ⟨rfl, hb⟩
  have HB3 := Lib.hid (HB2.out.trans (hb.mono HB2.out.size))
  clear hb
  go_wp2_with fail
  refine (HN.out _ _).mono ?_; rintro e w4 ⟨rfl, hb⟩
  have HB4 := Lib.hid (HB3.out.trans (hb.mono HB3.out.size))
  clear hb
  go_wp2_with fail
  refine (HM.out _ _).mono ?_; rintro e w5 ⟨rfl, hb⟩
  have HB5 := Lib.hid (HB4.out.trans (hb.mono HB4.out.size))
  clear hb
  go_wp2_with fail
  refine (HM.out _ _).mono ?_; rintro e w6 ⟨rfl, hb⟩
  have HB6 := Lib.hid (HB5.out.trans (hb.mono HB5.out.size))
  clear hb
  go_wp2_with fail
  refine (HM.out _ _).mono ?_; rintro e w7 ⟨rfl, hb⟩
  have HB7 := Lib.hid (HB6.out.trans (hb.mono HB6.out.size))
  clear hb
  go_wp2_with fail
  refine (HI1.out _ w7.heap.size _ (HB7.out.alloc HB7.out.size _) (by simp) (OwnT.built w7 _ 8 _ rfl rfl (by decide))).mono ?_; rintro e w8 ⟨rfl, hb⟩
  have HB8 : Hid (Below w.heap.size w w8) := Lib.hid ((HB7.out.alloc HB7.out.size _).trans (hb.mono HB7.out.size))
  clear hb
  go_wp2_with fail
  refine (HN.out _ _).mono ?_; rintro e w9 ⟨rfl, hb⟩
  have HB9 := Lib.hid (HB8.out.trans (hb.mono HB8.out.size))
  clear hb
  go_wp2_with fail
  refine (HI2.out _ w9.heap.size _ (HB9.out.alloc HB9.out.size _) (by simp) (OwnT.built w9 _ 2 _ rfl rfl (by decide))).mono ?_; rintro e wa ⟨rfl, hb⟩
  have HBa : Hid (Below w.heap.size w wa) := Lib.hid ((HB9.out.alloc HB9.out.size _).trans (hb.mono HB9.out.size))
  clear hb
  go_wp2_with fail
  go_ret
  exact ⟨rfl, HBa.out⟩
end Go.Proofs.YtgclnjogoghhcaaGreatDoor
namespace Go.Proofs.YtgclnjogoghhcaaGreatDoor
open Go.RowKit
theorem OwnT.take {B g cap : Nat} {L : List Tok} {W : World} (h : OwnT B (.slice (some ⟨g, 0, none⟩) L.length cap) L W) (k : Nat) (hk : k ≤ L.length) : TokSl (.slice (some ⟨g, 0, none⟩) k cap) (L.take k) W := by
  refine Or.inr ⟨g, 0, cap, by rw [List.length_take, Nat.min_eq_left hk], ?_⟩
  rcases h.sl with ⟨a1, c1, e, e2, _⟩ | ⟨b1, o1, c1, e, hr⟩
  · subst e2
    intro j hj
    simp at hj
  · injection e with e _ _
    injection e with e
    injection e with e1 e2 _
    subst e1 e2
    intro j hj
    have hj2 : j < L.length := by rw [List.length_take] at hj; omega
    have := hr j hj2
    rw [List.getElem_take]
    exact this
theorem OwnT.cap {B g n cap : Nat} {L : List Tok} {W : World} (h : OwnT B (.slice (some ⟨g, 0, none⟩) n cap) L W) : n ≤ cap := by
  rcases h.2 with ⟨h1, h2⟩ | ⟨g', cap', cur, hv, hB, hg, hn, hrest⟩
  · cases h1
  · injection hv with _ e1 e2; omega
set_option maxRecDepth 100000 in
theorem begins_far (a b : ByteArray) (h : 1000 < a.size ∨ 1000 < b.size) (w : World) (hE : EnvU w) :
    Calls Tryz.prog 4 #[.string a, .string b] w fun e w' => e = .returned (.bool true) ∧ Below w.heap.size w w' := by
  have HA := Lib.hid (lalive17 w hE)
  clear hE
  by_cases ha : 1000 < a.size
  · go_enter Tryz.func4, Tryz.ntmps4
    go_wp2_with fail
    refine HA.out.mono ?_; rintro e w1 ⟨rfl, hb⟩
    go_wp2_with fail
    go_ret
    exact ⟨rfl, hb⟩
  · have hb2 : 1000 < b.size := by omega
    have ha2 : decide (1000 < a.size) = false := decide_eq_false ha
    go_enter Tryz.func4, Tryz.ntmps4
    go_wp2_with fail
    refine HA.out.mono ?_; rintro e w1 ⟨rfl, hb⟩
    go_wp2_with fail
    go_ret
    exact ⟨rfl, hb⟩
set_option maxRecDepth 100000 in
theorem begins_err (a b : ByteArray) (ha : a.size ≤ 1000) (hb : b.size ≤ 1000) (v u : Value) (ea eb : Int) (na nb : Int) (hab : eb ≠ 0 ∧ (ea = 0 ∨ ea ≠ 0)) (w : World)
    (HA : Hid (Calls Tryz.prog 9 #[] w fun e w' => e = .returned (.bool true) ∧ Below w.heap.size w w'))
    (H1 : Hid (∀ W, Below w.heap.size w W → Calls Tryz.prog 8 #[.string a] W fun e w' => (∃ v, e = .returned (.tuple #[v, .int .i64 na, .int .i64 ea])) ∧ Below W.heap.size W w'))
    (H2 : Hid (∀ W, Below w.heap.size w W → Calls Tryz.prog 8 #[.string (a ++ ⟨#[10]⟩ ++ b)] W fun e w' => (∃ v, e = .returned (.tuple #[v, .int .i64 nb, .int .i64 eb])) ∧ Below W.heap.size W w')) :
    Calls Tryz.prog 4 #[.string a, .string b] w fun e w' => e = .returned (.bool true) ∧ Below w.heap.size w w' := by
  obtain ⟨h1, h2⟩ := hab
  have ha2 : decide (1000 < a.size) = false := decide_eq_false (by omega)
  have hb2 : decide (1000 < b.size) = false := decide_eq_false (by omega)
  have h1n : (eb != 0) = true := by simpa using h1
  have h1e : (eb == 0) = false := by simpa using h1
  rcases h2 with rfl | h2
  · go_enter Tryz.func4, Tryz.ntmps4
    go_wp2_with fail
    refine HA.out.mono ?_; rintro e w1 ⟨rfl, hb⟩
    have HB1 := Lib.hid hb
    clear hb
    go_wp2_with fail
    refine (H1.out _ HB1.out).mono ?_; rintro e w2 ⟨⟨v, rfl⟩, hb⟩
    have HB2 := Lib.hid (HB1.out.trans (hb.mono HB1.out.size))
    clear hb
    go_wp2_with fail
    refine (H2.out _ HB2.out).mono ?_; rintro e w3 ⟨⟨u, rfl⟩, hb⟩
    have HB3 := Lib.hid (HB2.out.trans (hb.mono HB2.out.size))
    clear hb
    go_wp2_with fail
    go_ret
    exact ⟨rfl, HB3.out⟩
  · have h2n : (ea != 0) = true := by simpa using h2
    have h2e : (ea == 0) = false := by simpa using h2
    go_enter Tryz.func4, Tryz.ntmps4
    go_wp2_with fail
    refine HA.out.mono ?_; rintro e w1 ⟨rfl, hb⟩
    have HB1 := Lib.hid hb
    clear hb
    go_wp2_with fail
    refine (H1.out _ HB1.out).mono ?_; rintro e w2 ⟨⟨v, rfl⟩, hb⟩
    have HB2 := Lib.hid (HB1.out.trans (hb.mono HB1.out.size))
    clear hb
    go_wp2_with fail
    refine (H2.out _ HB2.out).mono ?_; rintro e w3 ⟨⟨u, rfl⟩, hb⟩
    have HB3 := Lib.hid (HB2.out.trans (hb.mono HB2.out.size))
    clear hb
    go_wp2_with fail
    go_ret
    exact ⟨rfl, HB3.out⟩
set_option maxRecDepth 100000 in
set_option maxHeartbeats 1000000 in
theorem begins_ok (a b : ByteArray) (ha : a.size ≤ 1000) (hb : b.size ≤ 1000) (L M : List Tok) (hL : 0 < L.length) (hLM : L.length ≤ M.length) (hMl : M.length ≤ 100000) (hS : Hid (sameT true (M.take (L.length - 1)) (L.take (L.length - 1)) = true)) (w : World)
    (HA : Hid (Calls Tryz.prog 9 #[] w fun e w' => e = .returned (.bool true) ∧ Below w.heap.size w w'))
    (H1 : Hid (∀ W, Below w.heap.size w W → Calls Tryz.prog 8 #[.string a] W fun e w' => (∃ g cap, e = .returned (.tuple #[.slice (some ⟨g, 0, none⟩) L.length cap, .int .i64 0, .int .i64 0]) ∧ OwnT W.heap.size (.slice (some ⟨g, 0, none⟩) L.length cap) L w') ∧ Below W.heap.size W w'))
    (H2 : Hid (∀ W, Below w.heap.size w W → Calls Tryz.prog 8 #[.string (a ++ ⟨#[10]⟩ ++ b)] W fun e w' => (∃ g cap, e = .returned (.tuple #[.slice (some ⟨g, 0, none⟩) M.length cap, .int .i64 0, .int .i64 0]) ∧ OwnT W.heap.size (.slice (some ⟨g, 0, none⟩) M.length cap) M w') ∧ Below W.heap.size W w')) :
    Calls Tryz.prog 4 #[.string a, .string b] w fun e w' => e = .returned (.bool true) ∧ Below w.heap.size w w' := by
  have ha2 : decide (1000 < a.size) = false := decide_eq_false (by omega)
  have hb2 : decide (1000 < b.size) = false := decide_eq_false (by omega)
  obtain ⟨q, hq⟩ : ∃ q, L.length - 1 = q := ⟨_, rfl⟩
  have hqi : (L.length : Int) - 1 = (q : Int) := by omega
  have hwq : IntKind.i64.wrap ((L.length : Int) - 1) = (q : Int) := by rw [hqi]; exact IntWalk.i64_in _ (by omega)
  have hwq2 : IntKind.i64.wrap (q : Int) = (q : Int) := IntWalk.i64_in _ (by omega)
  have hq0 : (0 : Int) ≤ (q : Int) := by omega
  rw [hq] at hS
  have hqM : (q : Int) ≤ (M.length : Int) := by omega
  have hqL : (q : Int) ≤ (L.length : Int) := by omega
  have hqM2 : q ≤ M.length := by omega
  have hqL2 : q ≤ L.length := by omega
  have hle : decide (L.length ≤ M.length) = true := decide_eq_true hLM
  clear hq
  go_enter Tryz.func4, Tryz.ntmps4
  go_wp2_with fail
  refine HA.out.mono ?_; rintro e w1 ⟨rfl, hb⟩
  have HB1 := Lib.hid hb
  clear hb
  go_wp2_with fail
  refine (H1.out _ HB1.out).mono ?_; rintro e w2 ⟨⟨g1, cap1, rfl, ho⟩, hb⟩
  have HB2 := Lib.hid (HB1.out.trans (hb.mono HB1.out.size))
  have HO1 := Lib.hid ho
  clear hb ho
  go_wp2_with fail
  refine (H2.out _ HB2.out).mono ?_; rintro e w3 ⟨⟨g2, cap2, rfl, ho⟩, hb⟩
  have HB3 := Lib.hid (HB2.out.trans (hb.mono HB2.out.size))
  have HO2 := Lib.hid ho
  have HO3 := Lib.hid (HO1.out.below hb)
  clear hb ho
  go_wp2_with fail
  -- REGION
  have hcap1 : L.length ≤ cap1 := HO1.out.cap
  have hcap2 : M.length ≤ cap2 := HO2.out.cap
  have hq1 : (q : Int) ≤ (cap1 : Int) := by omega
  have hq2 : (q : Int) ≤ (cap2 : Int) := by omega
  have HSM : Hid (∀ W, Below w3.heap.size w3 W → Calls Tryz.prog 14 #[.slice (some ⟨g2, 0, none⟩) q cap2, .slice (some ⟨g1, 0, none⟩) q cap1, .bool true] W fun e w' => e = .returned (.bool true) ∧ Below W.heap.size W w') := Lib.hid (fun W hW => by
    have := rsame17_any (M.take q) (L.take q) _ _ true (by rw [List.length_take]; omega) (by rw [List.length_take]; omega) W ((HO2.out.take q hqM2).below hW) ((HO3.out.take q hqL2).below hW)
    rw [hS.out] at this
    exact this)
  refine wp_region_held_drew (S := (fun W => Below w3.heap.size w3 W)) (by kernel_rfl) (⟨rfl, rfl, rfl, Nat.le_refl _, fun _ _ => rfl⟩) (fun hHeld => ?_)
  refine tky 0 (some 56) (v := ?_) rfl (by kernel_rfl) (by kernel_rfl) (by kernel_rfl) (fun _ _ _ h => h) ?_ hHeld ?_
  rotate_left
  focus (intro w hSw; (try dsimp only at hSw); go_simp; (try with_reducible rfl); done)
  simp only [Act.put, List.setIfInBounds_toArray, List.set_cons_zero, List.set_cons_succ]
  refine tky 1 (some 57) (v := ?_) rfl (by kernel_rfl) (by kernel_rfl) (by kernel_rfl) (fun _ _ _ h => h) ?_ hHeld ?_
  rotate_left
  focus (intro w hSw; (try dsimp only at hSw); go_simp; (try with_reducible rfl); done)
  simp only [Act.put, List.setIfInBounds_toArray, List.set_cons_zero, List.set_cons_succ]
  refine tky 2 (some 58) (v := ?_) rfl (by kernel_rfl) (by kernel_rfl) (by kernel_rfl) (fun _ _ _ h => h) ?_ hHeld ?_
  rotate_left
  focus (intro w hSw; (try dsimp only at hSw); go_simp; (try with_reducible rfl); done)
  simp only [Act.put, List.setIfInBounds_toArray, List.set_cons_zero, List.set_cons_succ]
  refine tky 3 (some 59) (v := ?_) rfl (by kernel_rfl) (by kernel_rfl) (by kernel_rfl) (fun _ _ _ h => h) ?_ hHeld ?_
  rotate_left
  focus (intro w hSw; (try dsimp only at hSw); go_simp; (try with_reducible rfl); done)
  simp only [Act.put, List.setIfInBounds_toArray, List.set_cons_zero, List.set_cons_succ]
  refine tky 4 (some 60) (v := ?_) rfl (by kernel_rfl) (by kernel_rfl) (by kernel_rfl) (fun _ _ _ h => h) ?_ hHeld ?_
  rotate_left
  focus (intro w hSw; (try dsimp only at hSw); go_simp; (try with_reducible rfl); done)
  simp only [Act.put, List.setIfInBounds_toArray, List.set_cons_zero, List.set_cons_succ]
  refine tky 5 (some 61) (v := ?_) rfl (by kernel_rfl) (by kernel_rfl) (by kernel_rfl) (fun _ _ _ h => h) ?_ hHeld ?_
  rotate_left
  focus (intro w hSw; (try dsimp only at hSw); go_simp; (try with_reducible rfl); done)
  simp only [Act.put, List.setIfInBounds_toArray, List.set_cons_zero, List.set_cons_succ]
  refine tky 6 (some 62) (v := ?_) rfl (by kernel_rfl) (by kernel_rfl) (by kernel_rfl) (fun _ _ _ h => h) ?_ hHeld ?_
  rotate_left
  focus (intro w hSw; (try dsimp only at hSw); go_simp; (try with_reducible rfl); done)
  simp only [Act.put, List.setIfInBounds_toArray, List.set_cons_zero, List.set_cons_succ]
  refine tky 7 (some 63) (v := ?_) rfl (by kernel_rfl) (by kernel_rfl) (by kernel_rfl) (fun _ _ _ h => h) ?_ hHeld ?_
  rotate_left
  focus (intro w hSw; (try dsimp only at hSw); go_simp; (try with_reducible rfl); done)
  simp only [Act.put, List.setIfInBounds_toArray, List.set_cons_zero, List.set_cons_succ]
  refine tky 8 (some 64) (v := ?_) rfl (by kernel_rfl) (by kernel_rfl) (by kernel_rfl) (fun _ _ _ h => h) ?_ hHeld ?_
  rotate_left
  focus (intro w hSw; (try dsimp only at hSw); go_simp; (try with_reducible rfl); done)
  simp only [Act.put, List.setIfInBounds_toArray, List.set_cons_zero, List.set_cons_succ]
  refine tky 9 (some 65) (v := ?_) rfl (by kernel_rfl) (by kernel_rfl) (by kernel_rfl) (fun _ _ _ h => h) ?_ hHeld ?_
  rotate_left
  focus (intro w hSw; (try dsimp only at hSw); go_simp; (try with_reducible rfl); done)
  simp only [Act.put, List.setIfInBounds_toArray, List.set_cons_zero, List.set_cons_succ]
  refine tky 10 (some 66) (v := ?_) rfl (by kernel_rfl) (by kernel_rfl) (by kernel_rfl) (fun _ _ _ h => h) ?_ hHeld ?_
  rotate_left
  focus (intro w hSw; (try dsimp only at hSw); go_simp; (try with_reducible rfl); done)
  simp only [Act.put, List.setIfInBounds_toArray, List.set_cons_zero, List.set_cons_succ]
  refine tky 11 (some 67) (v := ?_) rfl (by kernel_rfl) (by kernel_rfl) (by kernel_rfl) (fun _ _ _ h => h) ?_ hHeld ?_
  rotate_left
  focus (intro w hSw; (try dsimp only at hSw); go_simp; (try with_reducible rfl); done)
  simp only [Act.put, List.setIfInBounds_toArray, List.set_cons_zero, List.set_cons_succ]
  refine tky 12 (some 68) (v := ?_) rfl (by kernel_rfl) (by kernel_rfl) (by kernel_rfl) (fun _ _ _ h => h) ?_ hHeld ?_
  rotate_left
  focus (intro w hSw; (try dsimp only at hSw); go_simp; (try with_reducible rfl); done)
  simp only [Act.put, List.setIfInBounds_toArray, List.set_cons_zero, List.set_cons_succ]
  refine tky 13 (some 69) (v := ?_) rfl (by kernel_rfl) (by kernel_rfl) (by kernel_rfl) (fun _ _ _ h => h) ?_ hHeld ?_
  rotate_left
  focus (intro w hSw; (try dsimp only at hSw); go_simp; (try with_reducible rfl); done)
  simp only [Act.put, List.setIfInBounds_toArray, List.set_cons_zero, List.set_cons_succ]
  refine tky 14 (some 70) (v := ?_) rfl (by kernel_rfl) (by kernel_rfl) (by kernel_rfl) (fun _ _ _ h => h) ?_ hHeld ?_
  rotate_left
  focus (intro w hSw; (try dsimp only at hSw); go_simp; (try with_reducible rfl); done)
  simp only [Act.put, List.setIfInBounds_toArray, List.set_cons_zero, List.set_cons_succ]
  refine tky 15 (some 71) (v := ?_) rfl (by kernel_rfl) (by kernel_rfl) (by kernel_rfl) (fun _ _ _ h => h) ?_ hHeld ?_
  rotate_left
  focus (intro w hSw; (try dsimp only at hSw); go_simp; (try with_reducible rfl); done)
  simp only [Act.put, List.setIfInBounds_toArray, List.set_cons_zero, List.set_cons_succ]
  refine rcons 16 rfl (by kernel_rfl) (fun K hK => ?_)
  go_simp
  refine (HSM.out _ hHeld).mono ?_; rintro e w5 ⟨rfl, hb5⟩
  (try dsimp only)
  refine hK.out _ _ (hHeld.trans (hb5.mono hHeld.size)) (fun hHeld2 => ?_)
  clear hK K hHeld
  have hHeld := hHeld2
  clear hHeld2
  (try simp only [Act.put, List.setIfInBounds_toArray, List.set_cons_zero, List.set_cons_succ])
  refine tky 17 (some 73) (v := ?_) rfl (by kernel_rfl) (by kernel_rfl) (by kernel_rfl) (fun _ _ _ h => h) ?_ hHeld ?_
  rotate_left
  focus (intro w hSw; (try dsimp only at hSw); go_simp; (try with_reducible rfl); done)
  simp only [Act.put, List.setIfInBounds_toArray, List.set_cons_zero, List.set_cons_succ]
  refine tky 18 (some 4) (v := ?_) rfl (by kernel_rfl) (by kernel_rfl) (by kernel_rfl) (fun _ _ _ h => h) ?_ hHeld ?_
  rotate_left
  focus (intro w hSw; (try dsimp only at hSw); go_simp; (try with_reducible rfl); done)
  simp only [Act.put, List.setIfInBounds_toArray, List.set_cons_zero, List.set_cons_succ]
  refine wpAnyH_done (by kernel_rfl) ?_ _
  go_wp2_with fail
  go_ret
  exact ⟨rfl, HB3.out.trans (hHeld.mono HB3.out.size)⟩
theorem begins_walk (a b : ByteArray) (hz : a.size ≤ maxLen) (hz2 : b.size ≤ maxLen) (w : World) (hE : EnvU w) :
    Calls Tryz.prog 4 #[.string a, .string b] w fun e w' => e = .returned (.bool true) ∧ Below w.heap.size w w' := by
  by_cases hfar : 1000 < a.size ∨ 1000 < b.size
  · exact begins_far a b hfar w hE
  have ha : a.size ≤ 1000 := by omega
  have hb : b.size ≤ 1000 := by omega
  have HA := Lib.hid (lalive17 w hE)
  have hdl : (a ++ ⟨#[10]⟩ ++ b).data.toList = a.data.toList ++ 10 :: b.data.toList := by simp
  have hz := len_z a
  have hz2 := len_z b
  have hsz : (a ++ ⟨#[10]⟩ ++ b).size ≤ 1000000 := by
    have := len_z (a ++ ⟨#[10]⟩ ++ b)
    rw [hdl, List.length_append, List.length_cons] at this
    omega
  have hlaw := lex_begins a.data.toList b.data.toList (by simp; omega)
  rw [← hdl] at hlaw
  have E1 := fun W (h : Below w.heap.size w W) => hE.below h
  cases h1 : lex0 a.data.toList with
  | error x =>
    obtain ⟨ea, na⟩ := x
    rw [h1] at hlaw
    obtain ⟨⟨eb, nb⟩, h2⟩ := hlaw
    exact begins_err a b ha hb .nilIface .nilIface ea eb na nb ⟨lex0_err _ _ _ h2, Or.inr (lex0_err _ _ _ h1)⟩ w HA (Lib.hid fun W hW => (lex_not a (by omega) ea na h1 W (E1 W hW)).mono fun e w' ⟨g1, g2⟩ => ⟨⟨_, g1⟩, g2⟩) (Lib.hid fun W hW => (lex_not _ hsz eb nb h2 W (E1 W hW)).mono fun e w' ⟨g1, g2⟩ => ⟨⟨_, g1⟩, g2⟩)
  | ok L =>
    rw [h1] at hlaw
    rcases hlaw with ⟨⟨eb, nb⟩, h2⟩ | ⟨M, e, N, hLM, hN, h2⟩
    · exact begins_err a b ha hb .nilIface .nilIface 0 eb 0 nb ⟨lex0_err _ _ _ h2, Or.inl rfl⟩ w HA (Lib.hid fun W hW => (lex_yes a (by omega) L h1 W (E1 W hW)).mono fun e w' ⟨⟨v, g1, _⟩, g2⟩ => ⟨⟨v, g1⟩, g2⟩) (Lib.hid fun W hW => (lex_not _ hsz eb nb h2 W (E1 W hW)).mono fun e w' ⟨g1, g2⟩ => ⟨⟨_, g1⟩, g2⟩)
    · have hN1 : 1 ≤ N.length := List.length_pos_iff.2 hN
      have hL0 : 0 < L.length := by rw [hLM]; simp
      have hMl : (M ++ N).length ≤ 100000 := by
        unfold lex0 at h2
        split at h2
        · cases h2
        split at h2
        · cases h2
        rename_i g1 g2
        obtain ⟨M', e', hR, _, hlen, _⟩ := lex_ok _ _ _ _ _ (by omega) h2
        rw [hR]
        simp only [List.length_append, List.nil_append, List.length_singleton]
        omega
      refine begins_ok a b ha hb L (M ++ N) hL0 (by rw [hLM, List.length_append, List.length_append]; simp; omega) hMl (Lib.hid ?_) w HA (Lib.hid fun W hW => lex_row a (by omega) L h1 hL0 W (E1 W hW)) (Lib.hid fun W hW => lex_row _ hsz (M ++ N) h2 (by rw [List.length_append]; omega) W (E1 W hW))
      have e1 : L.length - 1 = M.length := by rw [hLM]; simp
      rw [e1, List.take_left, hLM, List.take_left]
      exact sameT_self true M
end Go.Proofs.YtgclnjogoghhcaaGreatDoor
namespace Go.Proofs.YtgclnjogoghhcaaGreatDoor
open Go.RowKit Go.WideShapes Go.ChangeShapes
section
variable {H : Type} {enc : TypeId × Value → H} {P : Program}
/-- What 'post_of_same' asks of all addresses is asked here of the old blocks alone. -/
theorem post_below {f : Func} {s : ChangeSpec} {apart fresh handsOn again : Bool} {W W' : World} {args : Array Value} {v : Value} {ds gs : List (DataW H)} {before pa pv : List MemPlace}
    (hW : DataW.Whole enc P f.params.toList s.vars apart W args.toList ds gs before)
    (hres : ∀ (b : Nat) (sp : Nat → Bool) (hd : Bool), DataW.TrodAll enc P W' b sp hd f.resultTypes.toList (v.resultList f.resultTypes.size) (s.fn H (ds ++ gs)).results [])
    (hargs : ∀ sp : Nat → Bool, (∀ p ∈ before, sp p.block = true) → DataW.TrodAll enc P W' 0 sp true f.params.toList args.toList (s.fn H (ds ++ gs)).args pa)
    (hvars : ∀ sp : Nat → Bool, (∀ p ∈ before, sp p.block = true) → DataW.TrodVars enc P W' sp s.vars (s.fn H (ds ++ gs)).vars pv)
    (hps : before = pa ++ pv) (hb : Below W.heap.size W W')
    (hok : ∀ (j : Nat) (t : TypeId) (r : Value), f.resultTypes[j]? = some t → (v.resultList f.resultTypes.size)[j]? = some r → Value.okWide P W' .any 0 t r) :
    s.post enc P f apart fresh handsOn again W args v W' := by
  have old : ∀ p ∈ before, decide (p.block < W.heap.size) = true := fun p hp => decide_eq_true (hW.lt p hp)
  subst hps
  refine ⟨ds, gs, pa ++ pv, [], pa, pv, hW, hres _ _ _, hargs _ old, hvars _ old, World.keptBut_mono (fun p hp => ⟨hp, ?_⟩) (hb.frame (· ∈ pa ++ pv)), fun _ => ?_⟩
  · exact .inr (List.mem_append.1 hp)
  · obtain ⟨_, _, _, _, _, hz, hn⟩ := hW
    refine ⟨hok, _, _, ([] ++ pa) ++ pv, ⟨[] ++ pa, pv, trodAll_append (hargs _ (fun _ _ => rfl)) (hres _ _ _), hvars _ (fun _ _ => rfl), rfl, ?_, ?_⟩, ?_⟩
    · intro b off hp
      have hin : MemPlace.cell b off ∈ pa ++ pv := by simpa using hp
      rw [hb.frozen (of_decide_eq_true (old _ hin))]
      exact hz b off hin
    · intro ha
      simpa using hn ha
    · intro p hp _
      simpa using hp
end
end Go.Proofs.YtgclnjogoghhcaaGreatDoor
namespace Go.Proofs.YtgclnjogoghhcaaGreatDoor
open Go.RowKit
theorem many_snoc : ∀ n, manyA (n + 1) = manyA n ++ [97, 32]
  | 0 => rfl
  | n + 1 => by
    have h := many_snoc n
    show 97 :: 32 :: manyA (n + 1) = (97 :: 32 :: manyA n) ++ [97, 32]
    rw [h]; rfl
theorem many_take : (manyA 1025).take 2048 = manyA 1024 := by
  rw [many_snoc 1024, List.take_left' (by rw [many_len])]
set_option maxRecDepth 100000 in
set_option maxHeartbeats 4000000 in
theorem lnames_walk (w : World) (hE : EnvU w) : Calls Tryz.prog 3 #[] w fun e w' => e = .returned (.bool true) ∧ Below w.heap.size w w' := by
  have HA := Lib.hid (fun W (hW : Below w.heap.size w W) => lalive17 W (hE.below hW))
  have HF := Lib.hid (fun (s : ByteArray) (hs : s.size ≤ 1000000) (k n : Int) (a : Nat) (hn : n = (a : Int)) (hx : failsL s.data.toList k a = true) W (hW : Below w.heap.size w W) => lfails_yes s hs k n W (hE.below hW) a hn hx)
  have HI := Lib.hid (fun (s : ByteArray) (hs : s.size ≤ 1000000) (want : List Tok) (hw : want.length ≤ 1000) (u : Value) (B : Nat) W (hW : Below w.heap.size w W) (hB : B ≤ W.heap.size) (hu : OwnT B u want W) (hx : isL s.data.toList (want.map kt) = true) => lis_yes s hs want hw u B W (hE.below hW) hB hu hx)
  have HN := Lib.hid (fun s W => lname17 s W)
  have HM := Lib.hid (fun s W => lmark17 s W)
  have HNA := Lib.hid (fun s hs W => lname_any s hs W)
  have HX := Lib.hid (fun (s : ByteArray) (hs : s.size ≤ 1000000) (L : List Tok) (h : lex0 s.data.toList = .ok L) (h0 : 0 < L.length) W (hW : Below w.heap.size w W) => lex_row s hs L h h0 W (hE.below hW))
  have HB0 : Hid (Below w.heap.size w w) := Lib.hid (Below.refl _ _)
  clear hE
  go_enter Tryz.func3, Tryz.ntmps3
  go_wp2_with fail
  refine (HF.out ⟨#[48, 49]⟩ (by decide) 170 0 0 rfl ex_01 _ HB0.out).mono ?_; rintro e w1 ⟨rfl, hb⟩
  have HB1 : Hid (Below w.heap.size w w1) := Lib.hid (HB0.out.trans (hb.mono HB0.out.size))
  clear hb
  go_wp2_with fail
  refine (HF.out ⟨#[49, 46, 53]⟩ (by decide) 170 0 0 rfl ex_15 _ HB1.out).mono ?_; rintro e w2 ⟨rfl, hb⟩
  have HB2 : Hid (Below w.heap.size w w2) := Lib.hid (HB1.out.trans (hb.mono HB1.out.size))
  clear hb
  go_wp2_with fail
  refine (HF.out ⟨#[49, 97]⟩ (by decide) 170 0 0 rfl ex_1a _ HB2.out).mono ?_; rintro e w3 ⟨rfl, hb⟩
  have HB3 : Hid (Below w.heap.size w w3) := Lib.hid (HB2.out.trans (hb.mono HB2.out.size))
  clear hb
  go_wp2_with fail
  refine (HF.out ⟨#[46, 46]⟩ (by decide) 170 0 0 rfl ex_dots _ HB3.out).mono ?_; rintro e w4 ⟨rfl, hb⟩
  have HB4 : Hid (Below w.heap.size w w4) := Lib.hid (HB3.out.trans (hb.mono HB3.out.size))
  clear hb
  go_wp2_with fail
  refine (HF.out ⟨#[34, 97]⟩ (by decide) 170 0 0 rfl ex_open _ HB4.out).mono ?_; rintro e w5 ⟨rfl, hb⟩
  have HB5 : Hid (Below w.heap.size w w5) := Lib.hid (HB4.out.trans (hb.mono HB4.out.size))
  clear hb
  go_wp2_with fail
  refine (HF.out ⟨#[34, 34, 34, 34]⟩ (by decide) 170 0 0 rfl ex_four _ HB5.out).mono ?_; rintro e w6 ⟨rfl, hb⟩
  have HB6 : Hid (Below w.heap.size w w6) := Lib.hid (HB5.out.trans (hb.mono HB5.out.size))
  clear hb
  go_wp2_with fail
  refine (HF.out ⟨#[97, 32, 63]⟩ (by decide) 170 2 2 rfl ex_ask _ HB6.out).mono ?_; rintro e w7 ⟨rfl, hb⟩
  have HB7 : Hid (Below w.heap.size w w7) := Lib.hid (HB6.out.trans (hb.mono HB6.out.size))
  clear hb
  go_wp2_with fail
  refine (HF.out ⟨#[35, 1]⟩ (by decide) 170 1 1 rfl ex_ctl _ HB7.out).mono ?_; rintro e w8 ⟨rfl, hb⟩
  have HB8 : Hid (Below w.heap.size w w8) := Lib.hid (HB7.out.trans (hb.mono HB7.out.size))
  clear hb
  go_wp2_with fail
  go_loop [2, 3] (fun s2 s3 => ∃ (k : Nat) (s : ByteArray), s2 = .string s ∧ s3 = .int .i64 k ∧ k ≤ 1025 ∧ s.size ≤ 3000 ∧ Hid (s.data.toList = manyA k)) (fun _ s3 => 1025 - (intOf s3).toNat)
  case atStart => exact ⟨0, ⟨#[]⟩, rfl, rfl, by omega, by decide, Lib.hid rfl⟩
  case round =>
    obtain ⟨k, s, rfl, rfl, hk, hsz, HS⟩ := hrel
    by_cases hlt : k < 1025
    · have HS2 : Hid ((s ++ ⟨#[97, 32]⟩).data.toList = manyA (k + 1)) := Lib.hid (by rw [many_snoc, ← HS.out]; simp)
      have hsz2 : (s ++ ⟨#[97, 32]⟩).size ≤ 3000 := by
        have := len_z (s ++ ⟨#[97, 32]⟩)
        rw [HS2.out, many_len] at this; omega
      have HZ := Lib.hid hsz2
      clear hsz2
      go_wp2_with fail
      go_round
      case rel => exact ⟨k + 1, s ++ ⟨#[97, 32]⟩, rfl, by go_num, by omega, HZ.out, HS2⟩
      case measure => simp [intOf]; omega
    · obtain rfl : k = 1025 := by omega
      have hz5 : s.size = 2050 := by rw [← len_z, HS.out, many_len]
      have HZ5 := Lib.hid hz5
      have hle : (2048 : Int) ≤ (s.size : Int) := by omega
      have hle2 : 2048 ≤ s.size := by omega
      clear hz5
      obtain ⟨t, ht⟩ : ∃ t, s.extract 0 2048 = t := ⟨_, rfl⟩
      have htl : t.data.toList = manyA 1024 := by rw [← ht, extract_take, HS.out, many_take]
      obtain ⟨L, hL, hLl⟩ := ex_full
      have htz : t.size ≤ 1000000 := by rw [← len_z, htl, many_len]; decide
      have HXT := Lib.hid (HX.out t htz L (by rw [htl]; exact hL) (by omega) w8 HB8.out)
      have hF : failsL s.data.toList 171 2048 = true := by unfold failsL; rw [HS.out, ex_fuel]; rfl
      have HFF := Lib.hid hF
      have HLL := Lib.hid hLl
      have hli : (L.length : Int) = 1025 := by omega
      clear htl htz hL hLl hF
      go_wp2_with fail
      refine (HXT.out).mono ?_; rintro e w9 ⟨⟨g1, cap1, rfl, ho⟩, hb⟩
      have HB9 : Hid (Below w.heap.size w w9) := Lib.hid (HB8.out.trans (hb.mono HB8.out.size))
      clear hb
      go_wp2_with fail
      refine (HA.out _ HB9.out).mono ?_; rintro e w10 ⟨rfl, hb⟩
      have HB10 : Hid (Below w.heap.size w w10) := Lib.hid (HB9.out.trans (hb.mono HB9.out.size))
      clear hb
      go_wp2_with fail
      refine (HF.out s (by omega) 171 2048 2048 rfl HFF.out _ HB10.out).mono ?_; rintro e w11 ⟨rfl, hb⟩
      have HB11 : Hid (Below w.heap.size w w11) := Lib.hid (HB10.out.trans (hb.mono HB10.out.size))
      clear hb
      go_wp2_with fail
      refine (HI.out ⟨#[]⟩ (by decide) [] (by decide) _ w11.heap.size w11 HB11.out (Nat.le_refl _) (OwnT.nil _ _) ex_none).mono ?_; rintro e w12 ⟨rfl, hb⟩
      have HB12 : Hid (Below w.heap.size w w12) := Lib.hid (HB11.out.trans (hb.mono HB11.out.size))
      clear hb
      go_wp2_with fail
      refine (HN.out _ _).mono ?_; rintro e w13 ⟨rfl, hb⟩
      have HB13 : Hid (Below w.heap.size w w13) := Lib.hid (HB12.out.trans (hb.mono HB12.out.size))
      clear hb
      go_wp2_with fail
      refine (HM.out _ _).mono ?_; rintro e w14 ⟨rfl, hb⟩
      have HB14 : Hid (Below w.heap.size w w14) := Lib.hid (HB13.out.trans (hb.mono HB13.out.size))
      clear hb
      go_wp2_with fail
      refine (HI.out ⟨#[239, 187, 191, 32, 97, 9, 34, 9, 34, 46, 46, 46]⟩ (by decide) [⟨1, [97], 0⟩, ⟨3, [9], 0⟩, ⟨4, [46, 46, 46], 0⟩] (by decide) _ w14.heap.size _ (HB14.out.alloc HB14.out.size _) (by simp) (OwnT.built w14 _ 3 _ rfl rfl (by decide)) ex_mixed).mono ?_; rintro e w15 ⟨rfl, hb⟩
      have HB15 : Hid (Below w.heap.size w w15) := Lib.hid ((HB14.out.alloc HB14.out.size _).trans (hb.mono HB14.out.size))
      clear hb
      go_wp2_with fail
      refine (HNA.out ⟨#[95, 97, 49]⟩ (by decide) _).mono ?_; rintro e wx ⟨rfl, rfl⟩
      go_wp2_with fail
      refine (HNA.out ⟨#[49, 97]⟩ (by decide) _).mono ?_; rintro e wx ⟨rfl, rfl⟩
      go_wp2_with fail
      refine (HF.out ⟨#[255]⟩ (by decide) 10 0 0 rfl ex_utf _ HB15.out).mono ?_; rintro e w16 ⟨rfl, hb⟩
      have HB16 : Hid (Below w.heap.size w w16) := Lib.hid (HB15.out.trans (hb.mono HB15.out.size))
      clear hb
      go_wp2_with fail
      go_ret
      exact ⟨rfl, HB16.out⟩
end Go.Proofs.YtgclnjogoghhcaaGreatDoor
