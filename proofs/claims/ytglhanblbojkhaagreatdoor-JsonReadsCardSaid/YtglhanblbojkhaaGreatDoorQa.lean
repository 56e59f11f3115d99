/- Walks of this proof, several texts joined into one: Oa, Oe, Ob, Oc, Od, Og. -/
import Derived.Test.YtglhanblbojkhaaGreatDoorNz
import Derived.Test.YtglhanblbojkhaaGreatDoorTg
set_option linter.unusedSimpArgs false
set_option linter.unusedVariables false
namespace Go.Proofs.YtglhanblbojkhaaGreatDoor
open Go.RowKit Go.Lib
theorem leaf_text (name l : List UInt8) (out : List Cel) : leafJ name (UInt8.ofNat 34) l out = endE (txE (.ok l)) (out ++ [⟨3, name, nmE (.ok l), 0, 0⟩]) := by
  unfold leafJ
  rw [if_pos (by decide)]
  cases hs : strJ l with
  | none => rw [txE_none hs]; rfl
  | some y => obtain ⟨n, t⟩ := y; rw [txE_some hs, nmE_some hs]; rfl
theorem leaf_tk (name what l : List UInt8) (x : Cel) (out : List Cel) : (match tkJ what l with | none => (.error 40 : Except Int (List UInt8 × List Cel)) | some t => .ok (t, out ++ [x])) = endE (tkE what (.ok l)) (out ++ [x]) := by
  cases hs : tkJ what l with
  | none => rw [tkE_none hs]; rfl
  | some t => rw [tkE_some hs]; rfl
set_option maxRecDepth 100000 in
set_option maxHeartbeats 4000000 in
theorem rvalue_true (d : Nat) (r : Nat) (s name : ByteArray) (op : Int) (v : Value) (L : List Cel) (l : List UInt8) (W : World) (hs : s.size ≤ 20000) (hv : validD l = true) (h : StE r s v (.ok l) W) (hown : OwnC (r + 1) v L W) (hL : L.length ≤ 2048) (hf : L.length ≠ 2048) (c : UInt8) (rest : List UInt8) (hb : blJ l = c :: rest) (hc : c = UInt8.ofNat 116) :
    Calls Tryz.prog 25 #[.pointer (some ⟨r, 0, none⟩), .string name, .int .i64 op] W fun x w' => x = .returned (.tuple #[]) ∧ ValE r s v (valJ d name.data.toList l L) W w' := by
  have HV0 : Hid (VS r s W v v L (.ok l) W) := Lib.hid ⟨h, hown, VK.refl _ _ _, fun k hk => Or.inl hk⟩
  have HLK : Hid (∀ v E W, StE r s v E W → Calls Tryz.prog 48 #[.pointer (some ⟨r, 0, none⟩)] W fun x w' => x = .returned (.int .u8 ((lkE E).toNat : Int)) ∧ Below W.heap.size W w') := Lib.hid fun v E W hW => e_look r s v E hs W hW
  have HBL : Hid (∀ v E W, StE r s v E W → Calls Tryz.prog 26 #[.pointer (some ⟨r, 0, none⟩)] W fun x w' => x = .returned (.tuple #[]) ∧ StE r s v (blE E) w' ∧ RK r W w') := Lib.hid fun v E W hW => e_blanks r s v E hs W hW
  have HFA : Hid (∀ (c : Int) v E W, c ≠ 0 → StE r s v E W → Calls Tryz.prog 27 #[.pointer (some ⟨r, 0, none⟩), .int .i64 c] W fun x w' => x = .returned (.tuple #[]) ∧ StE r s v (failE c E) w' ∧ RK r W w') := Lib.hid fun c v E W hc hW => e_fail r s v E c hc W hW
  have HBG : Hid (∀ (c : UInt8) (W : World), Calls Tryz.prog 49 #[.int .u8 (c.toNat : Int)] W fun x w' => x = .returned (.bool (begJ c)) ∧ W = w') := Lib.hid fun c W => rbegins_any c W
  have hvl : ∃ a n c, v = .slice a n c ∧ n = L.length := by
    rcases HV0.out.own.2 with ⟨h1, h2⟩ | ⟨g, cap, cur, h1, _⟩
    · exact ⟨none, 0, 0, h1, h2.symm⟩
    · exact ⟨_, _, _, h1, rfl⟩
  obtain ⟨av, nv, cv, rfl, hnv⟩ := hvl
  have HNV := Lib.hid hnv
  have hnv8 : nv ≤ 2048 := by omega
  have hblv : VaE (.ok (c :: rest)) := by rw [← hb]; exact (cut_bl l).2 hv
  have HVB := Lib.hid hblv
  obtain ⟨bl, hbl⟩ : ∃ bl, bl = c :: rest := ⟨_, rfl⟩
  have HBQ : Hid (blE (.ok l) = .ok bl) := Lib.hid (by rw [hbl, ← hb]; rfl)
  have HBC := Lib.hid hbl
  have HLA : Hid (∀ v W, StE r s v (.ok bl) W → Calls Tryz.prog 48 #[.pointer (some ⟨r, 0, none⟩)] W fun x w' => x = .returned (.int .u8 (c.toNat : Int)) ∧ Below W.heap.size W w') := Lib.hid fun v W hW => by
    have := HLK.out v _ W hW
    rw [show lkE (.ok bl) = c from by rw [hbl]; rfl] at this
    exact this
  have hL2 : nv ≤ 2047 := by omega
  have hL3 : L.length ≤ 2047 := by omega
  subst hc
  rw [show (((UInt8.ofNat 116).toNat : Nat) : Int) = 116 from rfl] at HLA
  have HTK : Hid (∀ v E W, StE r s v E W → Calls Tryz.prog 52 #[.pointer (some ⟨r, 0, none⟩), .string ⟨#[116, 114, 117, 101]⟩] W fun x w' => x = .returned (.tuple #[]) ∧ StE r s v (tkE [116, 114, 117, 101] E) w' ∧ RK r W w') := Lib.hid fun v E W hW => e_take r s v E ⟨#[116, 114, 117, 101]⟩ hs (by decide) (by decide) (by decide) W hW
  have HLF : Hid (valJ d name.data.toList l L = endE (tkE [116, 114, 117, 101] (.ok bl)) (L ++ [⟨1, name.data.toList, [], 1, 0⟩])) := Lib.hid (by
    rw [valJ_leaf d _ l L _ rest hb hf (by decide) (by decide), hbl, ← leaf_tk name.data.toList]
    rfl)
  clear h hv hown hb hblv hbl hnv hf
  go_enter Tryz.func25, Tryz.ntmps25
  go_wp2_with fail
  refine (HBL.out _ _ _ HV0.out.st).mono ?_; rintro x w1 ⟨rfl, hst, hk⟩
  have HV1 := Lib.hid (HV0.out.rk hst hk)
  clear hst hk
  rw [HBQ.out] at HV1
  go_wp2_with fail
  refine (HLA.out _ _ HV1.out.st).mono ?_; rintro x w2 ⟨rfl, hb⟩
  have HV2 := Lib.hid (HV1.out.below hb)
  clear hb
  obtain ⟨c3, c2, f2⟩ := HV2.out.st.c3
  have tf : decide ((2048 : Int) ≤ (nv : Int)) = false := decide_eq_false (by omega)
  have HVA2 : Hid (VS r s W (.slice av nv cv) (.slice av nv cv) L (.ok bl) (World.alloc _ (.cells #[.int .u8 0, .string name, .string ⟨#[]⟩, .int .i64 0, .int .i64 0] 41))) := Lib.hid (HV2.out.alloc _)
  have hszp := HVA2.out.st.lt
  go_wp2_with (at_builtin; refine wpList_pushC rfl _ _ rfl (r + 1) (.slice av nv cv) L rfl HVA2.out.own _ 1 name.data.toList rfl (heap_alloc_new _ _) ?c1 ?c2 ?_)
  case c1 => omega
  case c2 => exact hszp
  intro v5 w4 hown' hgrow hat
  have HV5 : Hid (VS r s W (.slice av nv cv) v5 (L ++ [⟨0, name.data.toList, [], 0, 0⟩]) (.ok bl) (w4.setCell ⟨r, 2, none⟩ v5)) := Lib.hid (HVA2.out.grown hown' hgrow hat (by simp))
  obtain ⟨w5, hw5⟩ : ∃ w5, (w4.setCell ⟨r, 2, none⟩ v5) = w5 := ⟨_, rfl⟩
  have HW5 := Lib.hid hw5
  have hne4 : some r ≠ (Value.slice av nv cv).ownBlock := fun e => by
    rcases own_some HVA2.out.own with h0 | ⟨g, _, _, _, h0, h1, _⟩
    · rw [h0] at e; cases e
    · rw [h0] at e; injection e with e; omega
  have hst4 : StE r s (.slice av nv cv) (.ok bl) w4 := HVA2.out.st.same (hgrow.block r HVA2.out.st.lt hne4)
  obtain ⟨c34, c24, f24⟩ := hst4.c3
  rw [hw5] at HV5
  clear hown' hgrow hat hst4 hne4 c3 c2 f2 HVA2 hszp
  have hkl : nv < (L ++ [(⟨0, name.data.toList, [], 0, 0⟩ : Cel)]).length := by rw [HNV.out]; simp
  obtain ⟨n5, hn5⟩ : ∃ n5, (L ++ [(⟨0, name.data.toList, [], 0, 0⟩ : Cel)]).length = n5 := ⟨_, rfl⟩
  have hk5 : nv < n5 := by rw [← hn5, HNV.out]; simp
  obtain ⟨g, cap, hvg, hBg, hgl, hfz, ck0, ck2, ck3, ck4⟩ := HV5.out.own.form nv hkl
  rw [hn5] at hvg
  subst hvg
  obtain ⟨c35, c25, f25⟩ := HV5.out.st.c3
  clear hn5

  go_wp2_with fail
  try rw [HW5.out]
  refine (HTK.out _ _ _ HV5.out.st).mono ?_; rintro x w6 ⟨rfl, hst, hk⟩
  have HV6 := Lib.hid (HV5.out.rk hst hk)
  clear hst hk ck0 ck2 ck3 ck4 hfz c35 c25 f25 c34 c24 f24
  obtain ⟨c37, c27, f27⟩ := HV6.out.st.c3
  obtain ⟨hfz7, ck07, ck27, ck37⟩ := HV6.out.own.at_ rfl nv (by have := HNV.out; simp; omega)
  have hfk7 := hfz7 (nv * 5)
  have HV7 : Hid (VS r s W (.slice av nv cv) _ ((L ++ [(⟨0, name.data.toList, [], 0, 0⟩ : Cel)]).modify nv fun c => { c with kind := 1 }) _ (w6.setCell ⟨g, nv * 5, none⟩ (.int .u8 1))) := Lib.hid (HV6.out.set rfl (by omega) (by rw [List.length_modify]) (celFlat_set0 _ _ _))
  obtain ⟨c38, c28, f28⟩ := HV7.out.st.c3
  obtain ⟨hfz8, ck08, ck28, ck38⟩ := HV7.out.own.at_ rfl nv (by have := HNV.out; simp; omega)
  have hfk8 := hfz8 (nv * 5 + 3)
  have HV8 : Hid (VS r s W (.slice av nv cv) _ (((L ++ [(⟨0, name.data.toList, [], 0, 0⟩ : Cel)]).modify nv fun c => { c with kind := 1 }).modify nv fun c => { c with num := 1 }) _ ((w6.setCell ⟨g, nv * 5, none⟩ (.int .u8 1)).setCell ⟨g, nv * 5 + 3, none⟩ (.int .i64 1))) := Lib.hid (HV7.out.set rfl (by omega) (by rw [List.length_modify]) (celFlat_set3 _ _ _))
  go_wp2_with fail
  first | go_end0 | refine bodyPost_ret (results_none rfl _ _ _) rfl ?_
  have hfin := HV8.out
  rw [modify_end' _ _ _ _ HNV.out] at hfin
  rw [modify_end' _ _ _ _ HNV.out] at hfin
  rw [HLF.out]
  exact ⟨rfl, VS.toE hfin (by simp; omega)⟩
set_option maxRecDepth 100000 in
set_option maxHeartbeats 4000000 in
theorem rvalue_false (d : Nat) (r : Nat) (s name : ByteArray) (op : Int) (v : Value) (L : List Cel) (l : List UInt8) (W : World) (hs : s.size ≤ 20000) (hv : validD l = true) (h : StE r s v (.ok l) W) (hown : OwnC (r + 1) v L W) (hL : L.length ≤ 2048) (hf : L.length ≠ 2048) (c : UInt8) (rest : List UInt8) (hb : blJ l = c :: rest) (hc : c = UInt8.ofNat 102) :
    Calls Tryz.prog 25 #[.pointer (some ⟨r, 0, none⟩), .string name, .int .i64 op] W fun x w' => x = .returned (.tuple #[]) ∧ ValE r s v (valJ d name.data.toList l L) W w' := by
  have HV0 : Hid (VS r s W v v L (.ok l) W) := Lib.hid ⟨h, hown, VK.refl _ _ _, fun k hk => Or.inl hk⟩
  have HLK : Hid (∀ v E W, StE r s v E W → Calls Tryz.prog 48 #[.pointer (some ⟨r, 0, none⟩)] W fun x w' => x = .returned (.int .u8 ((lkE E).toNat : Int)) ∧ Below W.heap.size W w') := Lib.hid fun v E W hW => e_look r s v E hs W hW
  have HBL : Hid (∀ v E W, StE r s v E W → Calls Tryz.prog 26 #[.pointer (some ⟨r, 0, none⟩)] W fun x w' => x = .returned (.tuple #[]) ∧ StE r s v (blE E) w' ∧ RK r W w') := Lib.hid fun v E W hW => e_blanks r s v E hs W hW
  have HFA : Hid (∀ (c : Int) v E W, c ≠ 0 → StE r s v E W → Calls Tryz.prog 27 #[.pointer (some ⟨r, 0, none⟩), .int .i64 c] W fun x w' => x = .returned (.tuple #[]) ∧ StE r s v (failE c E) w' ∧ RK r W w') := Lib.hid fun c v E W hc hW => e_fail r s v E c hc W hW
  have HBG : Hid (∀ (c : UInt8) (W : World), Calls Tryz.prog 49 #[.int .u8 (c.toNat : Int)] W fun x w' => x = .returned (.bool (begJ c)) ∧ W = w') := Lib.hid fun c W => rbegins_any c W
  have hvl : ∃ a n c, v = .slice a n c ∧ n = L.length := by
    rcases HV0.out.own.2 with ⟨h1, h2⟩ | ⟨g, cap, cur, h1, _⟩
    · exact ⟨none, 0, 0, h1, h2.symm⟩
    · exact ⟨_, _, _, h1, rfl⟩
  obtain ⟨av, nv, cv, rfl, hnv⟩ := hvl
  have HNV := Lib.hid hnv
  have hnv8 : nv ≤ 2048 := by omega
  have hblv : VaE (.ok (c :: rest)) := by rw [← hb]; exact (cut_bl l).2 hv
  have HVB := Lib.hid hblv
  obtain ⟨bl, hbl⟩ : ∃ bl, bl = c :: rest := ⟨_, rfl⟩
  have HBQ : Hid (blE (.ok l) = .ok bl) := Lib.hid (by rw [hbl, ← hb]; rfl)
  have HBC := Lib.hid hbl
  have HLA : Hid (∀ v W, StE r s v (.ok bl) W → Calls Tryz.prog 48 #[.pointer (some ⟨r, 0, none⟩)] W fun x w' => x = .returned (.int .u8 (c.toNat : Int)) ∧ Below W.heap.size W w') := Lib.hid fun v W hW => by
    have := HLK.out v _ W hW
    rw [show lkE (.ok bl) = c from by rw [hbl]; rfl] at this
    exact this
  have hL2 : nv ≤ 2047 := by omega
  have hL3 : L.length ≤ 2047 := by omega
  subst hc
  rw [show (((UInt8.ofNat 102).toNat : Nat) : Int) = 102 from rfl] at HLA
  have HTK : Hid (∀ v E W, StE r s v E W → Calls Tryz.prog 52 #[.pointer (some ⟨r, 0, none⟩), .string ⟨#[102, 97, 108, 115, 101]⟩] W fun x w' => x = .returned (.tuple #[]) ∧ StE r s v (tkE [102, 97, 108, 115, 101] E) w' ∧ RK r W w') := Lib.hid fun v E W hW => e_take r s v E ⟨#[102, 97, 108, 115, 101]⟩ hs (by decide) (by decide) (by decide) W hW
  have HLF : Hid (valJ d name.data.toList l L = endE (tkE [102, 97, 108, 115, 101] (.ok bl)) (L ++ [⟨1, name.data.toList, [], 0, 0⟩])) := Lib.hid (by
    rw [valJ_leaf d _ l L _ rest hb hf (by decide) (by decide), hbl, ← leaf_tk name.data.toList]
    rfl)
  clear h hv hown hb hblv hbl hnv hf
  go_enter Tryz.func25, Tryz.ntmps25
  go_wp2_with fail
  refine (HBL.out _ _ _ HV0.out.st).mono ?_; rintro x w1 ⟨rfl, hst, hk⟩
  have HV1 := Lib.hid (HV0.out.rk hst hk)
  clear hst hk
  rw [HBQ.out] at HV1
  go_wp2_with fail
  refine (HLA.out _ _ HV1.out.st).mono ?_; rintro x w2 ⟨rfl, hb⟩
  have HV2 := Lib.hid (HV1.out.below hb)
  clear hb
  obtain ⟨c3, c2, f2⟩ := HV2.out.st.c3
  have tf : decide ((2048 : Int) ≤ (nv : Int)) = false := decide_eq_false (by omega)
  have HVA2 : Hid (VS r s W (.slice av nv cv) (.slice av nv cv) L (.ok bl) (World.alloc _ (.cells #[.int .u8 0, .string name, .string ⟨#[]⟩, .int .i64 0, .int .i64 0] 41))) := Lib.hid (HV2.out.alloc _)
  have hszp := HVA2.out.st.lt
  go_wp2_with (at_builtin; refine wpList_pushC rfl _ _ rfl (r + 1) (.slice av nv cv) L rfl HVA2.out.own _ 1 name.data.toList rfl (heap_alloc_new _ _) ?c1 ?c2 ?_)
  case c1 => omega
  case c2 => exact hszp
  intro v5 w4 hown' hgrow hat
  have HV5 : Hid (VS r s W (.slice av nv cv) v5 (L ++ [⟨0, name.data.toList, [], 0, 0⟩]) (.ok bl) (w4.setCell ⟨r, 2, none⟩ v5)) := Lib.hid (HVA2.out.grown hown' hgrow hat (by simp))
  obtain ⟨w5, hw5⟩ : ∃ w5, (w4.setCell ⟨r, 2, none⟩ v5) = w5 := ⟨_, rfl⟩
  have HW5 := Lib.hid hw5
  have hne4 : some r ≠ (Value.slice av nv cv).ownBlock := fun e => by
    rcases own_some HVA2.out.own with h0 | ⟨g, _, _, _, h0, h1, _⟩
    · rw [h0] at e; cases e
    · rw [h0] at e; injection e with e; omega
  have hst4 : StE r s (.slice av nv cv) (.ok bl) w4 := HVA2.out.st.same (hgrow.block r HVA2.out.st.lt hne4)
  obtain ⟨c34, c24, f24⟩ := hst4.c3
  rw [hw5] at HV5
  clear hown' hgrow hat hst4 hne4 c3 c2 f2 HVA2 hszp
  have hkl : nv < (L ++ [(⟨0, name.data.toList, [], 0, 0⟩ : Cel)]).length := by rw [HNV.out]; simp
  obtain ⟨n5, hn5⟩ : ∃ n5, (L ++ [(⟨0, name.data.toList, [], 0, 0⟩ : Cel)]).length = n5 := ⟨_, rfl⟩
  have hk5 : nv < n5 := by rw [← hn5, HNV.out]; simp
  obtain ⟨g, cap, hvg, hBg, hgl, hfz, ck0, ck2, ck3, ck4⟩ := HV5.out.own.form nv hkl
  rw [hn5] at hvg
  subst hvg
  obtain ⟨c35, c25, f25⟩ := HV5.out.st.c3
  clear hn5

  go_wp2_with fail
  try rw [HW5.out]
  refine (HTK.out _ _ _ HV5.out.st).mono ?_; rintro x w6 ⟨rfl, hst, hk⟩
  have HV6 := Lib.hid (HV5.out.rk hst hk)
  clear hst hk ck0 ck2 ck3 ck4 hfz c35 c25 f25 c34 c24 f24
  obtain ⟨c37, c27, f27⟩ := HV6.out.st.c3
  obtain ⟨hfz7, ck07, ck27, ck37⟩ := HV6.out.own.at_ rfl nv (by have := HNV.out; simp; omega)
  have hfk7 := hfz7 (nv * 5)
  have HV7 : Hid (VS r s W (.slice av nv cv) _ ((L ++ [(⟨0, name.data.toList, [], 0, 0⟩ : Cel)]).modify nv fun c => { c with kind := 1 }) _ (w6.setCell ⟨g, nv * 5, none⟩ (.int .u8 1))) := Lib.hid (HV6.out.set rfl (by omega) (by rw [List.length_modify]) (celFlat_set0 _ _ _))
  go_wp2_with fail
  first | go_end0 | refine bodyPost_ret (results_none rfl _ _ _) rfl ?_
  have hfin := HV7.out
  rw [modify_end' _ _ _ _ HNV.out] at hfin
  rw [HLF.out]
  exact ⟨rfl, VS.toE hfin (by simp; omega)⟩
set_option maxRecDepth 100000 in
set_option maxHeartbeats 4000000 in
theorem rvalue_null (d : Nat) (r : Nat) (s name : ByteArray) (op : Int) (v : Value) (L : List Cel) (l : List UInt8) (W : World) (hs : s.size ≤ 20000) (hv : validD l = true) (h : StE r s v (.ok l) W) (hown : OwnC (r + 1) v L W) (hL : L.length ≤ 2048) (hf : L.length ≠ 2048) (c : UInt8) (rest : List UInt8) (hb : blJ l = c :: rest) (hc : c = UInt8.ofNat 110) :
    Calls Tryz.prog 25 #[.pointer (some ⟨r, 0, none⟩), .string name, .int .i64 op] W fun x w' => x = .returned (.tuple #[]) ∧ ValE r s v (valJ d name.data.toList l L) W w' := by
  have HV0 : Hid (VS r s W v v L (.ok l) W) := Lib.hid ⟨h, hown, VK.refl _ _ _, fun k hk => Or.inl hk⟩
  have HLK : Hid (∀ v E W, StE r s v E W → Calls Tryz.prog 48 #[.pointer (some ⟨r, 0, none⟩)] W fun x w' => x = .returned (.int .u8 ((lkE E).toNat : Int)) ∧ Below W.heap.size W w') := Lib.hid fun v E W hW => e_look r s v E hs W hW
  have HBL : Hid (∀ v E W, StE r s v E W → Calls Tryz.prog 26 #[.pointer (some ⟨r, 0, none⟩)] W fun x w' => x = .returned (.tuple #[]) ∧ StE r s v (blE E) w' ∧ RK r W w') := Lib.hid fun v E W hW => e_blanks r s v E hs W hW
  have HFA : Hid (∀ (c : Int) v E W, c ≠ 0 → StE r s v E W → Calls Tryz.prog 27 #[.pointer (some ⟨r, 0, none⟩), .int .i64 c] W fun x w' => x = .returned (.tuple #[]) ∧ StE r s v (failE c E) w' ∧ RK r W w') := Lib.hid fun c v E W hc hW => e_fail r s v E c hc W hW
  have HBG : Hid (∀ (c : UInt8) (W : World), Calls Tryz.prog 49 #[.int .u8 (c.toNat : Int)] W fun x w' => x = .returned (.bool (begJ c)) ∧ W = w') := Lib.hid fun c W => rbegins_any c W
  have hvl : ∃ a n c, v = .slice a n c ∧ n = L.length := by
    rcases HV0.out.own.2 with ⟨h1, h2⟩ | ⟨g, cap, cur, h1, _⟩
    · exact ⟨none, 0, 0, h1, h2.symm⟩
    · exact ⟨_, _, _, h1, rfl⟩
  obtain ⟨av, nv, cv, rfl, hnv⟩ := hvl
  have HNV := Lib.hid hnv
  have hnv8 : nv ≤ 2048 := by omega
  have hblv : VaE (.ok (c :: rest)) := by rw [← hb]; exact (cut_bl l).2 hv
  have HVB := Lib.hid hblv
  obtain ⟨bl, hbl⟩ : ∃ bl, bl = c :: rest := ⟨_, rfl⟩
  have HBQ : Hid (blE (.ok l) = .ok bl) := Lib.hid (by rw [hbl, ← hb]; rfl)
  have HBC := Lib.hid hbl
  have HLA : Hid (∀ v W, StE r s v (.ok bl) W → Calls Tryz.prog 48 #[.pointer (some ⟨r, 0, none⟩)] W fun x w' => x = .returned (.int .u8 (c.toNat : Int)) ∧ Below W.heap.size W w') := Lib.hid fun v W hW => by
    have := HLK.out v _ W hW
    rw [show lkE (.ok bl) = c from by rw [hbl]; rfl] at this
    exact this
  have hL2 : nv ≤ 2047 := by omega
  have hL3 : L.length ≤ 2047 := by omega
  subst hc
  rw [show (((UInt8.ofNat 110).toNat : Nat) : Int) = 110 from rfl] at HLA
  have HTK : Hid (∀ v E W, StE r s v E W → Calls Tryz.prog 52 #[.pointer (some ⟨r, 0, none⟩), .string ⟨#[110, 117, 108, 108]⟩] W fun x w' => x = .returned (.tuple #[]) ∧ StE r s v (tkE [110, 117, 108, 108] E) w' ∧ RK r W w') := Lib.hid fun v E W hW => e_take r s v E ⟨#[110, 117, 108, 108]⟩ hs (by decide) (by decide) (by decide) W hW
  have HLF : Hid (valJ d name.data.toList l L = endE (tkE [110, 117, 108, 108] (.ok bl)) (L ++ [⟨0, name.data.toList, [], 0, 0⟩])) := Lib.hid (by
    rw [valJ_leaf d _ l L _ rest hb hf (by decide) (by decide), hbl, ← leaf_tk name.data.toList]
    rfl)
  clear h hv hown hb hblv hbl hnv hf
  go_enter Tryz.func25, Tryz.ntmps25
  go_wp2_with fail
  refine (HBL.out _ _ _ HV0.out.st).mono ?_; rintro x w1 ⟨rfl, hst, hk⟩
  have HV1 := Lib.hid (HV0.out.rk hst hk)
  clear hst hk
  rw [HBQ.out] at HV1
  go_wp2_with fail
  refine (HLA.out _ _ HV1.out.st).mono ?_; rintro x w2 ⟨rfl, hb⟩
  have HV2 := Lib.hid (HV1.out.below hb)
  clear hb
  obtain ⟨c3, c2, f2⟩ := HV2.out.st.c3
  have tf : decide ((2048 : Int) ≤ (nv : Int)) = false := decide_eq_false (by omega)
  have HVA2 : Hid (VS r s W (.slice av nv cv) (.slice av nv cv) L (.ok bl) (World.alloc _ (.cells #[.int .u8 0, .string name, .string ⟨#[]⟩, .int .i64 0, .int .i64 0] 41))) := Lib.hid (HV2.out.alloc _)
  have hszp := HVA2.out.st.lt
  go_wp2_with (at_builtin; refine wpList_pushC rfl _ _ rfl (r + 1) (.slice av nv cv) L rfl HVA2.out.own _ 1 name.data.toList rfl (heap_alloc_new _ _) ?c1 ?c2 ?_)
  case c1 => omega
  case c2 => exact hszp
  intro v5 w4 hown' hgrow hat
  have HV5 : Hid (VS r s W (.slice av nv cv) v5 (L ++ [⟨0, name.data.toList, [], 0, 0⟩]) (.ok bl) (w4.setCell ⟨r, 2, none⟩ v5)) := Lib.hid (HVA2.out.grown hown' hgrow hat (by simp))
  obtain ⟨w5, hw5⟩ : ∃ w5, (w4.setCell ⟨r, 2, none⟩ v5) = w5 := ⟨_, rfl⟩
  have HW5 := Lib.hid hw5
  have hne4 : some r ≠ (Value.slice av nv cv).ownBlock := fun e => by
    rcases own_some HVA2.out.own with h0 | ⟨g, _, _, _, h0, h1, _⟩
    · rw [h0] at e; cases e
    · rw [h0] at e; injection e with e; omega
  have hst4 : StE r s (.slice av nv cv) (.ok bl) w4 := HVA2.out.st.same (hgrow.block r HVA2.out.st.lt hne4)
  obtain ⟨c34, c24, f24⟩ := hst4.c3
  rw [hw5] at HV5
  clear hown' hgrow hat hst4 hne4 c3 c2 f2 HVA2 hszp
  have hkl : nv < (L ++ [(⟨0, name.data.toList, [], 0, 0⟩ : Cel)]).length := by rw [HNV.out]; simp
  obtain ⟨n5, hn5⟩ : ∃ n5, (L ++ [(⟨0, name.data.toList, [], 0, 0⟩ : Cel)]).length = n5 := ⟨_, rfl⟩
  have hk5 : nv < n5 := by rw [← hn5, HNV.out]; simp
  obtain ⟨g, cap, hvg, hBg, hgl, hfz, ck0, ck2, ck3, ck4⟩ := HV5.out.own.form nv hkl
  rw [hn5] at hvg
  subst hvg
  obtain ⟨c35, c25, f25⟩ := HV5.out.st.c3
  clear hn5

  go_wp2_with fail
  try rw [HW5.out]
  refine (HTK.out _ _ _ HV5.out.st).mono ?_; rintro x w6 ⟨rfl, hst, hk⟩
  have HV6 := Lib.hid (HV5.out.rk hst hk)
  clear hst hk ck0 ck2 ck3 ck4 hfz c35 c25 f25 c34 c24 f24
  go_wp2_with fail
  first | go_end0 | refine bodyPost_ret (results_none rfl _ _ _) rfl ?_
  have hfin := HV6.out
  rw [HLF.out]
  exact ⟨rfl, VS.toE hfin (by simp; omega)⟩
set_option maxRecDepth 100000 in
set_option maxHeartbeats 4000000 in
theorem rvalue_text (d : Nat) (r : Nat) (s name : ByteArray) (op : Int) (v : Value) (L : List Cel) (l : List UInt8) (W : World) (hs : s.size ≤ 20000) (hv : validD l = true) (h : StE r s v (.ok l) W) (hown : OwnC (r + 1) v L W) (hL : L.length ≤ 2048) (hf : L.length ≠ 2048) (c : UInt8) (rest : List UInt8) (hb : blJ l = c :: rest) (hc : c = UInt8.ofNat 34) :
    Calls Tryz.prog 25 #[.pointer (some ⟨r, 0, none⟩), .string name, .int .i64 op] W fun x w' => x = .returned (.tuple #[]) ∧ ValE r s v (valJ d name.data.toList l L) W w' := by
  have HV0 : Hid (VS r s W v v L (.ok l) W) := Lib.hid ⟨h, hown, VK.refl _ _ _, fun k hk => Or.inl hk⟩
  have HLK : Hid (∀ v E W, StE r s v E W → Calls Tryz.prog 48 #[.pointer (some ⟨r, 0, none⟩)] W fun x w' => x = .returned (.int .u8 ((lkE E).toNat : Int)) ∧ Below W.heap.size W w') := Lib.hid fun v E W hW => e_look r s v E hs W hW
  have HBL : Hid (∀ v E W, StE r s v E W → Calls Tryz.prog 26 #[.pointer (some ⟨r, 0, none⟩)] W fun x w' => x = .returned (.tuple #[]) ∧ StE r s v (blE E) w' ∧ RK r W w') := Lib.hid fun v E W hW => e_blanks r s v E hs W hW
  have HFA : Hid (∀ (c : Int) v E W, c ≠ 0 → StE r s v E W → Calls Tryz.prog 27 #[.pointer (some ⟨r, 0, none⟩), .int .i64 c] W fun x w' => x = .returned (.tuple #[]) ∧ StE r s v (failE c E) w' ∧ RK r W w') := Lib.hid fun c v E W hc hW => e_fail r s v E c hc W hW
  have HBG : Hid (∀ (c : UInt8) (W : World), Calls Tryz.prog 49 #[.int .u8 (c.toNat : Int)] W fun x w' => x = .returned (.bool (begJ c)) ∧ W = w') := Lib.hid fun c W => rbegins_any c W
  have hvl : ∃ a n c, v = .slice a n c ∧ n = L.length := by
    rcases HV0.out.own.2 with ⟨h1, h2⟩ | ⟨g, cap, cur, h1, _⟩
    · exact ⟨none, 0, 0, h1, h2.symm⟩
    · exact ⟨_, _, _, h1, rfl⟩
  obtain ⟨av, nv, cv, rfl, hnv⟩ := hvl
  have HNV := Lib.hid hnv
  have hnv8 : nv ≤ 2048 := by omega
  have hblv : VaE (.ok (c :: rest)) := by rw [← hb]; exact (cut_bl l).2 hv
  have HVB := Lib.hid hblv
  obtain ⟨bl, hbl⟩ : ∃ bl, bl = c :: rest := ⟨_, rfl⟩
  have HBQ : Hid (blE (.ok l) = .ok bl) := Lib.hid (by rw [hbl, ← hb]; rfl)
  have HBC := Lib.hid hbl
  have HLA : Hid (∀ v W, StE r s v (.ok bl) W → Calls Tryz.prog 48 #[.pointer (some ⟨r, 0, none⟩)] W fun x w' => x = .returned (.int .u8 (c.toNat : Int)) ∧ Below W.heap.size W w') := Lib.hid fun v W hW => by
    have := HLK.out v _ W hW
    rw [show lkE (.ok bl) = c from by rw [hbl]; rfl] at this
    exact this
  have hL2 : nv ≤ 2047 := by omega
  have hL3 : L.length ≤ 2047 := by omega
  subst hc
  rw [show (((UInt8.ofNat 34).toNat : Nat) : Int) = 34 from rfl] at HLA
  have HTX : Hid (∀ v W, VaE (.ok bl) → StE r s v (.ok bl) W → Calls Tryz.prog 51 #[.pointer (some ⟨r, 0, none⟩)] W fun x w' => x = .returned (.string ⟨(nmE (.ok bl)).toArray⟩) ∧ StE r s v (txE (.ok bl)) w' ∧ RK r W w') := Lib.hid fun v W h1 h2 => e_text r s v _ hs h1 W h2
  have HLF : Hid (valJ d name.data.toList l L = endE (txE (.ok bl)) (L ++ [⟨3, name.data.toList, nmE (.ok bl), 0, 0⟩])) := Lib.hid (by
    rw [valJ_leaf d _ l L _ rest hb hf (by decide) (by decide), hbl]
    exact leaf_text _ _ _)
  clear h hv hown hb hblv hbl hnv hf
  go_enter Tryz.func25, Tryz.ntmps25
  go_wp2_with fail
  refine (HBL.out _ _ _ HV0.out.st).mono ?_; rintro x w1 ⟨rfl, hst, hk⟩
  have HV1 := Lib.hid (HV0.out.rk hst hk)
  clear hst hk
  rw [HBQ.out] at HV1
  go_wp2_with fail
  refine (HLA.out _ _ HV1.out.st).mono ?_; rintro x w2 ⟨rfl, hb⟩
  have HV2 := Lib.hid (HV1.out.below hb)
  clear hb
  obtain ⟨c3, c2, f2⟩ := HV2.out.st.c3
  have tf : decide ((2048 : Int) ≤ (nv : Int)) = false := decide_eq_false (by omega)
  have HVA2 : Hid (VS r s W (.slice av nv cv) (.slice av nv cv) L (.ok bl) (World.alloc _ (.cells #[.int .u8 0, .string name, .string ⟨#[]⟩, .int .i64 0, .int .i64 0] 41))) := Lib.hid (HV2.out.alloc _)
  have hszp := HVA2.out.st.lt
  go_wp2_with (at_builtin; refine wpList_pushC rfl _ _ rfl (r + 1) (.slice av nv cv) L rfl HVA2.out.own _ 1 name.data.toList rfl (heap_alloc_new _ _) ?c1 ?c2 ?_)
  case c1 => omega
  case c2 => exact hszp
  intro v5 w4 hown' hgrow hat
  have HV5 : Hid (VS r s W (.slice av nv cv) v5 (L ++ [⟨0, name.data.toList, [], 0, 0⟩]) (.ok bl) (w4.setCell ⟨r, 2, none⟩ v5)) := Lib.hid (HVA2.out.grown hown' hgrow hat (by simp))
  obtain ⟨w5, hw5⟩ : ∃ w5, (w4.setCell ⟨r, 2, none⟩ v5) = w5 := ⟨_, rfl⟩
  have HW5 := Lib.hid hw5
  have hne4 : some r ≠ (Value.slice av nv cv).ownBlock := fun e => by
    rcases own_some HVA2.out.own with h0 | ⟨g, _, _, _, h0, h1, _⟩
    · rw [h0] at e; cases e
    · rw [h0] at e; injection e with e; omega
  have hst4 : StE r s (.slice av nv cv) (.ok bl) w4 := HVA2.out.st.same (hgrow.block r HVA2.out.st.lt hne4)
  obtain ⟨c34, c24, f24⟩ := hst4.c3
  rw [hw5] at HV5
  clear hown' hgrow hat hst4 hne4 c3 c2 f2 HVA2 hszp
  have hkl : nv < (L ++ [(⟨0, name.data.toList, [], 0, 0⟩ : Cel)]).length := by rw [HNV.out]; simp
  obtain ⟨n5, hn5⟩ : ∃ n5, (L ++ [(⟨0, name.data.toList, [], 0, 0⟩ : Cel)]).length = n5 := ⟨_, rfl⟩
  have hk5 : nv < n5 := by rw [← hn5, HNV.out]; simp
  obtain ⟨g, cap, hvg, hBg, hgl, hfz, ck0, ck2, ck3, ck4⟩ := HV5.out.own.form nv hkl
  rw [hn5] at hvg
  subst hvg
  obtain ⟨c35, c25, f25⟩ := HV5.out.st.c3
  clear hn5

  go_wp2_with fail
  try rw [HW5.out]
  refine (HTX.out _ _ (by rw [HBC.out]; exact HVB.out) HV5.out.st).mono ?_; rintro x w6 ⟨rfl, hst, hk⟩
  have HV6 := Lib.hid (HV5.out.rk hst hk)
  clear hst hk ck0 ck2 ck3 ck4 hfz c35 c25 f25 c34 c24 f24
  obtain ⟨c37, c27, f27⟩ := HV6.out.st.c3
  obtain ⟨hfz7, ck07, ck27, ck37⟩ := HV6.out.own.at_ rfl nv (by have := HNV.out; simp; omega)
  have hfk7 := hfz7 (nv * 5)
  have HV7 : Hid (VS r s W (.slice av nv cv) _ ((L ++ [(⟨0, name.data.toList, [], 0, 0⟩ : Cel)]).modify nv fun c => { c with kind := 3 }) _ (w6.setCell ⟨g, nv * 5, none⟩ (.int .u8 3))) := Lib.hid (HV6.out.set rfl (by omega) (by rw [List.length_modify]) (celFlat_set0 _ _ _))
  obtain ⟨c38, c28, f28⟩ := HV7.out.st.c3
  obtain ⟨hfz8, ck08, ck28, ck38⟩ := HV7.out.own.at_ rfl nv (by have := HNV.out; simp; omega)
  have hfk8 := hfz8 (nv * 5 + 2)
  have HV8 : Hid (VS r s W (.slice av nv cv) _ (((L ++ [(⟨0, name.data.toList, [], 0, 0⟩ : Cel)]).modify nv fun c => { c with kind := 3 }).modify nv fun c => { c with text := nmE (.ok bl) }) _ ((w6.setCell ⟨g, nv * 5, none⟩ (.int .u8 3)).setCell ⟨g, nv * 5 + 2, none⟩ (.string ⟨(nmE (.ok bl)).toArray⟩))) := Lib.hid (HV7.out.set rfl (by omega) (by rw [List.length_modify]) (celFlat_set2 _ _ _))
  go_wp2_with fail
  first | go_end0 | refine bodyPost_ret (results_none rfl _ _ _) rfl ?_
  have hfin := HV8.out
  rw [modify_end' _ _ _ _ HNV.out] at hfin
  rw [modify_end' _ _ _ _ HNV.out] at hfin
  rw [HLF.out]
  exact ⟨rfl, VS.toE hfin (by simp; omega)⟩
end Go.Proofs.YtglhanblbojkhaaGreatDoor

set_option linter.unusedSimpArgs false
set_option linter.unusedVariables false
namespace Go.Proofs.YtglhanblbojkhaaGreatDoor
open Go.RowKit Go.Lib
set_option maxRecDepth 100000 in
set_option maxHeartbeats 4000000 in
theorem rvalue_end (d : Nat) (r : Nat) (s name : ByteArray) (op : Int) (v : Value) (L : List Cel) (l : List UInt8) (W : World) (hs : s.size ≤ 20000) (hv : validD l = true) (h : StE r s v (.ok l) W) (hown : OwnC (r + 1) v L W) (hL : L.length ≤ 2048) (hbg : begJ ((blJ l).headD 0) = false) :
    Calls Tryz.prog 25 #[.pointer (some ⟨r, 0, none⟩), .string name, .int .i64 op] W fun x w' => x = .returned (.tuple #[]) ∧ ValE r s v (valJ d name.data.toList l L) W w' := by
  have HV0 : Hid (VS r s W v v L (.ok l) W) := Lib.hid ⟨h, hown, VK.refl _ _ _, fun k hk => Or.inl hk⟩
  have HLK : Hid (∀ v E W, StE r s v E W → Calls Tryz.prog 48 #[.pointer (some ⟨r, 0, none⟩)] W fun x w' => x = .returned (.int .u8 ((lkE E).toNat : Int)) ∧ Below W.heap.size W w') := Lib.hid fun v E W hW => e_look r s v E hs W hW
  have HBL : Hid (∀ v E W, StE r s v E W → Calls Tryz.prog 26 #[.pointer (some ⟨r, 0, none⟩)] W fun x w' => x = .returned (.tuple #[]) ∧ StE r s v (blE E) w' ∧ RK r W w') := Lib.hid fun v E W hW => e_blanks r s v E hs W hW
  have HFA : Hid (∀ (c : Int) v E W, c ≠ 0 → StE r s v E W → Calls Tryz.prog 27 #[.pointer (some ⟨r, 0, none⟩), .int .i64 c] W fun x w' => x = .returned (.tuple #[]) ∧ StE r s v (failE c E) w' ∧ RK r W w') := Lib.hid fun c v E W hc hW => e_fail r s v E c hc W hW
  have HBG : Hid (∀ (c : UInt8) (W : World), Calls Tryz.prog 49 #[.int .u8 (c.toNat : Int)] W fun x w' => x = .returned (.bool (begJ c)) ∧ W = w') := Lib.hid fun c W => rbegins_any c W
  rw [valJ_end d _ l L hbg]
  obtain ⟨c, hc⟩ : ∃ c, (blJ l).headD 0 = c := ⟨_, rfl⟩
  obtain ⟨bl, hbl⟩ : ∃ bl, blE (.ok l) = .ok bl := ⟨_, rfl⟩
  have HBQ := Lib.hid hbl
  have HLA : Hid (∀ v W, StE r s v (.ok bl) W → Calls Tryz.prog 48 #[.pointer (some ⟨r, 0, none⟩)] W fun x w' => x = .returned (.int .u8 (c.toNat : Int)) ∧ Below W.heap.size W w') := Lib.hid fun v W hW => by
    have := HLK.out v _ W hW
    rw [show lkE (.ok bl) = c from by injection hbl with hbl; rw [← hbl]; exact hc] at this
    exact this
  rw [hc] at hbg
  have HB2 : Hid (∀ (W : World), Calls Tryz.prog 49 #[.int .u8 (c.toNat : Int)] W fun x w' => x = .returned (.bool false) ∧ W = w') := Lib.hid fun W => by
    have := HBG.out c W
    rw [hbg] at this
    exact this
  have t0 : ((c.toNat : Int) == 123) = false := byte_ne (n := 123) (by decide) (by intro e; rw [e] at hbg; revert hbg; decide)
  have t1 : ((c.toNat : Int) == 91) = false := byte_ne (n := 91) (by decide) (by intro e; rw [e] at hbg; revert hbg; decide)
  have t2 : ((c.toNat : Int) == 34) = false := byte_ne (n := 34) (by decide) (by intro e; rw [e] at hbg; revert hbg; decide)
  have t3 : ((c.toNat : Int) == 116) = false := byte_ne (n := 116) (by decide) (by intro e; rw [e] at hbg; revert hbg; decide)
  have t4 : ((c.toNat : Int) == 102) = false := byte_ne (n := 102) (by decide) (by intro e; rw [e] at hbg; revert hbg; decide)
  have t5 : ((c.toNat : Int) == 110) = false := byte_ne (n := 110) (by decide) (by intro e; rw [e] at hbg; revert hbg; decide)
  have t6 : ((c.toNat : Int) == 45) = false := byte_ne (n := 45) (by decide) (by intro e; rw [e] at hbg; revert hbg; decide)
  have hdg : isDig c = false := by
    unfold begJ at hbg
    simp only [Bool.or_eq_false_iff] at hbg
    exact hbg.2
  have hvl : ∃ a n c, v = .slice a n c ∧ n = L.length := by
    rcases HV0.out.own.2 with ⟨h1, h2⟩ | ⟨g, cap, cur, h1, _⟩
    · exact ⟨none, 0, 0, h1, h2.symm⟩
    · exact ⟨_, _, _, h1, rfl⟩
  obtain ⟨av, nv, cv, rfl, hnv⟩ := hvl
  have HNV := Lib.hid hnv
  have hnv8 : nv ≤ 2048 := by omega
  have hdd : (decide ((48 : Int) ≤ (c.toNat : Int)) = true ∧ decide ((c.toNat : Int) ≤ 57) = false) ∨ decide ((48 : Int) ≤ (c.toNat : Int)) = false := by
    unfold isDig at hdg
    rw [decide_eq_false_iff_not] at hdg
    by_cases h1 : 48 ≤ c.toNat
    · exact Or.inl ⟨decide_eq_true (by omega), decide_eq_false (by omega)⟩
    · exact Or.inr (decide_eq_false (by omega))
  have hfl : nv = 2048 ∨ nv ≤ 2047 := by omega
  clear h hv hown hbg hdg hc hbl hnv
  generalize (c.toNat : Int) = ci at *
  by_cases hz : ci = 0
  · rcases hdd with ⟨u1, u2⟩ | u1
    · go_enter Tryz.func25, Tryz.ntmps25
      go_wp2_with fail
      refine (HBL.out _ _ _ HV0.out.st).mono ?_; rintro x w1 ⟨rfl, hst, hk⟩
      have HV1 := Lib.hid (HV0.out.rk hst hk)
      clear hst hk
      rw [HBQ.out] at HV1
      go_wp2_with fail
      refine (HLA.out _ _ HV1.out.st).mono ?_; rintro x w2 ⟨rfl, hb⟩
      have HV2 := Lib.hid (HV1.out.below hb)
      clear hb
      obtain ⟨c3, c2, f2⟩ := HV2.out.st.c3
      have tz : (ci != 0) = false := by rw [hz]; rfl
      have HVA2 : Hid (VS r s W (.slice av nv cv) (.slice av nv cv) L (.ok bl) (World.alloc _ (.cells #[.int .u8 0, .string name, .string ⟨#[]⟩, .int .i64 0, .int .i64 0] 41))) := Lib.hid (HV2.out.alloc _)
      have hszp := HVA2.out.st.lt
      go_wp2_with (at_builtin; refine wpList_pushC rfl _ _ rfl (r + 1) (.slice av nv cv) L rfl HVA2.out.own _ 1 name.data.toList rfl (heap_alloc_new _ _) ?c1 ?c2 ?_)
      case c1 => omega
      case c2 => exact hszp
      intro v5 w4 hown' hgrow hat
      have HV5 : Hid (VS r s W (.slice av nv cv) v5 (L ++ [⟨0, name.data.toList, [], 0, 0⟩]) (.ok bl) (w4.setCell ⟨r, 2, none⟩ v5)) := Lib.hid (HVA2.out.grown hown' hgrow hat (by simp))
      obtain ⟨w5, hw5⟩ : ∃ w5, (w4.setCell ⟨r, 2, none⟩ v5) = w5 := ⟨_, rfl⟩
      have HW5 := Lib.hid hw5
      have HE : Hid (∃ vv, StE r s vv (.ok bl) w5 ∧ VK r (.slice av nv cv) W w5) := Lib.hid ⟨v5, by rw [← hw5]; exact HV5.out.st, by rw [← hw5]; exact HV5.out.vk⟩
      have hfm := hown'.form L.length (by simp)
      obtain ⟨n5, hn5⟩ : ∃ n5, (L ++ [(⟨0, name.data.toList, [], 0, 0⟩ : Cel)]).length = n5 := ⟨_, rfl⟩
      obtain ⟨c32, c22, f22⟩ := HVA2.out.st.c3
      have hne4 : some r ≠ (Value.ownBlock (.slice av nv cv)) := fun e => by
        rcases own_some HVA2.out.own with h0 | ⟨g, _, _, _, h0, h1, _⟩
        · rw [h0] at e; cases e
        · rw [h0] at e; injection e with e; omega
      have hst4 : StE r s (.slice av nv cv) (.ok bl) w4 := HVA2.out.st.same (hgrow.block r HVA2.out.st.lt hne4)
      obtain ⟨c34, c24, f24⟩ := hst4.c3
      clear hown' hgrow hat hst4 hne4 HV5
      obtain ⟨g5, cap5, hv5, _⟩ := hfm
      rw [hn5] at hv5
      subst hv5
      clear hw5 hn5
      go_wp2_with fail
      rw [HW5.out]
      obtain ⟨vv, hE1, hE2⟩ := HE.out
      refine (HFA.out 40 _ _ _ (by decide) hE1).mono ?_; rintro x w6 ⟨rfl, hst, hk⟩
      have HF : Hid (StE r s vv (.error 40) w6 ∧ VK r (.slice av nv cv) W w6) := Lib.hid ⟨hst, hE2.rk hk⟩
      clear hst hk hE1 hE2
      go_wp2_with fail
      first | go_end0 | refine bodyPost_ret (results_none rfl _ _ _) rfl ?_
      exact ⟨rfl, by decide, vv, HF.out⟩
    · go_enter Tryz.func25, Tryz.ntmps25
      go_wp2_with fail
      refine (HBL.out _ _ _ HV0.out.st).mono ?_; rintro x w1 ⟨rfl, hst, hk⟩
      have HV1 := Lib.hid (HV0.out.rk hst hk)
      clear hst hk
      rw [HBQ.out] at HV1
      go_wp2_with fail
      refine (HLA.out _ _ HV1.out.st).mono ?_; rintro x w2 ⟨rfl, hb⟩
      have HV2 := Lib.hid (HV1.out.below hb)
      clear hb
      obtain ⟨c3, c2, f2⟩ := HV2.out.st.c3
      have tz : (ci != 0) = false := by rw [hz]; rfl
      have HVA2 : Hid (VS r s W (.slice av nv cv) (.slice av nv cv) L (.ok bl) (World.alloc _ (.cells #[.int .u8 0, .string name, .string ⟨#[]⟩, .int .i64 0, .int .i64 0] 41))) := Lib.hid (HV2.out.alloc _)
      have hszp := HVA2.out.st.lt
      go_wp2_with (at_builtin; refine wpList_pushC rfl _ _ rfl (r + 1) (.slice av nv cv) L rfl HVA2.out.own _ 1 name.data.toList rfl (heap_alloc_new _ _) ?c1 ?c2 ?_)
      case c1 => omega
      case c2 => exact hszp
      intro v5 w4 hown' hgrow hat
      have HV5 : Hid (VS r s W (.slice av nv cv) v5 (L ++ [⟨0, name.data.toList, [], 0, 0⟩]) (.ok bl) (w4.setCell ⟨r, 2, none⟩ v5)) := Lib.hid (HVA2.out.grown hown' hgrow hat (by simp))
      obtain ⟨w5, hw5⟩ : ∃ w5, (w4.setCell ⟨r, 2, none⟩ v5) = w5 := ⟨_, rfl⟩
      have HW5 := Lib.hid hw5
      have HE : Hid (∃ vv, StE r s vv (.ok bl) w5 ∧ VK r (.slice av nv cv) W w5) := Lib.hid ⟨v5, by rw [← hw5]; exact HV5.out.st, by rw [← hw5]; exact HV5.out.vk⟩
      have hfm := hown'.form L.length (by simp)
      obtain ⟨n5, hn5⟩ : ∃ n5, (L ++ [(⟨0, name.data.toList, [], 0, 0⟩ : Cel)]).length = n5 := ⟨_, rfl⟩
      obtain ⟨c32, c22, f22⟩ := HVA2.out.st.c3
      have hne4 : some r ≠ (Value.ownBlock (.slice av nv cv)) := fun e => by
        rcases own_some HVA2.out.own with h0 | ⟨g, _, _, _, h0, h1, _⟩
        · rw [h0] at e; cases e
        · rw [h0] at e; injection e with e; omega
      have hst4 : StE r s (.slice av nv cv) (.ok bl) w4 := HVA2.out.st.same (hgrow.block r HVA2.out.st.lt hne4)
      obtain ⟨c34, c24, f24⟩ := hst4.c3
      clear hown' hgrow hat hst4 hne4 HV5
      obtain ⟨g5, cap5, hv5, _⟩ := hfm
      rw [hn5] at hv5
      subst hv5
      clear hw5 hn5
      go_wp2_with fail
      rw [HW5.out]
      obtain ⟨vv, hE1, hE2⟩ := HE.out
      refine (HFA.out 40 _ _ _ (by decide) hE1).mono ?_; rintro x w6 ⟨rfl, hst, hk⟩
      have HF : Hid (StE r s vv (.error 40) w6 ∧ VK r (.slice av nv cv) W w6) := Lib.hid ⟨hst, hE2.rk hk⟩
      clear hst hk hE1 hE2
      go_wp2_with fail
      first | go_end0 | refine bodyPost_ret (results_none rfl _ _ _) rfl ?_
      exact ⟨rfl, by decide, vv, HF.out⟩
  · rcases hfl with hfull | hfull
    · rcases hdd with ⟨u1, u2⟩ | u1
      · go_enter Tryz.func25, Tryz.ntmps25
        go_wp2_with fail
        refine (HBL.out _ _ _ HV0.out.st).mono ?_; rintro x w1 ⟨rfl, hst, hk⟩
        have HV1 := Lib.hid (HV0.out.rk hst hk)
        clear hst hk
        rw [HBQ.out] at HV1
        go_wp2_with fail
        refine (HLA.out _ _ HV1.out.st).mono ?_; rintro x w2 ⟨rfl, hb⟩
        have HV2 := Lib.hid (HV1.out.below hb)
        clear hb
        obtain ⟨c3, c2, f2⟩ := HV2.out.st.c3
        have tz : (ci != 0) = true := bne_iff_ne.2 hz
        have tf : decide ((2048 : Int) ≤ (nv : Int)) = true := decide_eq_true (by omega)
        clear hfull
        go_wp2_with fail
        refine (HB2.out _).mono ?_; rintro x w3 ⟨rfl, rfl⟩
        have HVA2 : Hid (VS r s W (.slice av nv cv) (.slice av nv cv) L (.ok bl) (World.alloc _ (.cells #[.int .u8 0, .string name, .string ⟨#[]⟩, .int .i64 0, .int .i64 0] 41))) := Lib.hid (HV2.out.alloc _)
        have hszp := HVA2.out.st.lt
        go_wp2_with (at_builtin; refine wpList_pushC rfl _ _ rfl (r + 1) (.slice av nv cv) L rfl HVA2.out.own _ 1 name.data.toList rfl (heap_alloc_new _ _) ?c1 ?c2 ?_)
        case c1 => omega
        case c2 => exact hszp
        intro v5 w4 hown' hgrow hat
        have HV5 : Hid (VS r s W (.slice av nv cv) v5 (L ++ [⟨0, name.data.toList, [], 0, 0⟩]) (.ok bl) (w4.setCell ⟨r, 2, none⟩ v5)) := Lib.hid (HVA2.out.grown hown' hgrow hat (by simp))
        obtain ⟨w5, hw5⟩ : ∃ w5, (w4.setCell ⟨r, 2, none⟩ v5) = w5 := ⟨_, rfl⟩
        have HW5 := Lib.hid hw5
        have HE : Hid (∃ vv, StE r s vv (.ok bl) w5 ∧ VK r (.slice av nv cv) W w5) := Lib.hid ⟨v5, by rw [← hw5]; exact HV5.out.st, by rw [← hw5]; exact HV5.out.vk⟩
        have hfm := hown'.form L.length (by simp)
        obtain ⟨n5, hn5⟩ : ∃ n5, (L ++ [(⟨0, name.data.toList, [], 0, 0⟩ : Cel)]).length = n5 := ⟨_, rfl⟩
        obtain ⟨c32, c22, f22⟩ := HVA2.out.st.c3
        have hne4 : some r ≠ (Value.ownBlock (.slice av nv cv)) := fun e => by
          rcases own_some HVA2.out.own with h0 | ⟨g, _, _, _, h0, h1, _⟩
          · rw [h0] at e; cases e
          · rw [h0] at e; injection e with e; omega
        have hst4 : StE r s (.slice av nv cv) (.ok bl) w4 := HVA2.out.st.same (hgrow.block r HVA2.out.st.lt hne4)
        obtain ⟨c34, c24, f24⟩ := hst4.c3
        clear hown' hgrow hat hst4 hne4 HV5
        obtain ⟨g5, cap5, hv5, _⟩ := hfm
        rw [hn5] at hv5
        subst hv5
        clear hw5 hn5
        go_wp2_with fail
        rw [HW5.out]
        obtain ⟨vv, hE1, hE2⟩ := HE.out
        refine (HFA.out 40 _ _ _ (by decide) hE1).mono ?_; rintro x w6 ⟨rfl, hst, hk⟩
        have HF : Hid (StE r s vv (.error 40) w6 ∧ VK r (.slice av nv cv) W w6) := Lib.hid ⟨hst, hE2.rk hk⟩
        clear hst hk hE1 hE2
        go_wp2_with fail
        first | go_end0 | refine bodyPost_ret (results_none rfl _ _ _) rfl ?_
        exact ⟨rfl, by decide, vv, HF.out⟩
      · go_enter Tryz.func25, Tryz.ntmps25
        go_wp2_with fail
        refine (HBL.out _ _ _ HV0.out.st).mono ?_; rintro x w1 ⟨rfl, hst, hk⟩
        have HV1 := Lib.hid (HV0.out.rk hst hk)
        clear hst hk
        rw [HBQ.out] at HV1
        go_wp2_with fail
        refine (HLA.out _ _ HV1.out.st).mono ?_; rintro x w2 ⟨rfl, hb⟩
        have HV2 := Lib.hid (HV1.out.below hb)
        clear hb
        obtain ⟨c3, c2, f2⟩ := HV2.out.st.c3
        have tz : (ci != 0) = true := bne_iff_ne.2 hz
        have tf : decide ((2048 : Int) ≤ (nv : Int)) = true := decide_eq_true (by omega)
        clear hfull
        go_wp2_with fail
        refine (HB2.out _).mono ?_; rintro x w3 ⟨rfl, rfl⟩
        have HVA2 : Hid (VS r s W (.slice av nv cv) (.slice av nv cv) L (.ok bl) (World.alloc _ (.cells #[.int .u8 0, .string name, .string ⟨#[]⟩, .int .i64 0, .int .i64 0] 41))) := Lib.hid (HV2.out.alloc _)
        have hszp := HVA2.out.st.lt
        go_wp2_with (at_builtin; refine wpList_pushC rfl _ _ rfl (r + 1) (.slice av nv cv) L rfl HVA2.out.own _ 1 name.data.toList rfl (heap_alloc_new _ _) ?c1 ?c2 ?_)
        case c1 => omega
        case c2 => exact hszp
        intro v5 w4 hown' hgrow hat
        have HV5 : Hid (VS r s W (.slice av nv cv) v5 (L ++ [⟨0, name.data.toList, [], 0, 0⟩]) (.ok bl) (w4.setCell ⟨r, 2, none⟩ v5)) := Lib.hid (HVA2.out.grown hown' hgrow hat (by simp))
        obtain ⟨w5, hw5⟩ : ∃ w5, (w4.setCell ⟨r, 2, none⟩ v5) = w5 := ⟨_, rfl⟩
        have HW5 := Lib.hid hw5
        have HE : Hid (∃ vv, StE r s vv (.ok bl) w5 ∧ VK r (.slice av nv cv) W w5) := Lib.hid ⟨v5, by rw [← hw5]; exact HV5.out.st, by rw [← hw5]; exact HV5.out.vk⟩
        have hfm := hown'.form L.length (by simp)
        obtain ⟨n5, hn5⟩ : ∃ n5, (L ++ [(⟨0, name.data.toList, [], 0, 0⟩ : Cel)]).length = n5 := ⟨_, rfl⟩
        obtain ⟨c32, c22, f22⟩ := HVA2.out.st.c3
        have hne4 : some r ≠ (Value.ownBlock (.slice av nv cv)) := fun e => by
          rcases own_some HVA2.out.own with h0 | ⟨g, _, _, _, h0, h1, _⟩
          · rw [h0] at e; cases e
          · rw [h0] at e; injection e with e; omega
        have hst4 : StE r s (.slice av nv cv) (.ok bl) w4 := HVA2.out.st.same (hgrow.block r HVA2.out.st.lt hne4)
        obtain ⟨c34, c24, f24⟩ := hst4.c3
        clear hown' hgrow hat hst4 hne4 HV5
        obtain ⟨g5, cap5, hv5, _⟩ := hfm
        rw [hn5] at hv5
        subst hv5
        clear hw5 hn5
        go_wp2_with fail
        rw [HW5.out]
        obtain ⟨vv, hE1, hE2⟩ := HE.out
        refine (HFA.out 40 _ _ _ (by decide) hE1).mono ?_; rintro x w6 ⟨rfl, hst, hk⟩
        have HF : Hid (StE r s vv (.error 40) w6 ∧ VK r (.slice av nv cv) W w6) := Lib.hid ⟨hst, hE2.rk hk⟩
        clear hst hk hE1 hE2
        go_wp2_with fail
        first | go_end0 | refine bodyPost_ret (results_none rfl _ _ _) rfl ?_
        exact ⟨rfl, by decide, vv, HF.out⟩
    · rcases hdd with ⟨u1, u2⟩ | u1
      · go_enter Tryz.func25, Tryz.ntmps25
        go_wp2_with fail
        refine (HBL.out _ _ _ HV0.out.st).mono ?_; rintro x w1 ⟨rfl, hst, hk⟩
        have HV1 := Lib.hid (HV0.out.rk hst hk)
        clear hst hk
        rw [HBQ.out] at HV1
        go_wp2_with fail
        refine (HLA.out _ _ HV1.out.st).mono ?_; rintro x w2 ⟨rfl, hb⟩
        have HV2 := Lib.hid (HV1.out.below hb)
        clear hb
        obtain ⟨c3, c2, f2⟩ := HV2.out.st.c3
        have tz : (ci != 0) = true := bne_iff_ne.2 hz
        have tf : decide ((2048 : Int) ≤ (nv : Int)) = false := decide_eq_false (by omega)
        clear hfull
        have HVA2 : Hid (VS r s W (.slice av nv cv) (.slice av nv cv) L (.ok bl) (World.alloc _ (.cells #[.int .u8 0, .string name, .string ⟨#[]⟩, .int .i64 0, .int .i64 0] 41))) := Lib.hid (HV2.out.alloc _)
        have hszp := HVA2.out.st.lt
        go_wp2_with (at_builtin; refine wpList_pushC rfl _ _ rfl (r + 1) (.slice av nv cv) L rfl HVA2.out.own _ 1 name.data.toList rfl (heap_alloc_new _ _) ?c1 ?c2 ?_)
        case c1 => omega
        case c2 => exact hszp
        intro v5 w4 hown' hgrow hat
        have HV5 : Hid (VS r s W (.slice av nv cv) v5 (L ++ [⟨0, name.data.toList, [], 0, 0⟩]) (.ok bl) (w4.setCell ⟨r, 2, none⟩ v5)) := Lib.hid (HVA2.out.grown hown' hgrow hat (by simp))
        obtain ⟨w5, hw5⟩ : ∃ w5, (w4.setCell ⟨r, 2, none⟩ v5) = w5 := ⟨_, rfl⟩
        have HW5 := Lib.hid hw5
        have HE : Hid (∃ vv, StE r s vv (.ok bl) w5 ∧ VK r (.slice av nv cv) W w5) := Lib.hid ⟨v5, by rw [← hw5]; exact HV5.out.st, by rw [← hw5]; exact HV5.out.vk⟩
        have hfm := hown'.form L.length (by simp)
        obtain ⟨n5, hn5⟩ : ∃ n5, (L ++ [(⟨0, name.data.toList, [], 0, 0⟩ : Cel)]).length = n5 := ⟨_, rfl⟩
        obtain ⟨c32, c22, f22⟩ := HVA2.out.st.c3
        have hne4 : some r ≠ (Value.ownBlock (.slice av nv cv)) := fun e => by
          rcases own_some HVA2.out.own with h0 | ⟨g, _, _, _, h0, h1, _⟩
          · rw [h0] at e; cases e
          · rw [h0] at e; injection e with e; omega
        have hst4 : StE r s (.slice av nv cv) (.ok bl) w4 := HVA2.out.st.same (hgrow.block r HVA2.out.st.lt hne4)
        obtain ⟨c34, c24, f24⟩ := hst4.c3
        clear hown' hgrow hat hst4 hne4 HV5
        obtain ⟨g5, cap5, hv5, _⟩ := hfm
        rw [hn5] at hv5
        subst hv5
        clear hw5 hn5
        go_wp2_with fail
        rw [HW5.out]
        obtain ⟨vv, hE1, hE2⟩ := HE.out
        refine (HFA.out 40 _ _ _ (by decide) hE1).mono ?_; rintro x w6 ⟨rfl, hst, hk⟩
        have HF : Hid (StE r s vv (.error 40) w6 ∧ VK r (.slice av nv cv) W w6) := Lib.hid ⟨hst, hE2.rk hk⟩
        clear hst hk hE1 hE2
        go_wp2_with fail
        first | go_end0 | refine bodyPost_ret (results_none rfl _ _ _) rfl ?_
        exact ⟨rfl, by decide, vv, HF.out⟩
      · go_enter Tryz.func25, Tryz.ntmps25
        go_wp2_with fail
        refine (HBL.out _ _ _ HV0.out.st).mono ?_; rintro x w1 ⟨rfl, hst, hk⟩
        have HV1 := Lib.hid (HV0.out.rk hst hk)
        clear hst hk
        rw [HBQ.out] at HV1
        go_wp2_with fail
        refine (HLA.out _ _ HV1.out.st).mono ?_; rintro x w2 ⟨rfl, hb⟩
        have HV2 := Lib.hid (HV1.out.below hb)
        clear hb
        obtain ⟨c3, c2, f2⟩ := HV2.out.st.c3
        have tz : (ci != 0) = true := bne_iff_ne.2 hz
        have tf : decide ((2048 : Int) ≤ (nv : Int)) = false := decide_eq_false (by omega)
        clear hfull
        have HVA2 : Hid (VS r s W (.slice av nv cv) (.slice av nv cv) L (.ok bl) (World.alloc _ (.cells #[.int .u8 0, .string name, .string ⟨#[]⟩, .int .i64 0, .int .i64 0] 41))) := Lib.hid (HV2.out.alloc _)
        have hszp := HVA2.out.st.lt
        go_wp2_with (at_builtin; refine wpList_pushC rfl _ _ rfl (r + 1) (.slice av nv cv) L rfl HVA2.out.own _ 1 name.data.toList rfl (heap_alloc_new _ _) ?c1 ?c2 ?_)
        case c1 => omega
        case c2 => exact hszp
        intro v5 w4 hown' hgrow hat
        have HV5 : Hid (VS r s W (.slice av nv cv) v5 (L ++ [⟨0, name.data.toList, [], 0, 0⟩]) (.ok bl) (w4.setCell ⟨r, 2, none⟩ v5)) := Lib.hid (HVA2.out.grown hown' hgrow hat (by simp))
        obtain ⟨w5, hw5⟩ : ∃ w5, (w4.setCell ⟨r, 2, none⟩ v5) = w5 := ⟨_, rfl⟩
        have HW5 := Lib.hid hw5
        have HE : Hid (∃ vv, StE r s vv (.ok bl) w5 ∧ VK r (.slice av nv cv) W w5) := Lib.hid ⟨v5, by rw [← hw5]; exact HV5.out.st, by rw [← hw5]; exact HV5.out.vk⟩
        have hfm := hown'.form L.length (by simp)
        obtain ⟨n5, hn5⟩ : ∃ n5, (L ++ [(⟨0, name.data.toList, [], 0, 0⟩ : Cel)]).length = n5 := ⟨_, rfl⟩
        obtain ⟨c32, c22, f22⟩ := HVA2.out.st.c3
        have hne4 : some r ≠ (Value.ownBlock (.slice av nv cv)) := fun e => by
          rcases own_some HVA2.out.own with h0 | ⟨g, _, _, _, h0, h1, _⟩
          · rw [h0] at e; cases e
          · rw [h0] at e; injection e with e; omega
        have hst4 : StE r s (.slice av nv cv) (.ok bl) w4 := HVA2.out.st.same (hgrow.block r HVA2.out.st.lt hne4)
        obtain ⟨c34, c24, f24⟩ := hst4.c3
        clear hown' hgrow hat hst4 hne4 HV5
        obtain ⟨g5, cap5, hv5, _⟩ := hfm
        rw [hn5] at hv5
        subst hv5
        clear hw5 hn5
        go_wp2_with fail
        rw [HW5.out]
        obtain ⟨vv, hE1, hE2⟩ := HE.out
        refine (HFA.out 40 _ _ _ (by decide) hE1).mono ?_; rintro x w6 ⟨rfl, hst, hk⟩
        have HF : Hid (StE r s vv (.error 40) w6 ∧ VK r (.slice av nv cv) W w6) := Lib.hid ⟨hst, hE2.rk hk⟩
        clear hst hk hE1 hE2
        go_wp2_with fail
        first | go_end0 | refine bodyPost_ret (results_none rfl _ _ _) rfl ?_
        exact ⟨rfl, by decide, vv, HF.out⟩
end Go.Proofs.YtglhanblbojkhaaGreatDoor

set_option linter.unusedSimpArgs false
set_option linter.unusedVariables false
namespace Go.Proofs.YtglhanblbojkhaaGreatDoor
open Go.RowKit Go.Lib
set_option maxRecDepth 100000 in
set_option maxHeartbeats 4000000 in
theorem rvalue_minus (d : Nat) (r : Nat) (s name : ByteArray) (op : Int) (v : Value) (L : List Cel) (l : List UInt8) (W : World) (hs : s.size ≤ 20000) (hv : validD l = true) (h : StE r s v (.ok l) W) (hown : OwnC (r + 1) v L W) (hL : L.length ≤ 2048) (hf : L.length ≠ 2048) (c : UInt8) (rest : List UInt8) (hb : blJ l = c :: rest) (hc : c = UInt8.ofNat 45) (HRD : Hid (∀ (x : ByteArray) (W : World), x.size ≤ maxLen → Calls Tryz.prog 77 #[.string x] W fun e w' => e = .returned (.tuple #[.int .i64 (rdV x.data.toList), .int .i64 (rdE x.data.toList)]) ∧ W = w')) :
    Calls Tryz.prog 25 #[.pointer (some ⟨r, 0, none⟩), .string name, .int .i64 op] W fun x w' => x = .returned (.tuple #[]) ∧ ValE r s v (valJ d name.data.toList l L) W w' := by
  have HV0 : Hid (VS r s W v v L (.ok l) W) := Lib.hid ⟨h, hown, VK.refl _ _ _, fun k hk => Or.inl hk⟩
  have HLK : Hid (∀ v E W, StE r s v E W → Calls Tryz.prog 48 #[.pointer (some ⟨r, 0, none⟩)] W fun x w' => x = .returned (.int .u8 ((lkE E).toNat : Int)) ∧ Below W.heap.size W w') := Lib.hid fun v E W hW => e_look r s v E hs W hW
  have HBL : Hid (∀ v E W, StE r s v E W → Calls Tryz.prog 26 #[.pointer (some ⟨r, 0, none⟩)] W fun x w' => x = .returned (.tuple #[]) ∧ StE r s v (blE E) w' ∧ RK r W w') := Lib.hid fun v E W hW => e_blanks r s v E hs W hW
  have HFA : Hid (∀ (c : Int) v E W, c ≠ 0 → StE r s v E W → Calls Tryz.prog 27 #[.pointer (some ⟨r, 0, none⟩), .int .i64 c] W fun x w' => x = .returned (.tuple #[]) ∧ StE r s v (failE c E) w' ∧ RK r W w') := Lib.hid fun c v E W hc hW => e_fail r s v E c hc W hW
  have HBG : Hid (∀ (c : UInt8) (W : World), Calls Tryz.prog 49 #[.int .u8 (c.toNat : Int)] W fun x w' => x = .returned (.bool (begJ c)) ∧ W = w') := Lib.hid fun c W => rbegins_any c W
  have hvl : ∃ a n c, v = .slice a n c ∧ n = L.length := by
    rcases HV0.out.own.2 with ⟨h1, h2⟩ | ⟨g, cap, cur, h1, _⟩
    · exact ⟨none, 0, 0, h1, h2.symm⟩
    · exact ⟨_, _, _, h1, rfl⟩
  obtain ⟨av, nv, cv, rfl, hnv⟩ := hvl
  have HNV := Lib.hid hnv
  have hnv8 : nv ≤ 2048 := by omega
  have hblv : VaE (.ok (c :: rest)) := by rw [← hb]; exact (cut_bl l).2 hv
  have HVB := Lib.hid hblv
  obtain ⟨bl, hbl⟩ : ∃ bl, bl = c :: rest := ⟨_, rfl⟩
  have HBQ : Hid (blE (.ok l) = .ok bl) := Lib.hid (by rw [hbl, ← hb]; rfl)
  have HBC := Lib.hid hbl
  have HLA : Hid (∀ v W, StE r s v (.ok bl) W → Calls Tryz.prog 48 #[.pointer (some ⟨r, 0, none⟩)] W fun x w' => x = .returned (.int .u8 (c.toNat : Int)) ∧ Below W.heap.size W w') := Lib.hid fun v W hW => by
    have := HLK.out v _ W hW
    rw [show lkE (.ok bl) = c from by rw [hbl]; rfl] at this
    exact this
  have hL2 : nv ≤ 2047 := by omega
  have hL3 : L.length ≤ 2047 := by omega
  have hcn : (c == 45 || isDig c) = true := by rw [hc]; rfl
  have hbg : begJ c = true := by rw [hc]; rfl
  have HNU : Hid (∀ v W, StE r s v (.ok bl) W → Calls Tryz.prog 53 #[.pointer (some ⟨r, 0, none⟩)] W fun x w' => (∃ (n : Int) (E : Ex), x = .returned (.int .i64 n) ∧ StE r s v E w' ∧ ((∃ e, e ≠ 0 ∧ numJ bl = .error e ∧ E = .error e) ∨ ∃ t, numJ bl = .ok (n, t) ∧ E = .ok t)) ∧ RK r W w') := Lib.hid fun v W hW => e_number r s v bl hs W hW HRD
  have hlf : valJ d name.data.toList l L = (match numJ bl with | .error e => .error e | .ok (n, t) => .ok (t, L ++ [⟨2, name.data.toList, [], n, 0⟩])) := by
    rw [valJ_leaf d _ l L _ rest hb hf hbg (by intro h; rcases h with h | h <;> (rw [h] at hcn; revert hcn; decide)), hbl]
    unfold leafJ
    rw [if_neg (by intro h; rw [h] at hcn; revert hcn; decide), if_neg (by intro h; rw [h] at hcn; revert hcn; decide), if_neg (by intro h; rw [h] at hcn; revert hcn; decide), if_neg (by intro h; rw [h] at hcn; revert hcn; decide)]
    cases numJ (c :: rest) with
    | error e => rfl
    | ok y => rfl
  have HLE : Hid (∀ e, numJ bl = .error e → valJ d name.data.toList l L = .error e) := Lib.hid fun e he => by rw [hlf, he]
  have HLO : Hid (∀ n t, numJ bl = .ok (n, t) → valJ d name.data.toList l L = .ok (t, L ++ [⟨2, name.data.toList, [], n, 0⟩])) := Lib.hid fun n t he => by rw [hlf, he]
  clear hlf hcn hbg
  subst hc
  rw [show (((UInt8.ofNat 45).toNat : Nat) : Int) = 45 from rfl] at HLA
  clear h hv hown hb hblv hbl hnv hf
  go_enter Tryz.func25, Tryz.ntmps25
  go_wp2_with fail
  refine (HBL.out _ _ _ HV0.out.st).mono ?_; rintro x w1 ⟨rfl, hst, hk⟩
  have HV1 := Lib.hid (HV0.out.rk hst hk)
  clear hst hk
  rw [HBQ.out] at HV1
  go_wp2_with fail
  refine (HLA.out _ _ HV1.out.st).mono ?_; rintro x w2 ⟨rfl, hb⟩
  have HV2 := Lib.hid (HV1.out.below hb)
  clear hb
  obtain ⟨c3, c2, f2⟩ := HV2.out.st.c3
  have tf : decide ((2048 : Int) ≤ (nv : Int)) = false := decide_eq_false (by omega)
  have HVA2 : Hid (VS r s W (.slice av nv cv) (.slice av nv cv) L (.ok bl) (World.alloc _ (.cells #[.int .u8 0, .string name, .string ⟨#[]⟩, .int .i64 0, .int .i64 0] 41))) := Lib.hid (HV2.out.alloc _)
  have hszp := HVA2.out.st.lt
  go_wp2_with (at_builtin; refine wpList_pushC rfl _ _ rfl (r + 1) (.slice av nv cv) L rfl HVA2.out.own _ 1 name.data.toList rfl (heap_alloc_new _ _) ?c1 ?c2 ?_)
  case c1 => omega
  case c2 => exact hszp
  intro v5 w4 hown' hgrow hat
  have HV5 : Hid (VS r s W (.slice av nv cv) v5 (L ++ [⟨0, name.data.toList, [], 0, 0⟩]) (.ok bl) (w4.setCell ⟨r, 2, none⟩ v5)) := Lib.hid (HVA2.out.grown hown' hgrow hat (by simp))
  obtain ⟨w5, hw5⟩ : ∃ w5, (w4.setCell ⟨r, 2, none⟩ v5) = w5 := ⟨_, rfl⟩
  have HW5 := Lib.hid hw5
  have hne4 : some r ≠ (Value.slice av nv cv).ownBlock := fun e => by
    rcases own_some HVA2.out.own with h0 | ⟨g, _, _, _, h0, h1, _⟩
    · rw [h0] at e; cases e
    · rw [h0] at e; injection e with e; omega
  have hst4 : StE r s (.slice av nv cv) (.ok bl) w4 := HVA2.out.st.same (hgrow.block r HVA2.out.st.lt hne4)
  obtain ⟨c34, c24, f24⟩ := hst4.c3
  rw [hw5] at HV5
  clear hown' hgrow hat hst4 hne4 c3 c2 f2 HVA2 hszp
  have hkl : nv < (L ++ [(⟨0, name.data.toList, [], 0, 0⟩ : Cel)]).length := by rw [HNV.out]; simp
  obtain ⟨n5, hn5⟩ : ∃ n5, (L ++ [(⟨0, name.data.toList, [], 0, 0⟩ : Cel)]).length = n5 := ⟨_, rfl⟩
  have hk5 : nv < n5 := by rw [← hn5, HNV.out]; simp
  obtain ⟨g, cap, hvg, hBg, hgl, hfz, ck0, ck2, ck3, ck4⟩ := HV5.out.own.form nv hkl
  rw [hn5] at hvg
  subst hvg
  obtain ⟨c35, c25, f25⟩ := HV5.out.st.c3
  clear hn5

  go_wp2_with fail
  try rw [HW5.out]
  refine (HNU.out _ _ HV5.out.st).mono ?_; rintro x w6 ⟨⟨n, E6, rfl, hst, hcs⟩, hk⟩
  have HCS := Lib.hid hcs
  have HV6 := Lib.hid (HV5.out.rk hst hk)
  clear hcs
  clear hst hk ck0 ck2 ck3 ck4 hfz c35 c25 f25 c34 c24 f24
  obtain ⟨c37, c27, f27⟩ := HV6.out.st.c3
  obtain ⟨hfz7, ck07, ck27, ck37⟩ := HV6.out.own.at_ rfl nv (by have := HNV.out; simp; omega)
  have hfk7 := hfz7 (nv * 5)
  have HV7 : Hid (VS r s W (.slice av nv cv) _ ((L ++ [(⟨0, name.data.toList, [], 0, 0⟩ : Cel)]).modify nv fun c => { c with kind := 2 }) _ (w6.setCell ⟨g, nv * 5, none⟩ (.int .u8 2))) := Lib.hid (HV6.out.set rfl (by omega) (by rw [List.length_modify]) (celFlat_set0 _ _ _))
  obtain ⟨c38, c28, f28⟩ := HV7.out.st.c3
  obtain ⟨hfz8, ck08, ck28, ck38⟩ := HV7.out.own.at_ rfl nv (by have := HNV.out; simp; omega)
  have hfk8 := hfz8 (nv * 5 + 3)
  have HV8 : Hid (VS r s W (.slice av nv cv) _ (((L ++ [(⟨0, name.data.toList, [], 0, 0⟩ : Cel)]).modify nv fun c => { c with kind := 2 }).modify nv fun c => { c with num := n }) _ ((w6.setCell ⟨g, nv * 5, none⟩ (.int .u8 2)).setCell ⟨g, nv * 5 + 3, none⟩ (.int .i64 n))) := Lib.hid (HV7.out.set rfl (by omega) (by rw [List.length_modify]) (celFlat_set3 _ _ _))
  go_wp2_with fail
  first | go_end0 | refine bodyPost_ret (results_none rfl _ _ _) rfl ?_
  have hfin := HV8.out
  rw [modify_end' _ _ _ _ HNV.out] at hfin
  rw [modify_end' _ _ _ _ HNV.out] at hfin
  refine ⟨rfl, ?_⟩
  have hve := VS.toE hfin (by simp; omega)
  rcases HCS.out with ⟨e, he, h1, h2⟩ | ⟨t, h1, h2⟩
  · rw [HLE.out e h1]
    rw [h2] at hve
    exact hve
  · rw [HLO.out n t h1]
    rw [h2] at hve
    exact hve
set_option maxRecDepth 100000 in
set_option maxHeartbeats 4000000 in
theorem rvalue_digit (d : Nat) (r : Nat) (s name : ByteArray) (op : Int) (v : Value) (L : List Cel) (l : List UInt8) (W : World) (hs : s.size ≤ 20000) (hv : validD l = true) (h : StE r s v (.ok l) W) (hown : OwnC (r + 1) v L W) (hL : L.length ≤ 2048) (hf : L.length ≠ 2048) (c : UInt8) (rest : List UInt8) (hb : blJ l = c :: rest) (hc : isDig c = true) (HRD : Hid (∀ (x : ByteArray) (W : World), x.size ≤ maxLen → Calls Tryz.prog 77 #[.string x] W fun e w' => e = .returned (.tuple #[.int .i64 (rdV x.data.toList), .int .i64 (rdE x.data.toList)]) ∧ W = w')) :
    Calls Tryz.prog 25 #[.pointer (some ⟨r, 0, none⟩), .string name, .int .i64 op] W fun x w' => x = .returned (.tuple #[]) ∧ ValE r s v (valJ d name.data.toList l L) W w' := by
  have HV0 : Hid (VS r s W v v L (.ok l) W) := Lib.hid ⟨h, hown, VK.refl _ _ _, fun k hk => Or.inl hk⟩
  have HLK : Hid (∀ v E W, StE r s v E W → Calls Tryz.prog 48 #[.pointer (some ⟨r, 0, none⟩)] W fun x w' => x = .returned (.int .u8 ((lkE E).toNat : Int)) ∧ Below W.heap.size W w') := Lib.hid fun v E W hW => e_look r s v E hs W hW
  have HBL : Hid (∀ v E W, StE r s v E W → Calls Tryz.prog 26 #[.pointer (some ⟨r, 0, none⟩)] W fun x w' => x = .returned (.tuple #[]) ∧ StE r s v (blE E) w' ∧ RK r W w') := Lib.hid fun v E W hW => e_blanks r s v E hs W hW
  have HFA : Hid (∀ (c : Int) v E W, c ≠ 0 → StE r s v E W → Calls Tryz.prog 27 #[.pointer (some ⟨r, 0, none⟩), .int .i64 c] W fun x w' => x = .returned (.tuple #[]) ∧ StE r s v (failE c E) w' ∧ RK r W w') := Lib.hid fun c v E W hc hW => e_fail r s v E c hc W hW
  have HBG : Hid (∀ (c : UInt8) (W : World), Calls Tryz.prog 49 #[.int .u8 (c.toNat : Int)] W fun x w' => x = .returned (.bool (begJ c)) ∧ W = w') := Lib.hid fun c W => rbegins_any c W
  have hvl : ∃ a n c, v = .slice a n c ∧ n = L.length := by
    rcases HV0.out.own.2 with ⟨h1, h2⟩ | ⟨g, cap, cur, h1, _⟩
    · exact ⟨none, 0, 0, h1, h2.symm⟩
    · exact ⟨_, _, _, h1, rfl⟩
  obtain ⟨av, nv, cv, rfl, hnv⟩ := hvl
  have HNV := Lib.hid hnv
  have hnv8 : nv ≤ 2048 := by omega
  have hblv : VaE (.ok (c :: rest)) := by rw [← hb]; exact (cut_bl l).2 hv
  have HVB := Lib.hid hblv
  obtain ⟨bl, hbl⟩ : ∃ bl, bl = c :: rest := ⟨_, rfl⟩
  have HBQ : Hid (blE (.ok l) = .ok bl) := Lib.hid (by rw [hbl, ← hb]; rfl)
  have HBC := Lib.hid hbl
  have HLA : Hid (∀ v W, StE r s v (.ok bl) W → Calls Tryz.prog 48 #[.pointer (some ⟨r, 0, none⟩)] W fun x w' => x = .returned (.int .u8 (c.toNat : Int)) ∧ Below W.heap.size W w') := Lib.hid fun v W hW => by
    have := HLK.out v _ W hW
    rw [show lkE (.ok bl) = c from by rw [hbl]; rfl] at this
    exact this
  have hL2 : nv ≤ 2047 := by omega
  have hL3 : L.length ≤ 2047 := by omega
  have hcn : (c == 45 || isDig c) = true := by rw [hc]; simp
  have hbg : begJ c = true := by unfold begJ; rw [hc]; simp
  have HNU : Hid (∀ v W, StE r s v (.ok bl) W → Calls Tryz.prog 53 #[.pointer (some ⟨r, 0, none⟩)] W fun x w' => (∃ (n : Int) (E : Ex), x = .returned (.int .i64 n) ∧ StE r s v E w' ∧ ((∃ e, e ≠ 0 ∧ numJ bl = .error e ∧ E = .error e) ∨ ∃ t, numJ bl = .ok (n, t) ∧ E = .ok t)) ∧ RK r W w') := Lib.hid fun v W hW => e_number r s v bl hs W hW HRD
  have hlf : valJ d name.data.toList l L = (match numJ bl with | .error e => .error e | .ok (n, t) => .ok (t, L ++ [⟨2, name.data.toList, [], n, 0⟩])) := by
    rw [valJ_leaf d _ l L _ rest hb hf hbg (by intro h; rcases h with h | h <;> (rw [h] at hcn; revert hcn; decide)), hbl]
    unfold leafJ
    rw [if_neg (by intro h; rw [h] at hcn; revert hcn; decide), if_neg (by intro h; rw [h] at hcn; revert hcn; decide), if_neg (by intro h; rw [h] at hcn; revert hcn; decide), if_neg (by intro h; rw [h] at hcn; revert hcn; decide)]
    cases numJ (c :: rest) with
    | error e => rfl
    | ok y => rfl
  have HLE : Hid (∀ e, numJ bl = .error e → valJ d name.data.toList l L = .error e) := Lib.hid fun e he => by rw [hlf, he]
  have HLO : Hid (∀ n t, numJ bl = .ok (n, t) → valJ d name.data.toList l L = .ok (t, L ++ [⟨2, name.data.toList, [], n, 0⟩])) := Lib.hid fun n t he => by rw [hlf, he]
  have t0 : ((c.toNat : Int) == 123) = false := byte_ne (n := 123) (by decide) (by intro e; rw [e] at hcn; revert hcn; decide)
  have t1 : ((c.toNat : Int) == 91) = false := byte_ne (n := 91) (by decide) (by intro e; rw [e] at hcn; revert hcn; decide)
  have t2 : ((c.toNat : Int) == 34) = false := byte_ne (n := 34) (by decide) (by intro e; rw [e] at hcn; revert hcn; decide)
  have t3 : ((c.toNat : Int) == 116) = false := byte_ne (n := 116) (by decide) (by intro e; rw [e] at hcn; revert hcn; decide)
  have t4 : ((c.toNat : Int) == 102) = false := byte_ne (n := 102) (by decide) (by intro e; rw [e] at hcn; revert hcn; decide)
  have t5 : ((c.toNat : Int) == 110) = false := byte_ne (n := 110) (by decide) (by intro e; rw [e] at hcn; revert hcn; decide)
  have t45 : ((c.toNat : Int) == 45) = false := byte_ne (n := 45) (by decide) (by intro e; rw [e] at hc; revert hc; decide)
  have hdg : 48 ≤ c.toNat ∧ c.toNat ≤ 57 := by unfold isDig at hc; rwa [decide_eq_true_eq] at hc
  have u1 : decide ((48 : Int) ≤ (c.toNat : Int)) = true := decide_eq_true (by omega)
  have u2 : decide ((c.toNat : Int) ≤ 57) = true := decide_eq_true (by omega)
  have tz : ((c.toNat : Int) != 0) = true := bne_iff_ne.2 (by omega)
  clear hlf hcn hbg hc hdg
  generalize (c.toNat : Int) = ci at *
  clear h hv hown hb hblv hbl hnv hf
  go_enter Tryz.func25, Tryz.ntmps25
  go_wp2_with fail
  refine (HBL.out _ _ _ HV0.out.st).mono ?_; rintro x w1 ⟨rfl, hst, hk⟩
  have HV1 := Lib.hid (HV0.out.rk hst hk)
  clear hst hk
  rw [HBQ.out] at HV1
  go_wp2_with fail
  refine (HLA.out _ _ HV1.out.st).mono ?_; rintro x w2 ⟨rfl, hb⟩
  have HV2 := Lib.hid (HV1.out.below hb)
  clear hb
  obtain ⟨c3, c2, f2⟩ := HV2.out.st.c3
  have tf : decide ((2048 : Int) ≤ (nv : Int)) = false := decide_eq_false (by omega)
  have HVA2 : Hid (VS r s W (.slice av nv cv) (.slice av nv cv) L (.ok bl) (World.alloc _ (.cells #[.int .u8 0, .string name, .string ⟨#[]⟩, .int .i64 0, .int .i64 0] 41))) := Lib.hid (HV2.out.alloc _)
  have hszp := HVA2.out.st.lt
  go_wp2_with (at_builtin; refine wpList_pushC rfl _ _ rfl (r + 1) (.slice av nv cv) L rfl HVA2.out.own _ 1 name.data.toList rfl (heap_alloc_new _ _) ?c1 ?c2 ?_)
  case c1 => omega
  case c2 => exact hszp
  intro v5 w4 hown' hgrow hat
  have HV5 : Hid (VS r s W (.slice av nv cv) v5 (L ++ [⟨0, name.data.toList, [], 0, 0⟩]) (.ok bl) (w4.setCell ⟨r, 2, none⟩ v5)) := Lib.hid (HVA2.out.grown hown' hgrow hat (by simp))
  obtain ⟨w5, hw5⟩ : ∃ w5, (w4.setCell ⟨r, 2, none⟩ v5) = w5 := ⟨_, rfl⟩
  have HW5 := Lib.hid hw5
  have hne4 : some r ≠ (Value.slice av nv cv).ownBlock := fun e => by
    rcases own_some HVA2.out.own with h0 | ⟨g, _, _, _, h0, h1, _⟩
    · rw [h0] at e; cases e
    · rw [h0] at e; injection e with e; omega
  have hst4 : StE r s (.slice av nv cv) (.ok bl) w4 := HVA2.out.st.same (hgrow.block r HVA2.out.st.lt hne4)
  obtain ⟨c34, c24, f24⟩ := hst4.c3
  rw [hw5] at HV5
  clear hown' hgrow hat hst4 hne4 c3 c2 f2 HVA2 hszp
  have hkl : nv < (L ++ [(⟨0, name.data.toList, [], 0, 0⟩ : Cel)]).length := by rw [HNV.out]; simp
  obtain ⟨n5, hn5⟩ : ∃ n5, (L ++ [(⟨0, name.data.toList, [], 0, 0⟩ : Cel)]).length = n5 := ⟨_, rfl⟩
  have hk5 : nv < n5 := by rw [← hn5, HNV.out]; simp
  obtain ⟨g, cap, hvg, hBg, hgl, hfz, ck0, ck2, ck3, ck4⟩ := HV5.out.own.form nv hkl
  rw [hn5] at hvg
  subst hvg
  obtain ⟨c35, c25, f25⟩ := HV5.out.st.c3
  clear hn5

  go_wp2_with fail
  try rw [HW5.out]
  refine (HNU.out _ _ HV5.out.st).mono ?_; rintro x w6 ⟨⟨n, E6, rfl, hst, hcs⟩, hk⟩
  have HCS := Lib.hid hcs
  have HV6 := Lib.hid (HV5.out.rk hst hk)
  clear hcs
  clear hst hk ck0 ck2 ck3 ck4 hfz c35 c25 f25 c34 c24 f24
  obtain ⟨c37, c27, f27⟩ := HV6.out.st.c3
  obtain ⟨hfz7, ck07, ck27, ck37⟩ := HV6.out.own.at_ rfl nv (by have := HNV.out; simp; omega)
  have hfk7 := hfz7 (nv * 5)
  have HV7 : Hid (VS r s W (.slice av nv cv) _ ((L ++ [(⟨0, name.data.toList, [], 0, 0⟩ : Cel)]).modify nv fun c => { c with kind := 2 }) _ (w6.setCell ⟨g, nv * 5, none⟩ (.int .u8 2))) := Lib.hid (HV6.out.set rfl (by omega) (by rw [List.length_modify]) (celFlat_set0 _ _ _))
  obtain ⟨c38, c28, f28⟩ := HV7.out.st.c3
  obtain ⟨hfz8, ck08, ck28, ck38⟩ := HV7.out.own.at_ rfl nv (by have := HNV.out; simp; omega)
  have hfk8 := hfz8 (nv * 5 + 3)
  have HV8 : Hid (VS r s W (.slice av nv cv) _ (((L ++ [(⟨0, name.data.toList, [], 0, 0⟩ : Cel)]).modify nv fun c => { c with kind := 2 }).modify nv fun c => { c with num := n }) _ ((w6.setCell ⟨g, nv * 5, none⟩ (.int .u8 2)).setCell ⟨g, nv * 5 + 3, none⟩ (.int .i64 n))) := Lib.hid (HV7.out.set rfl (by omega) (by rw [List.length_modify]) (celFlat_set3 _ _ _))
  go_wp2_with fail
  first | go_end0 | refine bodyPost_ret (results_none rfl _ _ _) rfl ?_
  have hfin := HV8.out
  rw [modify_end' _ _ _ _ HNV.out] at hfin
  rw [modify_end' _ _ _ _ HNV.out] at hfin
  refine ⟨rfl, ?_⟩
  have hve := VS.toE hfin (by simp; omega)
  rcases HCS.out with ⟨e, he, h1, h2⟩ | ⟨t, h1, h2⟩
  · rw [HLE.out e h1]
    rw [h2] at hve
    exact hve
  · rw [HLO.out n t h1]
    rw [h2] at hve
    exact hve
end Go.Proofs.YtglhanblbojkhaaGreatDoor

set_option linter.unusedSimpArgs false
set_option linter.unusedVariables false
namespace Go.Proofs.YtglhanblbojkhaaGreatDoor
open Go.RowKit Go.Lib
set_option maxRecDepth 100000 in
set_option maxHeartbeats 4000000 in
theorem rvalue_nest_obj (d : Nat) (r : Nat) (s name : ByteArray) (op : Int) (v : Value) (L : List Cel) (l : List UInt8) (W : World) (hs : s.size ≤ 20000) (hv : validD l = true) (h : StE r s v (.ok l) W) (hown : OwnC (r + 1) v L W) (hL : L.length ≤ 2048) (hf : L.length ≠ 2048) (c : UInt8) (rest : List UInt8) (hb : blJ l = c :: rest) (hc : c = UInt8.ofNat 123) (hop : op + (d : Int) = 16) (h0 : 0 ≤ op) (hmany : ManySpec d) :
    Calls Tryz.prog 25 #[.pointer (some ⟨r, 0, none⟩), .string name, .int .i64 op] W fun x w' => x = .returned (.tuple #[]) ∧ ValE r s v (valJ d name.data.toList l L) W w' := by
  have HV0 : Hid (VS r s W v v L (.ok l) W) := Lib.hid ⟨h, hown, VK.refl _ _ _, fun k hk => Or.inl hk⟩
  have HLK : Hid (∀ v E W, StE r s v E W → Calls Tryz.prog 48 #[.pointer (some ⟨r, 0, none⟩)] W fun x w' => x = .returned (.int .u8 ((lkE E).toNat : Int)) ∧ Below W.heap.size W w') := Lib.hid fun v E W hW => e_look r s v E hs W hW
  have HBL : Hid (∀ v E W, StE r s v E W → Calls Tryz.prog 26 #[.pointer (some ⟨r, 0, none⟩)] W fun x w' => x = .returned (.tuple #[]) ∧ StE r s v (blE E) w' ∧ RK r W w') := Lib.hid fun v E W hW => e_blanks r s v E hs W hW
  have HFA : Hid (∀ (c : Int) v E W, c ≠ 0 → StE r s v E W → Calls Tryz.prog 27 #[.pointer (some ⟨r, 0, none⟩), .int .i64 c] W fun x w' => x = .returned (.tuple #[]) ∧ StE r s v (failE c E) w' ∧ RK r W w') := Lib.hid fun c v E W hc hW => e_fail r s v E c hc W hW
  have HBG : Hid (∀ (c : UInt8) (W : World), Calls Tryz.prog 49 #[.int .u8 (c.toNat : Int)] W fun x w' => x = .returned (.bool (begJ c)) ∧ W = w') := Lib.hid fun c W => rbegins_any c W
  have hvl : ∃ a n c, v = .slice a n c ∧ n = L.length := by
    rcases HV0.out.own.2 with ⟨h1, h2⟩ | ⟨g, cap, cur, h1, _⟩
    · exact ⟨none, 0, 0, h1, h2.symm⟩
    · exact ⟨_, _, _, h1, rfl⟩
  obtain ⟨av, nv, cv, rfl, hnv⟩ := hvl
  have HNV := Lib.hid hnv
  have hnv8 : nv ≤ 2048 := by omega
  have hblv : VaE (.ok (c :: rest)) := by rw [← hb]; exact (cut_bl l).2 hv
  have HVB := Lib.hid hblv
  obtain ⟨bl, hbl⟩ : ∃ bl, bl = c :: rest := ⟨_, rfl⟩
  have HBQ : Hid (blE (.ok l) = .ok bl) := Lib.hid (by rw [hbl, ← hb]; rfl)
  have HBC := Lib.hid hbl
  have HLA : Hid (∀ v W, StE r s v (.ok bl) W → Calls Tryz.prog 48 #[.pointer (some ⟨r, 0, none⟩)] W fun x w' => x = .returned (.int .u8 (c.toNat : Int)) ∧ Below W.heap.size W w') := Lib.hid fun v W hW => by
    have := HLK.out v _ W hW
    rw [show lkE (.ok bl) = c from by rw [hbl]; rfl] at this
    exact this
  have hL2 : nv ≤ 2047 := by omega
  have hL3 : L.length ≤ 2047 := by omega
  subst hc
  rw [show (((UInt8.ofNat 123).toNat : Nat) : Int) = 123 from rfl] at HLA
  have HMA : Hid (∀ v (M : List Cel) W, StE r s v (.ok bl) W → OwnC (r + 1) v M W → nv < M.length → M.length ≤ 2048 → Calls Tryz.prog 50 #[.pointer (some ⟨r, 0, none⟩), .int .i64 (nv : Int), .int .i64 op] W fun x w' => x = .returned (.tuple #[]) ∧ ValE r s v (manyJ d true nv rest M) W w') := Lib.hid fun v M W h1 h2 h3 h4 => by
    have := hmany r s nv op v M (UInt8.ofNat 123) rest W hop h0 hs (by decide) HVB.out (by rw [← HBC.out]; exact h1) h2 h3 h4
    exact this
  have HLF : Hid (valJ d name.data.toList l L = manyJ d true nv rest (L ++ [⟨7, name.data.toList, [], 0, 0⟩])) := Lib.hid (by
    rw [valJ_nest d _ l L _ rest hb hf (by decide), ← hnv]
    rfl)
  clear h hv hown hb hblv hbl hnv hf
  go_enter Tryz.func25, Tryz.ntmps25
  go_wp2_with fail
  refine (HBL.out _ _ _ HV0.out.st).mono ?_; rintro x w1 ⟨rfl, hst, hk⟩
  have HV1 := Lib.hid (HV0.out.rk hst hk)
  clear hst hk
  rw [HBQ.out] at HV1
  go_wp2_with fail
  refine (HLA.out _ _ HV1.out.st).mono ?_; rintro x w2 ⟨rfl, hb⟩
  have HV2 := Lib.hid (HV1.out.below hb)
  clear hb
  obtain ⟨c3, c2, f2⟩ := HV2.out.st.c3
  have tf : decide ((2048 : Int) ≤ (nv : Int)) = false := decide_eq_false (by omega)
  have HVA2 : Hid (VS r s W (.slice av nv cv) (.slice av nv cv) L (.ok bl) (World.alloc _ (.cells #[.int .u8 0, .string name, .string ⟨#[]⟩, .int .i64 0, .int .i64 0] 41))) := Lib.hid (HV2.out.alloc _)
  have hszp := HVA2.out.st.lt
  go_wp2_with (at_builtin; refine wpList_pushC rfl _ _ rfl (r + 1) (.slice av nv cv) L rfl HVA2.out.own _ 1 name.data.toList rfl (heap_alloc_new _ _) ?c1 ?c2 ?_)
  case c1 => omega
  case c2 => exact hszp
  intro v5 w4 hown' hgrow hat
  have HV5 : Hid (VS r s W (.slice av nv cv) v5 (L ++ [⟨0, name.data.toList, [], 0, 0⟩]) (.ok bl) (w4.setCell ⟨r, 2, none⟩ v5)) := Lib.hid (HVA2.out.grown hown' hgrow hat (by simp))
  obtain ⟨w5, hw5⟩ : ∃ w5, (w4.setCell ⟨r, 2, none⟩ v5) = w5 := ⟨_, rfl⟩
  have HW5 := Lib.hid hw5
  have hne4 : some r ≠ (Value.slice av nv cv).ownBlock := fun e => by
    rcases own_some HVA2.out.own with h0 | ⟨g, _, _, _, h0, h1, _⟩
    · rw [h0] at e; cases e
    · rw [h0] at e; injection e with e; omega
  have hst4 : StE r s (.slice av nv cv) (.ok bl) w4 := HVA2.out.st.same (hgrow.block r HVA2.out.st.lt hne4)
  obtain ⟨c34, c24, f24⟩ := hst4.c3
  rw [hw5] at HV5
  clear hown' hgrow hat hst4 hne4 c3 c2 f2 HVA2 hszp
  have hkl : nv < (L ++ [(⟨0, name.data.toList, [], 0, 0⟩ : Cel)]).length := by rw [HNV.out]; simp
  obtain ⟨n5, hn5⟩ : ∃ n5, (L ++ [(⟨0, name.data.toList, [], 0, 0⟩ : Cel)]).length = n5 := ⟨_, rfl⟩
  have hk5 : nv < n5 := by rw [← hn5, HNV.out]; simp
  obtain ⟨g, cap, hvg, hBg, hgl, hfz, ck0, ck2, ck3, ck4⟩ := HV5.out.own.form nv hkl
  rw [hn5] at hvg
  subst hvg
  obtain ⟨c35, c25, f25⟩ := HV5.out.st.c3
  clear hn5

  have hfk := hfz (nv * 5)
  have HV6 : Hid (VS r s W (.slice av nv cv) _ ((L ++ [(⟨0, name.data.toList, [], 0, 0⟩ : Cel)]).modify nv fun c => { c with kind := 6 }) (.ok bl) (w5.setCell ⟨g, nv * 5, none⟩ (.int .u8 6))) := Lib.hid (HV5.out.set rfl (by omega) (by rw [List.length_modify]) (celFlat_set0 _ _ _))
  obtain ⟨c36, c26, f26⟩ := HV6.out.st.c3
  obtain ⟨hfz6, ck06, ck26, ck36⟩ := HV6.out.own.at_ rfl nv (by have := HNV.out; simp; omega)
  have hfk6 := hfz6 (nv * 5)
  have HV7 : Hid (VS r s W (.slice av nv cv) _ (((L ++ [(⟨0, name.data.toList, [], 0, 0⟩ : Cel)]).modify nv fun c => { c with kind := 6 }).modify nv fun c => { c with kind := 7 }) (.ok bl) ((w5.setCell ⟨g, nv * 5, none⟩ (.int .u8 6)).setCell ⟨g, nv * 5, none⟩ (.int .u8 7))) := Lib.hid (HV6.out.set rfl (by omega) (by rw [List.length_modify]) (celFlat_set0 _ _ _))
  go_wp2_with fail
  have hfin := HV7.out
  rw [modify_end' _ _ _ _ HNV.out] at hfin
  rw [modify_end' _ _ _ _ HNV.out] at hfin
  have HFN := Lib.hid hfin
  clear hfin
  refine (HMA.out _ _ _ HFN.out.st HFN.out.own (by have := HNV.out; simp; omega) (by simp; omega)).mono ?_; rintro x w8 ⟨rfl, hve⟩
  have HE := Lib.hid (HFN.out.join hve)
  clear hve
  go_wp2_with fail
  first | go_end0 | refine bodyPost_ret (results_none rfl _ _ _) rfl ?_
  rw [HLF.out]
  exact ⟨rfl, HE.out⟩
set_option maxRecDepth 100000 in
set_option maxHeartbeats 4000000 in
theorem rvalue_nest_list (d : Nat) (r : Nat) (s name : ByteArray) (op : Int) (v : Value) (L : List Cel) (l : List UInt8) (W : World) (hs : s.size ≤ 20000) (hv : validD l = true) (h : StE r s v (.ok l) W) (hown : OwnC (r + 1) v L W) (hL : L.length ≤ 2048) (hf : L.length ≠ 2048) (c : UInt8) (rest : List UInt8) (hb : blJ l = c :: rest) (hc : c = UInt8.ofNat 91) (hop : op + (d : Int) = 16) (h0 : 0 ≤ op) (hmany : ManySpec d) :
    Calls Tryz.prog 25 #[.pointer (some ⟨r, 0, none⟩), .string name, .int .i64 op] W fun x w' => x = .returned (.tuple #[]) ∧ ValE r s v (valJ d name.data.toList l L) W w' := by
  have HV0 : Hid (VS r s W v v L (.ok l) W) := Lib.hid ⟨h, hown, VK.refl _ _ _, fun k hk => Or.inl hk⟩
  have HLK : Hid (∀ v E W, StE r s v E W → Calls Tryz.prog 48 #[.pointer (some ⟨r, 0, none⟩)] W fun x w' => x = .returned (.int .u8 ((lkE E).toNat : Int)) ∧ Below W.heap.size W w') := Lib.hid fun v E W hW => e_look r s v E hs W hW
  have HBL : Hid (∀ v E W, StE r s v E W → Calls Tryz.prog 26 #[.pointer (some ⟨r, 0, none⟩)] W fun x w' => x = .returned (.tuple #[]) ∧ StE r s v (blE E) w' ∧ RK r W w') := Lib.hid fun v E W hW => e_blanks r s v E hs W hW
  have HFA : Hid (∀ (c : Int) v E W, c ≠ 0 → StE r s v E W → Calls Tryz.prog 27 #[.pointer (some ⟨r, 0, none⟩), .int .i64 c] W fun x w' => x = .returned (.tuple #[]) ∧ StE r s v (failE c E) w' ∧ RK r W w') := Lib.hid fun c v E W hc hW => e_fail r s v E c hc W hW
  have HBG : Hid (∀ (c : UInt8) (W : World), Calls Tryz.prog 49 #[.int .u8 (c.toNat : Int)] W fun x w' => x = .returned (.bool (begJ c)) ∧ W = w') := Lib.hid fun c W => rbegins_any c W
  have hvl : ∃ a n c, v = .slice a n c ∧ n = L.length := by
    rcases HV0.out.own.2 with ⟨h1, h2⟩ | ⟨g, cap, cur, h1, _⟩
    · exact ⟨none, 0, 0, h1, h2.symm⟩
    · exact ⟨_, _, _, h1, rfl⟩
  obtain ⟨av, nv, cv, rfl, hnv⟩ := hvl
  have HNV := Lib.hid hnv
  have hnv8 : nv ≤ 2048 := by omega
  have hblv : VaE (.ok (c :: rest)) := by rw [← hb]; exact (cut_bl l).2 hv
  have HVB := Lib.hid hblv
  obtain ⟨bl, hbl⟩ : ∃ bl, bl = c :: rest := ⟨_, rfl⟩
  have HBQ : Hid (blE (.ok l) = .ok bl) := Lib.hid (by rw [hbl, ← hb]; rfl)
  have HBC := Lib.hid hbl
  have HLA : Hid (∀ v W, StE r s v (.ok bl) W → Calls Tryz.prog 48 #[.pointer (some ⟨r, 0, none⟩)] W fun x w' => x = .returned (.int .u8 (c.toNat : Int)) ∧ Below W.heap.size W w') := Lib.hid fun v W hW => by
    have := HLK.out v _ W hW
    rw [show lkE (.ok bl) = c from by rw [hbl]; rfl] at this
    exact this
  have hL2 : nv ≤ 2047 := by omega
  have hL3 : L.length ≤ 2047 := by omega
  subst hc
  rw [show (((UInt8.ofNat 91).toNat : Nat) : Int) = 91 from rfl] at HLA
  have HMA : Hid (∀ v (M : List Cel) W, StE r s v (.ok bl) W → OwnC (r + 1) v M W → nv < M.length → M.length ≤ 2048 → Calls Tryz.prog 50 #[.pointer (some ⟨r, 0, none⟩), .int .i64 (nv : Int), .int .i64 op] W fun x w' => x = .returned (.tuple #[]) ∧ ValE r s v (manyJ d false nv rest M) W w') := Lib.hid fun v M W h1 h2 h3 h4 => by
    have := hmany r s nv op v M (UInt8.ofNat 91) rest W hop h0 hs (by decide) HVB.out (by rw [← HBC.out]; exact h1) h2 h3 h4
    exact this
  have HLF : Hid (valJ d name.data.toList l L = manyJ d false nv rest (L ++ [⟨6, name.data.toList, [], 0, 0⟩])) := Lib.hid (by
    rw [valJ_nest d _ l L _ rest hb hf (by decide), ← hnv]
    rfl)
  clear h hv hown hb hblv hbl hnv hf
  go_enter Tryz.func25, Tryz.ntmps25
  go_wp2_with fail
  refine (HBL.out _ _ _ HV0.out.st).mono ?_; rintro x w1 ⟨rfl, hst, hk⟩
  have HV1 := Lib.hid (HV0.out.rk hst hk)
  clear hst hk
  rw [HBQ.out] at HV1
  go_wp2_with fail
  refine (HLA.out _ _ HV1.out.st).mono ?_; rintro x w2 ⟨rfl, hb⟩
  have HV2 := Lib.hid (HV1.out.below hb)
  clear hb
  obtain ⟨c3, c2, f2⟩ := HV2.out.st.c3
  have tf : decide ((2048 : Int) ≤ (nv : Int)) = false := decide_eq_false (by omega)
  have HVA2 : Hid (VS r s W (.slice av nv cv) (.slice av nv cv) L (.ok bl) (World.alloc _ (.cells #[.int .u8 0, .string name, .string ⟨#[]⟩, .int .i64 0, .int .i64 0] 41))) := Lib.hid (HV2.out.alloc _)
  have hszp := HVA2.out.st.lt
  go_wp2_with (at_builtin; refine wpList_pushC rfl _ _ rfl (r + 1) (.slice av nv cv) L rfl HVA2.out.own _ 1 name.data.toList rfl (heap_alloc_new _ _) ?c1 ?c2 ?_)
  case c1 => omega
  case c2 => exact hszp
  intro v5 w4 hown' hgrow hat
  have HV5 : Hid (VS r s W (.slice av nv cv) v5 (L ++ [⟨0, name.data.toList, [], 0, 0⟩]) (.ok bl) (w4.setCell ⟨r, 2, none⟩ v5)) := Lib.hid (HVA2.out.grown hown' hgrow hat (by simp))
  obtain ⟨w5, hw5⟩ : ∃ w5, (w4.setCell ⟨r, 2, none⟩ v5) = w5 := ⟨_, rfl⟩
  have HW5 := Lib.hid hw5
  have hne4 : some r ≠ (Value.slice av nv cv).ownBlock := fun e => by
    rcases own_some HVA2.out.own with h0 | ⟨g, _, _, _, h0, h1, _⟩
    · rw [h0] at e; cases e
    · rw [h0] at e; injection e with e; omega
  have hst4 : StE r s (.slice av nv cv) (.ok bl) w4 := HVA2.out.st.same (hgrow.block r HVA2.out.st.lt hne4)
  obtain ⟨c34, c24, f24⟩ := hst4.c3
  rw [hw5] at HV5
  clear hown' hgrow hat hst4 hne4 c3 c2 f2 HVA2 hszp
  have hkl : nv < (L ++ [(⟨0, name.data.toList, [], 0, 0⟩ : Cel)]).length := by rw [HNV.out]; simp
  obtain ⟨n5, hn5⟩ : ∃ n5, (L ++ [(⟨0, name.data.toList, [], 0, 0⟩ : Cel)]).length = n5 := ⟨_, rfl⟩
  have hk5 : nv < n5 := by rw [← hn5, HNV.out]; simp
  obtain ⟨g, cap, hvg, hBg, hgl, hfz, ck0, ck2, ck3, ck4⟩ := HV5.out.own.form nv hkl
  rw [hn5] at hvg
  subst hvg
  obtain ⟨c35, c25, f25⟩ := HV5.out.st.c3
  clear hn5

  have hfk := hfz (nv * 5)
  have HV6 : Hid (VS r s W (.slice av nv cv) _ ((L ++ [(⟨0, name.data.toList, [], 0, 0⟩ : Cel)]).modify nv fun c => { c with kind := 6 }) (.ok bl) (w5.setCell ⟨g, nv * 5, none⟩ (.int .u8 6))) := Lib.hid (HV5.out.set rfl (by omega) (by rw [List.length_modify]) (celFlat_set0 _ _ _))
  go_wp2_with fail
  have hfin := HV6.out
  rw [modify_end' _ _ _ _ HNV.out] at hfin
  have HFN := Lib.hid hfin
  clear hfin
  refine (HMA.out _ _ _ HFN.out.st HFN.out.own (by have := HNV.out; simp; omega) (by simp; omega)).mono ?_; rintro x w8 ⟨rfl, hve⟩
  have HE := Lib.hid (HFN.out.join hve)
  clear hve
  go_wp2_with fail
  first | go_end0 | refine bodyPost_ret (results_none rfl _ _ _) rfl ?_
  rw [HLF.out]
  exact ⟨rfl, HE.out⟩
set_option maxRecDepth 100000 in
set_option maxHeartbeats 4000000 in
theorem rvalue_full (d : Nat) (r : Nat) (s name : ByteArray) (op : Int) (v : Value) (L : List Cel) (l : List UInt8) (W : World) (hs : s.size ≤ 20000) (hv : validD l = true) (h : StE r s v (.ok l) W) (hown : OwnC (r + 1) v L W) (hL : L.length ≤ 2048) (hbg : begJ ((blJ l).headD 0) = true) (hf : L.length = 2048) :
    Calls Tryz.prog 25 #[.pointer (some ⟨r, 0, none⟩), .string name, .int .i64 op] W fun x w' => x = .returned (.tuple #[]) ∧ ValE r s v (valJ d name.data.toList l L) W w' := by
  have HV0 : Hid (VS r s W v v L (.ok l) W) := Lib.hid ⟨h, hown, VK.refl _ _ _, fun k hk => Or.inl hk⟩
  have HLK : Hid (∀ v E W, StE r s v E W → Calls Tryz.prog 48 #[.pointer (some ⟨r, 0, none⟩)] W fun x w' => x = .returned (.int .u8 ((lkE E).toNat : Int)) ∧ Below W.heap.size W w') := Lib.hid fun v E W hW => e_look r s v E hs W hW
  have HBL : Hid (∀ v E W, StE r s v E W → Calls Tryz.prog 26 #[.pointer (some ⟨r, 0, none⟩)] W fun x w' => x = .returned (.tuple #[]) ∧ StE r s v (blE E) w' ∧ RK r W w') := Lib.hid fun v E W hW => e_blanks r s v E hs W hW
  have HFA : Hid (∀ (c : Int) v E W, c ≠ 0 → StE r s v E W → Calls Tryz.prog 27 #[.pointer (some ⟨r, 0, none⟩), .int .i64 c] W fun x w' => x = .returned (.tuple #[]) ∧ StE r s v (failE c E) w' ∧ RK r W w') := Lib.hid fun c v E W hc hW => e_fail r s v E c hc W hW
  have HBG : Hid (∀ (c : UInt8) (W : World), Calls Tryz.prog 49 #[.int .u8 (c.toNat : Int)] W fun x w' => x = .returned (.bool (begJ c)) ∧ W = w') := Lib.hid fun c W => rbegins_any c W
  rw [valJ_full d _ l L hbg hf]
  obtain ⟨c, hc⟩ : ∃ c, (blJ l).headD 0 = c := ⟨_, rfl⟩
  obtain ⟨bl, hbl⟩ : ∃ bl, blE (.ok l) = .ok bl := ⟨_, rfl⟩
  have HBQ := Lib.hid hbl
  have HLA : Hid (∀ v W, StE r s v (.ok bl) W → Calls Tryz.prog 48 #[.pointer (some ⟨r, 0, none⟩)] W fun x w' => x = .returned (.int .u8 (c.toNat : Int)) ∧ Below W.heap.size W w') := Lib.hid fun v W hW => by
    have := HLK.out v _ W hW
    rw [show lkE (.ok bl) = c from by injection hbl with hbl; rw [← hbl]; exact hc] at this
    exact this
  rw [hc] at hbg
  have HB2 : Hid (∀ (W : World), Calls Tryz.prog 49 #[.int .u8 (c.toNat : Int)] W fun x w' => x = .returned (.bool true) ∧ W = w') := Lib.hid fun W => by
    have := HBG.out c W
    rw [hbg] at this
    exact this
  have tz : ((c.toNat : Int) != 0) = true := bne_iff_ne.2 fun e => by
    have : c = 0 := UInt8.toNat_inj.1 (by show _ = 0; omega)
    rw [this] at hbg; revert hbg; decide
  generalize (c.toNat : Int) = ci at *
  rcases HV0.out.own.2 with ⟨_, h2⟩ | ⟨g, cap, cur, rfl, _⟩
  · omega
  have tf : decide ((2048 : Int) ≤ (L.length : Int)) = true := decide_eq_true (by omega)
  clear h hv hown hbg hc hbl
  go_enter Tryz.func25, Tryz.ntmps25
  go_wp2_with fail
  refine (HBL.out _ _ _ HV0.out.st).mono ?_; rintro x w1 ⟨rfl, hst, hk⟩
  have HV1 := Lib.hid (HV0.out.rk hst hk)
  clear hst hk
  rw [HBQ.out] at HV1
  go_wp2_with fail
  refine (HLA.out _ _ HV1.out.st).mono ?_; rintro x w2 ⟨rfl, hb⟩
  have HV2 := Lib.hid (HV1.out.below hb)
  clear hb
  obtain ⟨c3, c2, f2⟩ := HV2.out.st.c3
  go_wp2_with fail
  refine (HB2.out _).mono ?_; rintro x w3 ⟨rfl, rfl⟩
  go_wp2_with fail
  refine (HFA.out 4 _ _ _ (by decide) HV2.out.st).mono ?_; rintro x w6 ⟨rfl, hst, hk⟩
  have HV6 : Hid (VS r s W _ _ L (.error 4) w6) := Lib.hid (HV2.out.rk hst hk)
  clear hst hk c3 c2 f2
  obtain ⟨c3, c2, f2⟩ := HV6.out.st.c3
  have c3' : w6.cell? ⟨r, 3, none⟩ = some (.int .i64 4) := c3
  clear c3
  go_wp2_with fail
  first | go_end0 | refine bodyPost_ret (results_none rfl _ _ _) rfl ?_
  exact ⟨rfl, by decide, _, HV6.out.st, HV6.out.vk⟩
end Go.Proofs.YtglhanblbojkhaaGreatDoor

set_option linter.unusedSimpArgs false
set_option linter.unusedVariables false
namespace Go.Proofs.YtglhanblbojkhaaGreatDoor
open Go.RowKit Go.Lib
theorem rvalue_step (d : Nat) (HRD : Hid (∀ (x : ByteArray) (W : World), x.size ≤ maxLen → Calls Tryz.prog 77 #[.string x] W fun e w' => e = .returned (.tuple #[.int .i64 (rdV x.data.toList), .int .i64 (rdE x.data.toList)]) ∧ W = w')) (hmany : ManySpec d) : ValSpec d := by
  intro r s name op v L l W hop h0 hs hv h hown hL
  cases hbg : begJ ((blJ l).headD 0) with
  | false => exact rvalue_end d r s name op v L l W hs hv h hown hL hbg
  | true =>
    by_cases hf : L.length = 2048
    · exact rvalue_full d r s name op v L l W hs hv h hown hL hbg hf
    cases hb : blJ l with
    | nil => rw [hb] at hbg; exact absurd hbg (by decide)
    | cons c rest =>
      rw [hb, List.headD_cons] at hbg
      unfold begJ at hbg
      simp only [Bool.or_eq_true, beq_iff_eq] at hbg
      rcases hbg with ((((((hc | hc) | hc) | hc) | hc) | hc) | hc) | hc
      · exact rvalue_nest_obj d r s name op v L l W hs hv h hown hL hf c rest hb hc hop h0 hmany
      · exact rvalue_nest_list d r s name op v L l W hs hv h hown hL hf c rest hb hc hop h0 hmany
      · exact rvalue_text d r s name op v L l W hs hv h hown hL hf c rest hb hc
      · exact rvalue_true d r s name op v L l W hs hv h hown hL hf c rest hb hc
      · exact rvalue_false d r s name op v L l W hs hv h hown hL hf c rest hb hc
      · exact rvalue_null d r s name op v L l W hs hv h hown hL hf c rest hb hc
      · exact rvalue_minus d r s name op v L l W hs hv h hown hL hf c rest hb hc HRD
      · exact rvalue_digit d r s name op v L l W hs hv h hown hL hf c rest hb hc HRD
theorem rvalue_any (HRD : Hid (∀ (x : ByteArray) (W : World), x.size ≤ maxLen → Calls Tryz.prog 77 #[.string x] W fun e w' => e = .returned (.tuple #[.int .i64 (rdV x.data.toList), .int .i64 (rdE x.data.toList)]) ∧ W = w')) : ∀ d : Nat, ValSpec d
  | 0 => rvalue_step 0 HRD (rmany_any 0 fun e h => by omega)
  | d + 1 => rvalue_step (d + 1) HRD (rmany_any (d + 1) fun e h => by
    have : e = d := by omega
    rw [this]
    exact rvalue_any HRD d)
end Go.Proofs.YtglhanblbojkhaaGreatDoor

set_option linter.unusedSimpArgs false
set_option linter.unusedVariables false
namespace Go.Proofs.YtglhanblbojkhaaGreatDoor
open Go.RowKit Go.Lib
/-- What Read tells: of any bytes. -/
def rdJ (l : List UInt8) : Except Int (List Cel) := if chkE l = 0 then readJ l else .error (chkE l)
def ReadE (B : Nat) (o : Except Int (List Cel)) (x : Ending) (W : World) : Prop := match o with
  | .error e => e ≠ 0 ∧ x = .returned (.tuple #[.slice none 0 0, .int .i64 e])
  | .ok out => out.length ≤ 2048 ∧ ∃ u, x = .returned (.tuple #[u, .int .i64 0]) ∧ OwnC B u out W
theorem chk_valid (l : List UInt8) (h : chkE l = 0) : l.length ≤ 16384 ∧ validD l = true := by
  unfold chkE at h
  split at h
  · cases h
  · split at h
    · exact ⟨by omega, by assumption⟩
    · cases h
set_option maxRecDepth 100000 in
theorem rread04_chk (s : ByteArray) (hs : s.size ≤ 17000) (hc : chkE s.data.toList ≠ 0) (w : World) :
    Calls Tryz.prog 9 #[.string s] w fun x w' => ReadE (w.heap.size + 1) (rdJ s.data.toList) x w' ∧ Below w.heap.size w w' := by
  have HC := Lib.hid (rcheck01_any s (by omega) w)
  unfold rdJ
  rw [if_neg hc]
  obtain ⟨e, he⟩ : ∃ e, chkE s.data.toList = e := ⟨_, rfl⟩
  rw [he] at hc HC ⊢
  have te : (e != 0) = true := bne_iff_ne.2 hc
  clear he
  go_enter Tryz.func9, Tryz.ntmps9
  go_wp2_with fail
  refine HC.out.mono ?_; rintro x w1 ⟨rfl, hb⟩
  have HB := Lib.hid hb
  clear hb
  go_wp2_with fail
  go_ret2
  exact ⟨⟨hc, rfl⟩, HB.out⟩
set_option maxRecDepth 100000 in
set_option maxHeartbeats 4000000 in
theorem rread04_go (s : ByteArray) (hs : s.size ≤ 17000) (hc : chkE s.data.toList = 0) (HRD : Hid (∀ (x : ByteArray) (W : World), x.size ≤ maxLen → Calls Tryz.prog 77 #[.string x] W fun e w' => e = .returned (.tuple #[.int .i64 (rdV x.data.toList), .int .i64 (rdE x.data.toList)]) ∧ W = w')) (w : World) :
    Calls Tryz.prog 9 #[.string s] w fun x w' => ReadE (w.heap.size + 1) (rdJ s.data.toList) x w' ∧ Below w.heap.size w w' := by
  obtain ⟨hl16, hvd⟩ := chk_valid _ hc
  have HC := Lib.hid (rcheck01_any s (by omega) w)
  unfold rdJ
  rw [if_pos hc]
  rw [hc] at HC
  have hs2 : s.size ≤ 20000 := by omega
  have hsz : s.data.toList.length = s.size := by rw [Array.length_toList]; rfl
  have HVD := Lib.hid hvd
  have HVA : Hid (∀ (r : Nat) (v : Value) (L : List Cel) (l : List UInt8) (W : World), validD l = true → StE r s v (.ok l) W → OwnC (r + 1) v L W → L.length ≤ 2048 → Calls Tryz.prog 25 #[.pointer (some ⟨r, 0, none⟩), .string ⟨#[]⟩, .int .i64 0] W fun x w' => x = .returned (.tuple #[]) ∧ ValE r s v (valJ 16 [] l L) W w') := Lib.hid fun r v L l W h1 h2 h3 h4 => rvalue_any HRD 16 r s ⟨#[]⟩ 0 v L l W (by decide) (by decide) hs2 h1 h2 h3 h4
  have HBL : Hid (∀ r v E W, StE r s v E W → Calls Tryz.prog 26 #[.pointer (some ⟨r, 0, none⟩)] W fun x w' => x = .returned (.tuple #[]) ∧ StE r s v (blE E) w' ∧ RK r W w') := Lib.hid fun r v E W hW => e_blanks r s v E hs2 W hW
  have HFA : Hid (∀ r v E W, StE r s v E W → Calls Tryz.prog 27 #[.pointer (some ⟨r, 0, none⟩), .int .i64 40] W fun x w' => x = .returned (.tuple #[]) ∧ StE r s v (failE 40 E) w' ∧ RK r W w') := Lib.hid fun r v E W hW => e_fail r s v E 40 (by decide) W hW
  obtain ⟨R, hR⟩ : ∃ R, readJ s.data.toList = R := ⟨_, rfl⟩
  have HR := Lib.hid hR
  rw [hR]
  clear hc hl16 hvd hR HRD
  go_enter Tryz.func9, Tryz.ntmps9
  go_wp2_with fail
  refine HC.out.mono ?_; rintro x w1 ⟨rfl, hb⟩
  have HB1 := Lib.hid hb
  have hb1s := hb.size
  have HST : Hid (StE w1.heap.size s (.slice none 0 0) (.ok s.data.toList) (w1.alloc (.cells #[.string s, .int .i64 0, .slice none 0 0, .int .i64 0] 54))) := Lib.hid ⟨0, Nat.zero_le _, List.drop_zero, heap_alloc_new w1 _⟩
  have HKA : Hid (VK w1.heap.size (.slice none 0 0) w1 (w1.alloc (.cells #[.string s, .int .i64 0, .slice none 0 0, .int .i64 0] 54))) := Lib.hid ⟨(Below.refl _ _).alloc (Nat.le_refl _) _, fun k o hk _ _ => heap_old hk⟩
  clear hb
  go_wp2_with fail
  refine (HVA.out _ _ [] _ _ HVD.out HST.out (OwnC.nil _ _) (by simp)).mono ?_; rintro x w2 ⟨rfl, hve⟩
  have HVE := Lib.hid hve
  clear hve
  -- what value told
  have HE : Hid (∃ (v : Value) (E : Ex), StE w1.heap.size s v E w2 ∧ VK w1.heap.size (.slice none 0 0) w1 w2 ∧ ((∃ e, e ≠ 0 ∧ E = .error e ∧ R = .error e) ∨ ∃ t out, E = .ok t ∧ out.length ≤ 2048 ∧ OwnC (w1.heap.size + 1) v out w2 ∧ R = if (blJ t).isEmpty then .ok out else .error 40)) := Lib.hid (by
    have hr := HR.out
    unfold readJ at hr
    have hve := HVE.out
    cases hv : valJ 16 [] s.data.toList [] with
    | error e =>
      rw [hv] at hr hve
      obtain ⟨h0, v', h1, h2⟩ := hve
      exact ⟨v', _, h1, HKA.out.trans h2 (fun k hk => by cases hk), Or.inl ⟨e, h0, rfl, hr.symm⟩⟩
    | ok y =>
      obtain ⟨t, out⟩ := y
      rw [hv] at hr hve
      obtain ⟨h0, v', h1⟩ := hve
      exact ⟨v', _, h1.st, HKA.out.trans h1.vk (fun k hk => by cases hk), Or.inr ⟨t, out, rfl, h0, h1.own, hr.symm⟩⟩)
  obtain ⟨v, E, hst, hvk, hcase⟩ := HE.out
  clear HVE HE
  go_wp2_with fail
  refine (HBL.out _ _ _ _ hst).mono ?_; rintro x w3 ⟨rfl, hst3, hk3⟩
  have HVK3 := Lib.hid (hvk.rk hk3)
  rcases hcase with ⟨e, he, rfl, rfl⟩ | ⟨t, out, rfl, hout, hown, hR⟩
  · have te : (e != 0) = true := bne_iff_ne.2 he
    obtain ⟨_, a, hal, hrd⟩ := hst3
    have HRD3 := Lib.hid hrd
    obtain ⟨c0, c1, c2, c3⟩ := hrd.cells
    clear hst hk3 hvk hrd
    by_cases hlt : a < s.size
    · have hlti : (a : Int) < (s.size : Int) := by omega
      go_wp2_with fail
      refine (HFA.out _ _ (.error e) _ ⟨he, a, hal, HRD3.out⟩).mono ?_; rintro x w4 ⟨rfl, hst4, hk4⟩
      have HST4 : Hid (StE w1.heap.size s v (.error e) w4) := Lib.hid hst4
      have HVK4 := Lib.hid (HVK3.out.rk hk4)
      clear c0 c1 c2 c3 hst4 hk4
      have c3 : w4.cell? ⟨w1.heap.size, 3, none⟩ = some (.int .i64 e) := HST4.out.c3.1
      go_wp2_with fail
      go_quiet (fail)
      go_wp2_with fail
      go_ret2
      exact ⟨⟨he, rfl⟩, below_dN _ (HB1.out.trans (HVK4.out.1.mono hb1s))⟩
    · have hlti : ¬ (a : Int) < (s.size : Int) := by omega
      go_wp2_with fail
      go_quiet (fail)
      go_wp2_with fail
      go_ret2
      exact ⟨⟨he, rfl⟩, below_dN _ (HB1.out.trans (HVK3.out.1.mono hb1s))⟩
  · obtain ⟨a, hal, hda, hrd⟩ := hst3
    have HRD3 := Lib.hid hrd
    obtain ⟨c0, c1, c2, c3⟩ := hrd.cells
    have HOW3 := Lib.hid (hown.rk hk3 (Nat.lt_succ_self _))
    have hdl := dl_len s a
    rw [hda] at hdl
    clear hst hk3 hvk hrd hown
    by_cases hlt : a < s.size
    · have hlti : (a : Int) < (s.size : Int) := by omega
      have HZ : Hid (R = .error 40) := Lib.hid (by
        rw [hR, if_neg]
        intro h
        rw [List.isEmpty_iff] at h
        rw [h] at hdl
        simp at hdl
        omega)
      clear hR hdl
      go_wp2_with fail
      refine (HFA.out _ _ (.ok (blJ t)) _ ⟨a, hal, hda, HRD3.out⟩).mono ?_; rintro x w4 ⟨rfl, hst4, hk4⟩
      have HST4 : Hid (StE w1.heap.size s v (.error 40) w4) := Lib.hid hst4
      have HVK4 := Lib.hid (HVK3.out.rk hk4)
      clear c0 c1 c2 c3 hst4 hk4
      have c3 : w4.cell? ⟨w1.heap.size, 3, none⟩ = some (.int .i64 40) := HST4.out.c3.1
      go_wp2_with fail
      go_quiet (fail)
      go_wp2_with fail
      go_ret2
      rw [HZ.out]
      exact ⟨⟨by decide, rfl⟩, below_dN _ (HB1.out.trans (HVK4.out.1.mono hb1s))⟩
    · have hlti : ¬ (a : Int) < (s.size : Int) := by omega
      have HZ : Hid (R = .ok out) := Lib.hid (by
        rw [hR, if_pos]
        rw [List.isEmpty_iff]
        exact List.eq_nil_of_length_eq_zero (by omega))
      clear hR hdl
      go_wp2_with fail
      go_ret2
      rw [HZ.out]
      refine ⟨⟨hout, v, rfl, ?_⟩, HB1.out.trans (HVK3.out.1.mono hb1s)⟩
      obtain ⟨h1, h2⟩ := HOW3.out
      refine ⟨h1, ?_⟩
      rcases h2 with h2 | ⟨g, cap, cur, hv, hB, hrest⟩
      · exact Or.inl h2
      · exact Or.inr ⟨g, cap, cur, hv, by omega, hrest⟩
theorem rread04_any (s : ByteArray) (hs : s.size ≤ 17000) (HRD : Hid (∀ (x : ByteArray) (W : World), x.size ≤ maxLen → Calls Tryz.prog 77 #[.string x] W fun e w' => e = .returned (.tuple #[.int .i64 (rdV x.data.toList), .int .i64 (rdE x.data.toList)]) ∧ W = w')) (w : World) :
    Calls Tryz.prog 9 #[.string s] w fun x w' => ReadE (w.heap.size + 1) (rdJ s.data.toList) x w' ∧ Below w.heap.size w w' := by
  by_cases hc : chkE s.data.toList = 0
  · exact rread04_go s hs hc HRD w
  · exact rread04_chk s hs hc w
end Go.Proofs.YtglhanblbojkhaaGreatDoor
