/- Walks and plain laws of this proof, joined from smaller texts (3). -/
import Derived.StillTailTactics
import Derived.Maps.OwnOps
import Derived.Maps.Views
import Derived.Maps.Keyed
import Derived.StringKeys
import Derived.Test.YtgclnjogoghhcaaGreatDoorK2
set_option linter.unusedSimpArgs false
set_option linter.unusedVariables false
namespace Go.Proofs.YtgclnjogoghhcaaGreatDoor
open Go.RowKit Go.Lib
theorem ixp (l : List UInt8) (m : UInt8 → Bool) (h : ∀ i : Fin 256, decide (0 ≤ Lib.indexByte l (UInt8.ofNat i.val)) = m (UInt8.ofNat i.val)) (c : UInt8) : decide (0 ≤ Lib.indexByte l c) = m c := by
  have := h ⟨c.toNat, UInt8.toNat_lt c⟩
  simpa only [UInt8.ofNat_toNat] using this
theorem p_point (p : Nat) (l : List UInt8) (v : Value) (op : Int) (hl : l.length ≤ 100000) (w : World) (h : PS p l v op w) :
    Calls Tryz.prog 99 #[.pointer (some ⟨p, 0, none⟩), .string ⟨#[46]⟩, .string ⟨#[]⟩] w fun x w' => x = .returned (.bool (pointJ l).isSome) ∧ PS p ((pointJ l).getD l) v op w' ∧ RK p w w' :=
  p_part p l ⟨#[46]⟩ ⟨#[]⟩ _ _ (ixp _ _ (by decide +kernel)) (ixp _ _ (by decide +kernel)) v op hl w h
theorem p_power (p : Nat) (l : List UInt8) (v : Value) (op : Int) (hl : l.length ≤ 100000) (w : World) (h : PS p l v op w) :
    Calls Tryz.prog 99 #[.pointer (some ⟨p, 0, none⟩), .string ⟨#[101, 69]⟩, .string ⟨#[43, 45]⟩] w fun x w' => x = .returned (.bool (powerJ l).isSome) ∧ PS p ((powerJ l).getD l) v op w' ∧ RK p w w' :=
  p_part p l ⟨#[101, 69]⟩ ⟨#[43, 45]⟩ _ _ (ixp _ _ (by decide +kernel)) (ixp _ _ (by decide +kernel)) v op hl w h
/-- The reader's state, behind a world that it began in. -/
structure VP (p : Nat) (w : World) (v0 v : Value) (out : List Cel) (l : List UInt8) (op : Int) (W : World) : Prop where
  st : PS p l v op W
  own : OwnC (p + 1) v out W
  vk : VK p v0 w W
  ob : ∀ k, v.ownBlock = some k → v0.ownBlock = some k ∨ w.heap.size ≤ k
section
variable {p : Nat} {w : World} {v0 v : Value} {out : List Cel} {l l' : List UInt8} {op op' : Int} {W W' : World}
theorem VP.size (h : VP p w v0 v out l op W) : w.heap.size ≤ W.heap.size := h.vk.1.size
theorem VP.rk (h : VP p w v0 v out l op W) (hs : PS p l' v op' W') (hk : RK p W W') : VP p w v0 v out l' op' W' := ⟨hs, h.own.rk hk (Nat.lt_succ_self p), h.vk.rk hk, h.ob⟩
theorem VP.below (h : VP p w v0 v out l op W) (hb : Below W.heap.size W W') : VP p w v0 v out l op W' := h.rk (h.st.below hb) (RK.of_below hb h.st.lt)
theorem VP.alloc (h : VP p w v0 v out l op W) (o : Obj) : VP p w v0 v out l op (W.alloc o) := h.below ((Below.refl W.heap.size W).alloc (Nat.le_refl _) _)
theorem VP.drewN (h : VP p w v0 v out l op W) (n : Nat) : VP p w v0 v out l op (W.drewN n) := h.below (below_dN n (Below.refl _ _))
theorem PS.out_ (h : PS p l v op W) (v' : Value) : PS p l v' op (W.setCell ⟨p, 1, none⟩ v') := by
  obtain ⟨b, h1, h2⟩ := h; exact ⟨b, h1, h2.out_ v'⟩
theorem PS.open_ (h : PS p l v op W) (a : Int) : PS p l v a (W.setCell ⟨p, 2, none⟩ (.int .i64 a)) := by
  obtain ⟨b, h1, h2⟩ := h; exact ⟨b, h1, h2.open_ a⟩
theorem PS.c12 (h : PS p l v op W) : W.cell? ⟨p, 1, none⟩ = some v ∧ W.cell? ⟨p, 2, none⟩ = some (.int .i64 op) ∧ W.frozen? ⟨p, 1, none⟩ = false ∧ W.frozen? ⟨p, 2, none⟩ = false := by
  obtain ⟨b, h1, h2⟩ := h; exact ⟨h2.cells.2.1, h2.cells.2.2, h2.frozen 1, h2.frozen 2⟩
theorem VP.grown {v' : Value} {out' : List Cel} {H : Nat} (h : VP p w v0 v out l op W) (ho : OwnC (p + 1) v' out' W') (hg : W.grownBy W' v.ownBlock) (hat : v'.ownBlock = v.ownBlock ∨ v'.ownBlock = some H) (hH : W.heap.size = H) : PS p l v op W' ∧ VP p w v0 v' out' l op (W'.setCell ⟨p, 1, none⟩ v') := by
  have hlt := h.st.lt
  have hne : some p ≠ v.ownBlock := fun e => by
    rcases own_some h.own with h0 | ⟨g, _, _, _, h0, h1, _⟩
    · rw [h0] at e; cases e
    · rw [h0] at e; injection e with e; omega
  have hst : PS p l v op W' := h.st.same (hg.block p hlt hne)
  have hvk : VK p v W W' := by
    refine ⟨(Below.refl p W).grown hg (Nat.le_of_lt hlt) (fun k hk => ?_), fun k o hk hne2 hv => ?_⟩
    · rcases own_some h.own with h0 | ⟨g, _, _, _, h0, h1, _⟩
      · rw [h0] at hk; cases hk
      · rw [h0] at hk; injection hk with hk; omega
    · rw [hg.block k (heap_lt hk) (fun e => hv e.symm)]; exact hk
  refine ⟨hst, hst.out_ v', ho.rk (RK.set p 1 _ _) (Nat.lt_succ_self p), (h.vk.trans hvk h.ob).rk (RK.set p 1 _ _), fun k hk => ?_⟩
  rcases hat with e | e
  · exact h.ob k (e ▸ hk)
  · rw [e] at hk; injection hk with hk
    have := h.size
    rw [hH] at this
    exact Or.inr (by omega)
theorem VP.set {g i m cap : Nat} {u : Value} {out' : List Cel} (h : VP p w v0 v out l op W) (hv : v = .slice (some ⟨g, 0, none⟩) m cap) (hr : p < g) (hl : out'.length = out.length) (hf : celFlat out' = (celFlat out).set i u) : VP p w v0 v out' l op (W.setCell ⟨g, i, none⟩ u) := by
  refine ⟨h.st.same ?_, h.own.set hv hl hf, h.vk.trans (VK.set hv hr) h.ob, h.ob⟩
  exact Below.heap_setCell _ _ _ _ (by show p ≠ g; omega)
end
/-- Where a value ends. -/
def VPE (p : Nat) (w : World) (v0 : Value) (op : Int) (o : Except Int (List UInt8 × List Cel)) (x : Ending) (W : World) : Prop := match o with
  | .error e => x = .panicked (stopL e) ∧ Below p w W
  | .ok (t, out') => x = .returned (.tuple #[]) ∧ out'.length ≤ 2048 ∧ ∃ v', VP p w v0 v' out' t op W
/-- A number, into the last cell. -/
def nuJ (l : List UInt8) (out : List Cel) : Except Int (List UInt8 × List Cel) := match numJ l with
  | .error e => .error e
  | .ok (n, t) => .ok (t, out.modify (out.length - 1) fun c => { c with num := n })
theorem num_cases (l d l2 : List UInt8) (hd : d = wholeJ (body l)) (hne : d ≠ []) (h2 : (body l).drop d.length = l2) (tt : List UInt8) (ht : tt = (if below l then [45] else []) ++ d) :
    numJ l = if (pointJ l2).isSome || (powerJ ((pointJ l2).getD l2)).isSome || rdE tt != 0 then .error 41 else .ok (rdV tt, (powerJ ((pointJ l2).getD l2)).getD ((pointJ l2).getD l2)) := by
  unfold numJ
  simp only [← hd]
  have : d.isEmpty = false := by cases d with | nil => exact absurd rfl hne | cons a b => rfl
  simp only [this, Bool.false_eq_true, if_false, h2, ← ht]
theorem drop_take (l : List UInt8) (p : UInt8 → Bool) : l.drop (l.takeWhile p).length = l.dropWhile p := by
  conv => lhs; arg 2; rw [← List.takeWhile_append_dropWhile (p := p) (l := l)]
  exact List.drop_left
theorem tk_head (c : UInt8) (l : List UInt8) : tkJ [c] l = if l.head? = some c then some l.tail else none := by
  cases l with
  | nil => simp [tkJ]
  | cons b t =>
    unfold tkJ
    by_cases h : c = b
    · subst h; simp [List.isPrefixOf]
    · have hb : (c == b) = false := beq_eq_false_iff_ne.2 h
      simp [List.isPrefixOf, hb, Ne.symm h]
theorem body_tk (l : List UInt8) : (tkJ [45] l).getD l = body l ∧ (tkJ [45] l).isSome = below l := by
  rw [tk_head]
  cases l with
  | nil => exact ⟨rfl, rfl⟩
  | cons b t =>
    unfold body below
    by_cases h : b = 45
    · subst h; simp
    · have hb : (b == 45) = false := beq_eq_false_iff_ne.2 h
      simp [h, hb]
set_option maxRecDepth 100000 in
set_option maxHeartbeats 4000000 in
theorem p_number_neg_zero (p : Nat) (v : Value) (op : Int) (l : List UInt8) (out : List Cel) (hl : l.length ≤ 20000) (hout : out.length ≤ 2048) (ho1 : 0 < out.length) (w : World) (h : PS p l v op w) (hown : OwnC (p + 1) v out w) (hEV : ∀ W, VK p v w W → Env W) (hneg : below l = true) (hz : (body l).head? = some 48) :
    Calls Tryz.prog 93 #[.pointer (some ⟨p, 0, none⟩)] w (VPE p w v op (nuJ l out)) := by
  have HV0 : Hid (VP p w v v out l op w) := Lib.hid ⟨h, hown, VK.refl _ _ _, fun k hk => Or.inl hk⟩
  have hbl : below l = true := hneg
  have HI1B : Hid (Calls Tryz.prog 94 #[.pointer (some ⟨p, 0, none⟩), .string ⟨#[45]⟩] w fun x w' => x = .returned (.bool true) ∧ PS p (body l) v op w' ∧ RK p w w') := Lib.hid (by
    have := p_is p l ⟨#[45]⟩ v op w h
    rw [show (⟨#[45]⟩ : ByteArray).data.toList = [45] from rfl, (body_tk l).1, (body_tk l).2, hbl] at this
    exact this)
  have hlb : (body l).length ≤ 20000 := Nat.le_trans (cut_body l).1 hl
  have HI0B : Hid (∀ W, PS p (body l) v op W → Calls Tryz.prog 94 #[.pointer (some ⟨p, 0, none⟩), .string ⟨#[48]⟩] W fun x w' => x = .returned (.bool true) ∧ PS p (body l).tail v op w' ∧ RK p W w') := Lib.hid fun W hW => by
    have := p_is p (body l) ⟨#[48]⟩ v op W hW
    rw [show (⟨#[48]⟩ : ByteArray).data.toList = [48] from rfl, tk_head, if_pos hz] at this
    exact this
  have HNU0 := num_cases l [48] (body l).tail (by unfold wholeJ; rw [if_pos (by rw [hz]; rfl)]) (by simp) (by cases hb : body l with | nil => rw [hb] at hz; cases hz | cons a b => rfl) ([45] ++ [48]) (by rw [hbl]; rfl)
  obtain ⟨l2, hl2e⟩ : ∃ l2, (body l).tail = l2 := ⟨_, rfl⟩
  have hl2 : l2.length ≤ 100000 := by rw [← hl2e, List.length_tail]; omega
  rw [hl2e] at HNU0 HI0B
  have HEV : Hid (∀ W, VK p v w W → Env W) := Lib.hid fun W hW => hEV W hW
  have HNO : Hid (∀ (e : Int) W, Calls Tryz.prog 87 #[.int .i64 e] W fun x w' => x = .panicked (stopL e) ∧ W = w') := Lib.hid fun e W => p_no e W
  have HDG : Hid (∀ l W, l.length ≤ 100000 → PS p l v op W → Calls Tryz.prog 98 #[.pointer (some ⟨p, 0, none⟩)] W fun x w' => (∃ dd : ByteArray, x = .returned (.string dd) ∧ dd.data.toList = l.takeWhile isDig) ∧ PS p (l.dropWhile isDig) v op w' ∧ RK p W w') := Lib.hid fun l W hl hW => p_digits p l v op hl W hW
  have HPO : Hid (∀ l W, l.length ≤ 100000 → PS p l v op W → Calls Tryz.prog 99 #[.pointer (some ⟨p, 0, none⟩), .string ⟨#[46]⟩, .string ⟨#[]⟩] W fun x w' => x = .returned (.bool (pointJ l).isSome) ∧ PS p ((pointJ l).getD l) v op w' ∧ RK p W w') := Lib.hid fun l W hl hW => p_point p l v op hl W hW
  have HPW : Hid (∀ l W, l.length ≤ 100000 → PS p l v op W → Calls Tryz.prog 99 #[.pointer (some ⟨p, 0, none⟩), .string ⟨#[101, 69]⟩, .string ⟨#[43, 45]⟩] W fun x w' => x = .returned (.bool (powerJ l).isSome) ∧ PS p ((powerJ l).getD l) v op w' ∧ RK p W w') := Lib.hid fun l W hl hW => p_power p l v op hl W hW
  have HI1 := Lib.hid (fun l W (hW : PS p l v op W) => p_is p l ⟨#[45]⟩ v op W hW)
  have HI0 := Lib.hid (fun l W (hW : PS p l v op W) => p_is p l ⟨#[48]⟩ v op W hW)
  have HRE := Lib.hid (fun (s : ByteArray) (W : World) (hs : s.size ≤ 281474976710656) (he : Env W) => read_any s hs W he)
  clear h hown hneg hbl hz hl2e hEV
  go_enter Tryz.func93, Tryz.ntmps93
  go_wp2_with fail
  refine HI1B.out.mono ?_; rintro x w1 ⟨rfl, hst, hk⟩
  have HV1 := Lib.hid (HV0.out.rk hst hk)
  clear hst hk
  go_wp2_with fail
  refine (HI0B.out _ HV1.out.st).mono ?_; rintro x w2 ⟨rfl, hst, hk⟩
  have HV2 := Lib.hid (HV1.out.rk hst hk)
  clear hst hk
  go_wp2_with fail
  have HVN := HV2
  obtain ⟨tt, htt⟩ : ∃ tt, [45] ++ ([48] : List UInt8) = tt := ⟨_, rfl⟩
  rw [htt] at HNU0
  have HNU := Lib.hid HNU0
  have HTX : Hid (((⟨#[45]⟩ : ByteArray) ++ ⟨#[48]⟩).data.toList = tt) := Lib.hid (by rw [← htt]; simp)
  clear htt HNU0
  refine (HPO.out _ _ hl2 HVN.out.st).mono ?_; rintro x w4 ⟨rfl, hst, hk⟩
  have HV4 := Lib.hid (HVN.out.rk hst hk)
  clear hst hk
  have hl3 : ((pointJ l2).getD l2).length ≤ 100000 := Nat.le_trans (cut_point l2).1 hl2
  obtain ⟨l3, hl3e⟩ : ∃ l3, (pointJ l2).getD l2 = l3 := ⟨_, rfl⟩
  rw [hl3e] at HV4 hl3
  obtain ⟨b1, hb1⟩ : ∃ b1, (pointJ l2).isSome = b1 := ⟨_, rfl⟩
  rw [hb1]
  go_wp2_with fail
  refine (HPW.out _ _ hl3 HV4.out.st).mono ?_; rintro x w5 ⟨rfl, hst, hk⟩
  have HV5 := Lib.hid (HV4.out.rk hst hk)
  clear hst hk
  obtain ⟨l4, hl4e⟩ : ∃ l4, (powerJ l3).getD l3 = l4 := ⟨_, rfl⟩
  rw [hl4e] at HV5
  obtain ⟨b2, hb2⟩ : ∃ b2, (powerJ l3).isSome = b2 := ⟨_, rfl⟩
  rw [hb2]
  have HNJ : Hid (numJ l = if b1 || b2 || rdE tt != 0 then .error 41 else .ok (rdV tt, l4)) := Lib.hid (by rw [HNU.out, hb1, hl3e, hb2, hl4e])
  clear hb1 hb2 hl3e hl4e
  have HE5 : Hid (Env w5) := Lib.hid (HEV.out w5 HV5.out.vk)
  go_wp2_with fail
  refine (HRE.out _ _ ?hs HE5.out).mono ?_
  case hs => rw [ByteArray.size_append]; show 1 + 1 ≤ 281474976710656; omega
  rintro x w6 ⟨rfl, hb⟩
  have HV6 := Lib.hid (HV5.out.below hb)
  clear hb
  rw [HTX.out]
  obtain ⟨ev, hev⟩ : ∃ ev, rdE tt = ev := ⟨_, rfl⟩
  obtain ⟨nv, hnv⟩ : ∃ nv, rdV tt = nv := ⟨_, rfl⟩
  rw [hev, hnv] at HNJ ⊢
  clear hev hnv
  obtain ⟨bb, hbb⟩ : ∃ bb, (b1 || b2 || ev != 0) = bb := ⟨_, rfl⟩
  rw [hbb] at HNJ
  cases bb with
  | true =>
    have HZ : Hid (nuJ l out = .error 41) := Lib.hid (by unfold nuJ; rw [HNJ.out]; rfl)
    cases b1 with
    | true =>
      clear hbb
      go_wp2_with fail
      refine (HNO.out _ _).mono ?_; rintro x w7 ⟨rfl, rfl⟩
      go_wp2_with fail
      refine ⟨rfl, ?_⟩
      rw [HZ.out]
      exact ⟨rfl, HV6.out.vk.1⟩
    | false =>
      cases b2 with
      | true =>
        clear hbb
        go_wp2_with fail
        refine (HNO.out _ _).mono ?_; rintro x w7 ⟨rfl, rfl⟩
        go_wp2_with fail
        refine ⟨rfl, ?_⟩
        rw [HZ.out]
        exact ⟨rfl, HV6.out.vk.1⟩
      | false =>
        have te : (ev != 0) = true := by simpa using hbb
        clear hbb
        go_wp2_with fail
        refine (HNO.out _ _).mono ?_; rintro x w7 ⟨rfl, rfl⟩
        go_wp2_with fail
        refine ⟨rfl, ?_⟩
        rw [HZ.out]
        exact ⟨rfl, HV6.out.vk.1⟩
  | false =>
    simp only [Bool.or_eq_false_iff] at hbb
    obtain ⟨⟨rfl, rfl⟩, te⟩ := hbb
    have HZ : Hid (nuJ l out = .ok (l4, out.modify (out.length - 1) fun c => { c with num := nv })) := Lib.hid (by unfold nuJ; rw [HNJ.out]; rfl)
    have hkl : out.length - 1 < out.length := by omega
    obtain ⟨g, cap, hvg, hBg, hgl, hfz, ck0, ck2, ck3, ck4⟩ := HV6.out.own.form (out.length - 1) hkl
    obtain ⟨c1, c2, f1, f2⟩ := HV6.out.st.c12
    obtain ⟨m, hm⟩ : ∃ m, out.length - 1 = m := ⟨_, rfl⟩
    obtain ⟨n5, hn5⟩ : ∃ n5, out.length = n5 := ⟨_, rfl⟩
    have hm5 : n5 = m + 1 := by omega
    rw [hn5] at hvg
    rw [hm] at HZ
    have ck3' : w6.cell? ⟨g, m * 5 + 3, none⟩ = some (.int .i64 (out[out.length - 1]'hkl).num) := by rw [← hm]; exact ck3
    obtain ⟨q3, hq3⟩ : ∃ q3, (out[out.length - 1]'hkl).num = q3 := ⟨_, rfl⟩
    rw [hq3] at ck3'
    have h5a : (n5 : Int) - 1 = (m : Int) := by omega
    have h5b : (0 : Int) ≤ (m : Int) := by omega
    have h5c : (m : Int).toNat = m := by omega
    have h5d : m < n5 := by omega
    have h5e : (m : Int) < (n5 : Int) := by omega
    have h5w : IntKind.i64.wrap (m : Int) = (m : Int) := IntWalk.i64_in _ (by omega)
    have HV7 : Hid (VP p w v v (out.modify m fun c => { c with num := nv }) l4 op (w6.setCell ⟨g, m * 5 + 3, none⟩ (.int .i64 nv))) := Lib.hid (HV6.out.set hvg (by omega) (by rw [List.length_modify]) (celFlat_set3 _ _ _))
    have hol : (out.modify m fun c => { c with num := nv }).length ≤ 2048 := by rw [List.length_modify]; exact hout
    have hff := hfz (m * 5 + 3)
    clear ck0 ck2 ck3 ck4 hq3 hm hn5 hkl hm5
    subst hvg
    go_wp2_with fail
    refine wp_region_still_tail 13 (by kernel_rfl) (by kernel_rfl) ?_
    simp only [List.take_succ_cons, List.take_zero, List.drop_succ_cons, List.drop_zero]
    repeat (refine wpStill_step (fun K hK => ?_); go_simp; refine hK _ ?_; clear hK K)
    refine wpStill_nil ?_
    change wpList _ _ _ _ _ w6.drew
    go_wp2_with fail
    go_end0
    rw [HZ.out]
    exact ⟨rfl, hol, _, HV7.out.below ⟨rfl, rfl, rfl, Nat.le_refl _, fun _ _ => rfl⟩⟩
set_option maxRecDepth 100000 in
set_option maxHeartbeats 4000000 in
theorem p_number_neg_dig (p : Nat) (v : Value) (op : Int) (l : List UInt8) (out : List Cel) (hl : l.length ≤ 20000) (hout : out.length ≤ 2048) (ho1 : 0 < out.length) (w : World) (h : PS p l v op w) (hown : OwnC (p + 1) v out w) (hEV : ∀ W, VK p v w W → Env W) (hneg : below l = true) (hz : ¬ (body l).head? = some 48) (hd : (body l).takeWhile isDig ≠ []) :
    Calls Tryz.prog 93 #[.pointer (some ⟨p, 0, none⟩)] w (VPE p w v op (nuJ l out)) := by
  have HV0 : Hid (VP p w v v out l op w) := Lib.hid ⟨h, hown, VK.refl _ _ _, fun k hk => Or.inl hk⟩
  have hbl : below l = true := hneg
  have HI1B : Hid (Calls Tryz.prog 94 #[.pointer (some ⟨p, 0, none⟩), .string ⟨#[45]⟩] w fun x w' => x = .returned (.bool true) ∧ PS p (body l) v op w' ∧ RK p w w') := Lib.hid (by
    have := p_is p l ⟨#[45]⟩ v op w h
    rw [show (⟨#[45]⟩ : ByteArray).data.toList = [45] from rfl, (body_tk l).1, (body_tk l).2, hbl] at this
    exact this)
  have hlb : (body l).length ≤ 20000 := Nat.le_trans (cut_body l).1 hl
  have HI0B : Hid (∀ W, PS p (body l) v op W → Calls Tryz.prog 94 #[.pointer (some ⟨p, 0, none⟩), .string ⟨#[48]⟩] W fun x w' => x = .returned (.bool false) ∧ PS p (body l) v op w' ∧ RK p W w') := Lib.hid fun W hW => by
    have := p_is p (body l) ⟨#[48]⟩ v op W hW
    rw [show (⟨#[48]⟩ : ByteArray).data.toList = [48] from rfl, tk_head, if_neg hz] at this
    exact this
  have hwh : wholeJ (body l) = (body l).takeWhile isDig := by unfold wholeJ; rw [if_neg (by simpa using hz)]
  have hdne : (body l).takeWhile isDig ≠ [] := hd
  have HNU0 := num_cases l _ ((body l).dropWhile isDig) hwh.symm hdne (drop_take _ _) ([45] ++ (body l).takeWhile isDig) (by rw [hbl]; rfl)
  obtain ⟨l2, hl2e⟩ : ∃ l2, (body l).dropWhile isDig = l2 := ⟨_, rfl⟩
  have hl2 : l2.length ≤ 100000 := by
    rw [← hl2e]
    have := (cut_while isDig dig_ascii (body l)).1
    omega
  rw [hl2e] at HNU0
  have HEV : Hid (∀ W, VK p v w W → Env W) := Lib.hid fun W hW => hEV W hW
  have HNO : Hid (∀ (e : Int) W, Calls Tryz.prog 87 #[.int .i64 e] W fun x w' => x = .panicked (stopL e) ∧ W = w') := Lib.hid fun e W => p_no e W
  have HDG : Hid (∀ l W, l.length ≤ 100000 → PS p l v op W → Calls Tryz.prog 98 #[.pointer (some ⟨p, 0, none⟩)] W fun x w' => (∃ dd : ByteArray, x = .returned (.string dd) ∧ dd.data.toList = l.takeWhile isDig) ∧ PS p (l.dropWhile isDig) v op w' ∧ RK p W w') := Lib.hid fun l W hl hW => p_digits p l v op hl W hW
  have HPO : Hid (∀ l W, l.length ≤ 100000 → PS p l v op W → Calls Tryz.prog 99 #[.pointer (some ⟨p, 0, none⟩), .string ⟨#[46]⟩, .string ⟨#[]⟩] W fun x w' => x = .returned (.bool (pointJ l).isSome) ∧ PS p ((pointJ l).getD l) v op w' ∧ RK p W w') := Lib.hid fun l W hl hW => p_point p l v op hl W hW
  have HPW : Hid (∀ l W, l.length ≤ 100000 → PS p l v op W → Calls Tryz.prog 99 #[.pointer (some ⟨p, 0, none⟩), .string ⟨#[101, 69]⟩, .string ⟨#[43, 45]⟩] W fun x w' => x = .returned (.bool (powerJ l).isSome) ∧ PS p ((powerJ l).getD l) v op w' ∧ RK p W w') := Lib.hid fun l W hl hW => p_power p l v op hl W hW
  have HI1 := Lib.hid (fun l W (hW : PS p l v op W) => p_is p l ⟨#[45]⟩ v op W hW)
  have HI0 := Lib.hid (fun l W (hW : PS p l v op W) => p_is p l ⟨#[48]⟩ v op W hW)
  have HRE := Lib.hid (fun (s : ByteArray) (W : World) (hs : s.size ≤ 281474976710656) (he : Env W) => read_any s hs W he)
  clear h hown hneg hbl hz hEV
  go_enter Tryz.func93, Tryz.ntmps93
  go_wp2_with fail
  refine HI1B.out.mono ?_; rintro x w1 ⟨rfl, hst, hk⟩
  have HV1 := Lib.hid (HV0.out.rk hst hk)
  clear hst hk
  go_wp2_with fail
  refine (HI0B.out _ HV1.out.st).mono ?_; rintro x w2 ⟨rfl, hst, hk⟩
  have HV2 := Lib.hid (HV1.out.rk hst hk)
  clear hst hk
  go_wp2_with fail
  refine (HDG.out _ _ (by omega) HV2.out.st).mono ?_; rintro x w3 ⟨⟨d, rfl, hd⟩, hst, hk⟩
  have HV3 := Lib.hid (HV2.out.rk hst hk)
  clear hst hk
  rw [hl2e] at HV3
  have HVN := HV3
  rw [← hd] at hdne HNU0
  have hdt : ¬ d.toList = [] := by rw [ByteArray.toList_eq]; exact hdne
  have hde : d.toList.isEmpty = false := by
    cases h : d.toList with
    | nil => exact absurd h hdt
    | cons a b => rfl
  have hdb : (d.toList == []) = false := by rw [Bool.eq_false_iff]; intro h; exact hdt (by simpa using h)
  have hdsz : d.size ≤ 20000 := by
    have h1 := congrArg List.length hd
    rw [bsz] at h1
    have h2 := (List.takeWhile_sublist (p := isDig) (l := body l)).length_le
    omega
  obtain ⟨tt, htt⟩ : ∃ tt, [45] ++ d.data.toList = tt := ⟨_, rfl⟩
  rw [htt] at HNU0
  have HNU := Lib.hid HNU0
  have HTX : Hid (((⟨#[45]⟩ : ByteArray) ++ d).data.toList = tt) := Lib.hid (by rw [← htt]; simp)
  clear htt HNU0 hd hdne hl2e
  go_wp2_with fail
  refine (HPO.out _ _ hl2 HVN.out.st).mono ?_; rintro x w4 ⟨rfl, hst, hk⟩
  have HV4 := Lib.hid (HVN.out.rk hst hk)
  clear hst hk
  have hl3 : ((pointJ l2).getD l2).length ≤ 100000 := Nat.le_trans (cut_point l2).1 hl2
  obtain ⟨l3, hl3e⟩ : ∃ l3, (pointJ l2).getD l2 = l3 := ⟨_, rfl⟩
  rw [hl3e] at HV4 hl3
  obtain ⟨b1, hb1⟩ : ∃ b1, (pointJ l2).isSome = b1 := ⟨_, rfl⟩
  rw [hb1]
  go_wp2_with fail
  refine (HPW.out _ _ hl3 HV4.out.st).mono ?_; rintro x w5 ⟨rfl, hst, hk⟩
  have HV5 := Lib.hid (HV4.out.rk hst hk)
  clear hst hk
  obtain ⟨l4, hl4e⟩ : ∃ l4, (powerJ l3).getD l3 = l4 := ⟨_, rfl⟩
  rw [hl4e] at HV5
  obtain ⟨b2, hb2⟩ : ∃ b2, (powerJ l3).isSome = b2 := ⟨_, rfl⟩
  rw [hb2]
  have HNJ : Hid (numJ l = if b1 || b2 || rdE tt != 0 then .error 41 else .ok (rdV tt, l4)) := Lib.hid (by rw [HNU.out, hb1, hl3e, hb2, hl4e])
  clear hb1 hb2 hl3e hl4e
  have HE5 : Hid (Env w5) := Lib.hid (HEV.out w5 HV5.out.vk)
  go_wp2_with fail
  refine (HRE.out _ _ ?hs HE5.out).mono ?_
  case hs => rw [ByteArray.size_append]; show 1 + d.size ≤ 281474976710656; omega
  rintro x w6 ⟨rfl, hb⟩
  have HV6 := Lib.hid (HV5.out.below hb)
  clear hb
  rw [HTX.out]
  obtain ⟨ev, hev⟩ : ∃ ev, rdE tt = ev := ⟨_, rfl⟩
  obtain ⟨nv, hnv⟩ : ∃ nv, rdV tt = nv := ⟨_, rfl⟩
  rw [hev, hnv] at HNJ ⊢
  clear hev hnv
  obtain ⟨bb, hbb⟩ : ∃ bb, (b1 || b2 || ev != 0) = bb := ⟨_, rfl⟩
  rw [hbb] at HNJ
  cases bb with
  | true =>
    have HZ : Hid (nuJ l out = .error 41) := Lib.hid (by unfold nuJ; rw [HNJ.out]; rfl)
    cases b1 with
    | true =>
      clear hbb
      go_wp2_with fail
      refine (HNO.out _ _).mono ?_; rintro x w7 ⟨rfl, rfl⟩
      go_wp2_with fail
      refine ⟨rfl, ?_⟩
      rw [HZ.out]
      exact ⟨rfl, HV6.out.vk.1⟩
    | false =>
      cases b2 with
      | true =>
        clear hbb
        go_wp2_with fail
        refine (HNO.out _ _).mono ?_; rintro x w7 ⟨rfl, rfl⟩
        go_wp2_with fail
        refine ⟨rfl, ?_⟩
        rw [HZ.out]
        exact ⟨rfl, HV6.out.vk.1⟩
      | false =>
        have te : (ev != 0) = true := by simpa using hbb
        clear hbb
        go_wp2_with fail
        refine (HNO.out _ _).mono ?_; rintro x w7 ⟨rfl, rfl⟩
        go_wp2_with fail
        refine ⟨rfl, ?_⟩
        rw [HZ.out]
        exact ⟨rfl, HV6.out.vk.1⟩
  | false =>
    simp only [Bool.or_eq_false_iff] at hbb
    obtain ⟨⟨rfl, rfl⟩, te⟩ := hbb
    have HZ : Hid (nuJ l out = .ok (l4, out.modify (out.length - 1) fun c => { c with num := nv })) := Lib.hid (by unfold nuJ; rw [HNJ.out]; rfl)
    have hkl : out.length - 1 < out.length := by omega
    obtain ⟨g, cap, hvg, hBg, hgl, hfz, ck0, ck2, ck3, ck4⟩ := HV6.out.own.form (out.length - 1) hkl
    obtain ⟨c1, c2, f1, f2⟩ := HV6.out.st.c12
    obtain ⟨m, hm⟩ : ∃ m, out.length - 1 = m := ⟨_, rfl⟩
    obtain ⟨n5, hn5⟩ : ∃ n5, out.length = n5 := ⟨_, rfl⟩
    have hm5 : n5 = m + 1 := by omega
    rw [hn5] at hvg
    rw [hm] at HZ
    have ck3' : w6.cell? ⟨g, m * 5 + 3, none⟩ = some (.int .i64 (out[out.length - 1]'hkl).num) := by rw [← hm]; exact ck3
    obtain ⟨q3, hq3⟩ : ∃ q3, (out[out.length - 1]'hkl).num = q3 := ⟨_, rfl⟩
    rw [hq3] at ck3'
    have h5a : (n5 : Int) - 1 = (m : Int) := by omega
    have h5b : (0 : Int) ≤ (m : Int) := by omega
    have h5c : (m : Int).toNat = m := by omega
    have h5d : m < n5 := by omega
    have h5e : (m : Int) < (n5 : Int) := by omega
    have h5w : IntKind.i64.wrap (m : Int) = (m : Int) := IntWalk.i64_in _ (by omega)
    have HV7 : Hid (VP p w v v (out.modify m fun c => { c with num := nv }) l4 op (w6.setCell ⟨g, m * 5 + 3, none⟩ (.int .i64 nv))) := Lib.hid (HV6.out.set hvg (by omega) (by rw [List.length_modify]) (celFlat_set3 _ _ _))
    have hol : (out.modify m fun c => { c with num := nv }).length ≤ 2048 := by rw [List.length_modify]; exact hout
    have hff := hfz (m * 5 + 3)
    clear ck0 ck2 ck3 ck4 hq3 hm hn5 hkl hm5
    subst hvg
    go_wp2_with fail
    refine wp_region_still_tail 13 (by kernel_rfl) (by kernel_rfl) ?_
    simp only [List.take_succ_cons, List.take_zero, List.drop_succ_cons, List.drop_zero]
    repeat (refine wpStill_step (fun K hK => ?_); go_simp; refine hK _ ?_; clear hK K)
    refine wpStill_nil ?_
    change wpList _ _ _ _ _ w6.drew
    go_wp2_with fail
    go_end0
    rw [HZ.out]
    exact ⟨rfl, hol, _, HV7.out.below ⟨rfl, rfl, rfl, Nat.le_refl _, fun _ _ => rfl⟩⟩
set_option maxRecDepth 100000 in
set_option maxHeartbeats 4000000 in
theorem p_number_neg_bad (p : Nat) (v : Value) (op : Int) (l : List UInt8) (out : List Cel) (hl : l.length ≤ 20000) (hout : out.length ≤ 2048) (ho1 : 0 < out.length) (w : World) (h : PS p l v op w) (hown : OwnC (p + 1) v out w) (hEV : ∀ W, VK p v w W → Env W) (hneg : below l = true) (hz : ¬ (body l).head? = some 48) (hd0 : (body l).takeWhile isDig = []) :
    Calls Tryz.prog 93 #[.pointer (some ⟨p, 0, none⟩)] w (VPE p w v op (nuJ l out)) := by
  have HV0 : Hid (VP p w v v out l op w) := Lib.hid ⟨h, hown, VK.refl _ _ _, fun k hk => Or.inl hk⟩
  have hbl : below l = true := hneg
  have HI1B : Hid (Calls Tryz.prog 94 #[.pointer (some ⟨p, 0, none⟩), .string ⟨#[45]⟩] w fun x w' => x = .returned (.bool true) ∧ PS p (body l) v op w' ∧ RK p w w') := Lib.hid (by
    have := p_is p l ⟨#[45]⟩ v op w h
    rw [show (⟨#[45]⟩ : ByteArray).data.toList = [45] from rfl, (body_tk l).1, (body_tk l).2, hbl] at this
    exact this)
  have hlb : (body l).length ≤ 20000 := Nat.le_trans (cut_body l).1 hl
  have HI0B : Hid (∀ W, PS p (body l) v op W → Calls Tryz.prog 94 #[.pointer (some ⟨p, 0, none⟩), .string ⟨#[48]⟩] W fun x w' => x = .returned (.bool false) ∧ PS p (body l) v op w' ∧ RK p W w') := Lib.hid fun W hW => by
    have := p_is p (body l) ⟨#[48]⟩ v op W hW
    rw [show (⟨#[48]⟩ : ByteArray).data.toList = [48] from rfl, tk_head, if_neg hz] at this
    exact this
  have hwh : wholeJ (body l) = (body l).takeWhile isDig := by unfold wholeJ; rw [if_neg (by simpa using hz)]
  have HNO : Hid (∀ (e : Int) W, Calls Tryz.prog 87 #[.int .i64 e] W fun x w' => x = .panicked (stopL e) ∧ W = w') := Lib.hid fun e W => p_no e W
  have HDG : Hid (∀ l W, l.length ≤ 100000 → PS p l v op W → Calls Tryz.prog 98 #[.pointer (some ⟨p, 0, none⟩)] W fun x w' => (∃ dd : ByteArray, x = .returned (.string dd) ∧ dd.data.toList = l.takeWhile isDig) ∧ PS p (l.dropWhile isDig) v op w' ∧ RK p W w') := Lib.hid fun l W hl hW => p_digits p l v op hl W hW
  have HPO : Hid (∀ l W, l.length ≤ 100000 → PS p l v op W → Calls Tryz.prog 99 #[.pointer (some ⟨p, 0, none⟩), .string ⟨#[46]⟩, .string ⟨#[]⟩] W fun x w' => x = .returned (.bool (pointJ l).isSome) ∧ PS p ((pointJ l).getD l) v op w' ∧ RK p W w') := Lib.hid fun l W hl hW => p_point p l v op hl W hW
  have HPW : Hid (∀ l W, l.length ≤ 100000 → PS p l v op W → Calls Tryz.prog 99 #[.pointer (some ⟨p, 0, none⟩), .string ⟨#[101, 69]⟩, .string ⟨#[43, 45]⟩] W fun x w' => x = .returned (.bool (powerJ l).isSome) ∧ PS p ((powerJ l).getD l) v op w' ∧ RK p W w') := Lib.hid fun l W hl hW => p_power p l v op hl W hW
  have HI1 := Lib.hid (fun l W (hW : PS p l v op W) => p_is p l ⟨#[45]⟩ v op W hW)
  have HI0 := Lib.hid (fun l W (hW : PS p l v op W) => p_is p l ⟨#[48]⟩ v op W hW)
  have HRE := Lib.hid (fun (s : ByteArray) (W : World) (hs : s.size ≤ 281474976710656) (he : Env W) => read_any s hs W he)
  clear h hown hneg hbl hz hEV
  go_enter Tryz.func93, Tryz.ntmps93
  go_wp2_with fail
  refine HI1B.out.mono ?_; rintro x w1 ⟨rfl, hst, hk⟩
  have HV1 := Lib.hid (HV0.out.rk hst hk)
  clear hst hk
  go_wp2_with fail
  refine (HI0B.out _ HV1.out.st).mono ?_; rintro x w2 ⟨rfl, hst, hk⟩
  have HV2 := Lib.hid (HV1.out.rk hst hk)
  clear hst hk
  go_wp2_with fail
  refine (HDG.out _ _ (by omega) HV2.out.st).mono ?_; rintro x w3 ⟨⟨d, rfl, hd⟩, hst, hk⟩
  have HV3 := Lib.hid (HV2.out.rk hst hk)
  clear hst hk
  have hde : d = ByteArray.empty := by
    apply ByteArray.ext; apply Array.toList_inj.1; rw [hd]
    exact hd0
  subst hde
  have HZ : Hid (nuJ l out = .error 40) := Lib.hid (by
    unfold nuJ numJ
    simp [hwh, hd0])
  clear hd hwh hd0
  go_wp2_with fail
  refine (HNO.out _ _).mono ?_; rintro x w4 ⟨rfl, rfl⟩
  go_wp2_with fail
  refine ⟨rfl, ?_⟩
  rw [HZ.out]
  exact ⟨rfl, HV3.out.vk.1⟩
set_option maxRecDepth 100000 in
set_option maxHeartbeats 4000000 in
theorem p_number_pos_zero (p : Nat) (v : Value) (op : Int) (l : List UInt8) (out : List Cel) (hl : l.length ≤ 20000) (hout : out.length ≤ 2048) (ho1 : 0 < out.length) (w : World) (h : PS p l v op w) (hown : OwnC (p + 1) v out w) (hEV : ∀ W, VK p v w W → Env W) (hneg : below l = false) (hz : (body l).head? = some 48) :
    Calls Tryz.prog 93 #[.pointer (some ⟨p, 0, none⟩)] w (VPE p w v op (nuJ l out)) := by
  have HV0 : Hid (VP p w v v out l op w) := Lib.hid ⟨h, hown, VK.refl _ _ _, fun k hk => Or.inl hk⟩
  have hbl : below l = false := hneg
  have HI1B : Hid (Calls Tryz.prog 94 #[.pointer (some ⟨p, 0, none⟩), .string ⟨#[45]⟩] w fun x w' => x = .returned (.bool false) ∧ PS p (body l) v op w' ∧ RK p w w') := Lib.hid (by
    have := p_is p l ⟨#[45]⟩ v op w h
    rw [show (⟨#[45]⟩ : ByteArray).data.toList = [45] from rfl, (body_tk l).1, (body_tk l).2, hbl] at this
    exact this)
  have hlb : (body l).length ≤ 20000 := Nat.le_trans (cut_body l).1 hl
  have HI0B : Hid (∀ W, PS p (body l) v op W → Calls Tryz.prog 94 #[.pointer (some ⟨p, 0, none⟩), .string ⟨#[48]⟩] W fun x w' => x = .returned (.bool true) ∧ PS p (body l).tail v op w' ∧ RK p W w') := Lib.hid fun W hW => by
    have := p_is p (body l) ⟨#[48]⟩ v op W hW
    rw [show (⟨#[48]⟩ : ByteArray).data.toList = [48] from rfl, tk_head, if_pos hz] at this
    exact this
  have HNU0 := num_cases l [48] (body l).tail (by unfold wholeJ; rw [if_pos (by rw [hz]; rfl)]) (by simp) (by cases hb : body l with | nil => rw [hb] at hz; cases hz | cons a b => rfl) ([] ++ [48]) (by rw [hbl]; rfl)
  obtain ⟨l2, hl2e⟩ : ∃ l2, (body l).tail = l2 := ⟨_, rfl⟩
  have hl2 : l2.length ≤ 100000 := by rw [← hl2e, List.length_tail]; omega
  rw [hl2e] at HNU0 HI0B
  have HEV : Hid (∀ W, VK p v w W → Env W) := Lib.hid fun W hW => hEV W hW
  have HNO : Hid (∀ (e : Int) W, Calls Tryz.prog 87 #[.int .i64 e] W fun x w' => x = .panicked (stopL e) ∧ W = w') := Lib.hid fun e W => p_no e W
  have HDG : Hid (∀ l W, l.length ≤ 100000 → PS p l v op W → Calls Tryz.prog 98 #[.pointer (some ⟨p, 0, none⟩)] W fun x w' => (∃ dd : ByteArray, x = .returned (.string dd) ∧ dd.data.toList = l.takeWhile isDig) ∧ PS p (l.dropWhile isDig) v op w' ∧ RK p W w') := Lib.hid fun l W hl hW => p_digits p l v op hl W hW
  have HPO : Hid (∀ l W, l.length ≤ 100000 → PS p l v op W → Calls Tryz.prog 99 #[.pointer (some ⟨p, 0, none⟩), .string ⟨#[46]⟩, .string ⟨#[]⟩] W fun x w' => x = .returned (.bool (pointJ l).isSome) ∧ PS p ((pointJ l).getD l) v op w' ∧ RK p W w') := Lib.hid fun l W hl hW => p_point p l v op hl W hW
  have HPW : Hid (∀ l W, l.length ≤ 100000 → PS p l v op W → Calls Tryz.prog 99 #[.pointer (some ⟨p, 0, none⟩), .string ⟨#[101, 69]⟩, .string ⟨#[43, 45]⟩] W fun x w' => x = .returned (.bool (powerJ l).isSome) ∧ PS p ((powerJ l).getD l) v op w' ∧ RK p W w') := Lib.hid fun l W hl hW => p_power p l v op hl W hW
  have HI1 := Lib.hid (fun l W (hW : PS p l v op W) => p_is p l ⟨#[45]⟩ v op W hW)
  have HI0 := Lib.hid (fun l W (hW : PS p l v op W) => p_is p l ⟨#[48]⟩ v op W hW)
  have HRE := Lib.hid (fun (s : ByteArray) (W : World) (hs : s.size ≤ 281474976710656) (he : Env W) => read_any s hs W he)
  clear h hown hneg hbl hz hl2e hEV
  go_enter Tryz.func93, Tryz.ntmps93
  go_wp2_with fail
  refine HI1B.out.mono ?_; rintro x w1 ⟨rfl, hst, hk⟩
  have HV1 := Lib.hid (HV0.out.rk hst hk)
  clear hst hk
  go_wp2_with fail
  refine (HI0B.out _ HV1.out.st).mono ?_; rintro x w2 ⟨rfl, hst, hk⟩
  have HV2 := Lib.hid (HV1.out.rk hst hk)
  clear hst hk
  go_wp2_with fail
  have HVN := HV2
  obtain ⟨tt, htt⟩ : ∃ tt, [] ++ ([48] : List UInt8) = tt := ⟨_, rfl⟩
  rw [htt] at HNU0
  have HNU := Lib.hid HNU0
  have HTX : Hid (((⟨#[]⟩ : ByteArray) ++ ⟨#[48]⟩).data.toList = tt) := Lib.hid (by rw [← htt]; simp)
  clear htt HNU0
  refine (HPO.out _ _ hl2 HVN.out.st).mono ?_; rintro x w4 ⟨rfl, hst, hk⟩
  have HV4 := Lib.hid (HVN.out.rk hst hk)
  clear hst hk
  have hl3 : ((pointJ l2).getD l2).length ≤ 100000 := Nat.le_trans (cut_point l2).1 hl2
  obtain ⟨l3, hl3e⟩ : ∃ l3, (pointJ l2).getD l2 = l3 := ⟨_, rfl⟩
  rw [hl3e] at HV4 hl3
  obtain ⟨b1, hb1⟩ : ∃ b1, (pointJ l2).isSome = b1 := ⟨_, rfl⟩
  rw [hb1]
  go_wp2_with fail
  refine (HPW.out _ _ hl3 HV4.out.st).mono ?_; rintro x w5 ⟨rfl, hst, hk⟩
  have HV5 := Lib.hid (HV4.out.rk hst hk)
  clear hst hk
  obtain ⟨l4, hl4e⟩ : ∃ l4, (powerJ l3).getD l3 = l4 := ⟨_, rfl⟩
  rw [hl4e] at HV5
  obtain ⟨b2, hb2⟩ : ∃ b2, (powerJ l3).isSome = b2 := ⟨_, rfl⟩
  rw [hb2]
  have HNJ : Hid (numJ l = if b1 || b2 || rdE tt != 0 then .error 41 else .ok (rdV tt, l4)) := Lib.hid (by rw [HNU.out, hb1, hl3e, hb2, hl4e])
  clear hb1 hb2 hl3e hl4e
  have HE5 : Hid (Env w5) := Lib.hid (HEV.out w5 HV5.out.vk)
  go_wp2_with fail
  refine (HRE.out _ _ ?hs HE5.out).mono ?_
  case hs => rw [ByteArray.size_append]; show 0 + 1 ≤ 281474976710656; omega
  rintro x w6 ⟨rfl, hb⟩
  have HV6 := Lib.hid (HV5.out.below hb)
  clear hb
  rw [HTX.out]
  obtain ⟨ev, hev⟩ : ∃ ev, rdE tt = ev := ⟨_, rfl⟩
  obtain ⟨nv, hnv⟩ : ∃ nv, rdV tt = nv := ⟨_, rfl⟩
  rw [hev, hnv] at HNJ ⊢
  clear hev hnv
  obtain ⟨bb, hbb⟩ : ∃ bb, (b1 || b2 || ev != 0) = bb := ⟨_, rfl⟩
  rw [hbb] at HNJ
  cases bb with
  | true =>
    have HZ : Hid (nuJ l out = .error 41) := Lib.hid (by unfold nuJ; rw [HNJ.out]; rfl)
    cases b1 with
    | true =>
      clear hbb
      go_wp2_with fail
      refine (HNO.out _ _).mono ?_; rintro x w7 ⟨rfl, rfl⟩
      go_wp2_with fail
      refine ⟨rfl, ?_⟩
      rw [HZ.out]
      exact ⟨rfl, HV6.out.vk.1⟩
    | false =>
      cases b2 with
      | true =>
        clear hbb
        go_wp2_with fail
        refine (HNO.out _ _).mono ?_; rintro x w7 ⟨rfl, rfl⟩
        go_wp2_with fail
        refine ⟨rfl, ?_⟩
        rw [HZ.out]
        exact ⟨rfl, HV6.out.vk.1⟩
      | false =>
        have te : (ev != 0) = true := by simpa using hbb
        clear hbb
        go_wp2_with fail
        refine (HNO.out _ _).mono ?_; rintro x w7 ⟨rfl, rfl⟩
        go_wp2_with fail
        refine ⟨rfl, ?_⟩
        rw [HZ.out]
        exact ⟨rfl, HV6.out.vk.1⟩
  | false =>
    simp only [Bool.or_eq_false_iff] at hbb
    obtain ⟨⟨rfl, rfl⟩, te⟩ := hbb
    have HZ : Hid (nuJ l out = .ok (l4, out.modify (out.length - 1) fun c => { c with num := nv })) := Lib.hid (by unfold nuJ; rw [HNJ.out]; rfl)
    have hkl : out.length - 1 < out.length := by omega
    obtain ⟨g, cap, hvg, hBg, hgl, hfz, ck0, ck2, ck3, ck4⟩ := HV6.out.own.form (out.length - 1) hkl
    obtain ⟨c1, c2, f1, f2⟩ := HV6.out.st.c12
    obtain ⟨m, hm⟩ : ∃ m, out.length - 1 = m := ⟨_, rfl⟩
    obtain ⟨n5, hn5⟩ : ∃ n5, out.length = n5 := ⟨_, rfl⟩
    have hm5 : n5 = m + 1 := by omega
    rw [hn5] at hvg
    rw [hm] at HZ
    have ck3' : w6.cell? ⟨g, m * 5 + 3, none⟩ = some (.int .i64 (out[out.length - 1]'hkl).num) := by rw [← hm]; exact ck3
    obtain ⟨q3, hq3⟩ : ∃ q3, (out[out.length - 1]'hkl).num = q3 := ⟨_, rfl⟩
    rw [hq3] at ck3'
    have h5a : (n5 : Int) - 1 = (m : Int) := by omega
    have h5b : (0 : Int) ≤ (m : Int) := by omega
    have h5c : (m : Int).toNat = m := by omega
    have h5d : m < n5 := by omega
    have h5e : (m : Int) < (n5 : Int) := by omega
    have h5w : IntKind.i64.wrap (m : Int) = (m : Int) := IntWalk.i64_in _ (by omega)
    have HV7 : Hid (VP p w v v (out.modify m fun c => { c with num := nv }) l4 op (w6.setCell ⟨g, m * 5 + 3, none⟩ (.int .i64 nv))) := Lib.hid (HV6.out.set hvg (by omega) (by rw [List.length_modify]) (celFlat_set3 _ _ _))
    have hol : (out.modify m fun c => { c with num := nv }).length ≤ 2048 := by rw [List.length_modify]; exact hout
    have hff := hfz (m * 5 + 3)
    clear ck0 ck2 ck3 ck4 hq3 hm hn5 hkl hm5
    subst hvg
    go_wp2_with fail
    refine wp_region_still_tail 13 (by kernel_rfl) (by kernel_rfl) ?_
    simp only [List.take_succ_cons, List.take_zero, List.drop_succ_cons, List.drop_zero]
    repeat (refine wpStill_step (fun K hK => ?_); go_simp; refine hK _ ?_; clear hK K)
    refine wpStill_nil ?_
    change wpList _ _ _ _ _ w6.drew
    go_wp2_with fail
    go_end0
    rw [HZ.out]
    exact ⟨rfl, hol, _, HV7.out.below ⟨rfl, rfl, rfl, Nat.le_refl _, fun _ _ => rfl⟩⟩
set_option maxRecDepth 100000 in
set_option maxHeartbeats 4000000 in
theorem p_number_pos_dig (p : Nat) (v : Value) (op : Int) (l : List UInt8) (out : List Cel) (hl : l.length ≤ 20000) (hout : out.length ≤ 2048) (ho1 : 0 < out.length) (w : World) (h : PS p l v op w) (hown : OwnC (p + 1) v out w) (hEV : ∀ W, VK p v w W → Env W) (hneg : below l = false) (hz : ¬ (body l).head? = some 48) (hd : (body l).takeWhile isDig ≠ []) :
    Calls Tryz.prog 93 #[.pointer (some ⟨p, 0, none⟩)] w (VPE p w v op (nuJ l out)) := by
  have HV0 : Hid (VP p w v v out l op w) := Lib.hid ⟨h, hown, VK.refl _ _ _, fun k hk => Or.inl hk⟩
  have hbl : below l = false := hneg
  have HI1B : Hid (Calls Tryz.prog 94 #[.pointer (some ⟨p, 0, none⟩), .string ⟨#[45]⟩] w fun x w' => x = .returned (.bool false) ∧ PS p (body l) v op w' ∧ RK p w w') := Lib.hid (by
    have := p_is p l ⟨#[45]⟩ v op w h
    rw [show (⟨#[45]⟩ : ByteArray).data.toList = [45] from rfl, (body_tk l).1, (body_tk l).2, hbl] at this
    exact this)
  have hlb : (body l).length ≤ 20000 := Nat.le_trans (cut_body l).1 hl
  have HI0B : Hid (∀ W, PS p (body l) v op W → Calls Tryz.prog 94 #[.pointer (some ⟨p, 0, none⟩), .string ⟨#[48]⟩] W fun x w' => x = .returned (.bool false) ∧ PS p (body l) v op w' ∧ RK p W w') := Lib.hid fun W hW => by
    have := p_is p (body l) ⟨#[48]⟩ v op W hW
    rw [show (⟨#[48]⟩ : ByteArray).data.toList = [48] from rfl, tk_head, if_neg hz] at this
    exact this
  have hwh : wholeJ (body l) = (body l).takeWhile isDig := by unfold wholeJ; rw [if_neg (by simpa using hz)]
  have hdne : (body l).takeWhile isDig ≠ [] := hd
  have HNU0 := num_cases l _ ((body l).dropWhile isDig) hwh.symm hdne (drop_take _ _) ([] ++ (body l).takeWhile isDig) (by rw [hbl]; rfl)
  obtain ⟨l2, hl2e⟩ : ∃ l2, (body l).dropWhile isDig = l2 := ⟨_, rfl⟩
  have hl2 : l2.length ≤ 100000 := by
    rw [← hl2e]
    have := (cut_while isDig dig_ascii (body l)).1
    omega
  rw [hl2e] at HNU0
  have HEV : Hid (∀ W, VK p v w W → Env W) := Lib.hid fun W hW => hEV W hW
  have HNO : Hid (∀ (e : Int) W, Calls Tryz.prog 87 #[.int .i64 e] W fun x w' => x = .panicked (stopL e) ∧ W = w') := Lib.hid fun e W => p_no e W
  have HDG : Hid (∀ l W, l.length ≤ 100000 → PS p l v op W → Calls Tryz.prog 98 #[.pointer (some ⟨p, 0, none⟩)] W fun x w' => (∃ dd : ByteArray, x = .returned (.string dd) ∧ dd.data.toList = l.takeWhile isDig) ∧ PS p (l.dropWhile isDig) v op w' ∧ RK p W w') := Lib.hid fun l W hl hW => p_digits p l v op hl W hW
  have HPO : Hid (∀ l W, l.length ≤ 100000 → PS p l v op W → Calls Tryz.prog 99 #[.pointer (some ⟨p, 0, none⟩), .string ⟨#[46]⟩, .string ⟨#[]⟩] W fun x w' => x = .returned (.bool (pointJ l).isSome) ∧ PS p ((pointJ l).getD l) v op w' ∧ RK p W w') := Lib.hid fun l W hl hW => p_point p l v op hl W hW
  have HPW : Hid (∀ l W, l.length ≤ 100000 → PS p l v op W → Calls Tryz.prog 99 #[.pointer (some ⟨p, 0, none⟩), .string ⟨#[101, 69]⟩, .string ⟨#[43, 45]⟩] W fun x w' => x = .returned (.bool (powerJ l).isSome) ∧ PS p ((powerJ l).getD l) v op w' ∧ RK p W w') := Lib.hid fun l W hl hW => p_power p l v op hl W hW
  have HI1 := Lib.hid (fun l W (hW : PS p l v op W) => p_is p l ⟨#[45]⟩ v op W hW)
  have HI0 := Lib.hid (fun l W (hW : PS p l v op W) => p_is p l ⟨#[48]⟩ v op W hW)
  have HRE := Lib.hid (fun (s : ByteArray) (W : World) (hs : s.size ≤ 281474976710656) (he : Env W) => read_any s hs W he)
  clear h hown hneg hbl hz hEV
  go_enter Tryz.func93, Tryz.ntmps93
  go_wp2_with fail
  refine HI1B.out.mono ?_; rintro x w1 ⟨rfl, hst, hk⟩
  have HV1 := Lib.hid (HV0.out.rk hst hk)
  clear hst hk
  go_wp2_with fail
  refine (HI0B.out _ HV1.out.st).mono ?_; rintro x w2 ⟨rfl, hst, hk⟩
  have HV2 := Lib.hid (HV1.out.rk hst hk)
  clear hst hk
  go_wp2_with fail
  refine (HDG.out _ _ (by omega) HV2.out.st).mono ?_; rintro x w3 ⟨⟨d, rfl, hd⟩, hst, hk⟩
  have HV3 := Lib.hid (HV2.out.rk hst hk)
  clear hst hk
  rw [hl2e] at HV3
  have HVN := HV3
  rw [← hd] at hdne HNU0
  have hdt : ¬ d.toList = [] := by rw [ByteArray.toList_eq]; exact hdne
  have hde : d.toList.isEmpty = false := by
    cases h : d.toList with
    | nil => exact absurd h hdt
    | cons a b => rfl
  have hdb : (d.toList == []) = false := by rw [Bool.eq_false_iff]; intro h; exact hdt (by simpa using h)
  have hdsz : d.size ≤ 20000 := by
    have h1 := congrArg List.length hd
    rw [bsz] at h1
    have h2 := (List.takeWhile_sublist (p := isDig) (l := body l)).length_le
    omega
  obtain ⟨tt, htt⟩ : ∃ tt, [] ++ d.data.toList = tt := ⟨_, rfl⟩
  rw [htt] at HNU0
  have HNU := Lib.hid HNU0
  have HTX : Hid (((⟨#[]⟩ : ByteArray) ++ d).data.toList = tt) := Lib.hid (by rw [← htt]; simp)
  clear htt HNU0 hd hdne hl2e
  go_wp2_with fail
  refine (HPO.out _ _ hl2 HVN.out.st).mono ?_; rintro x w4 ⟨rfl, hst, hk⟩
  have HV4 := Lib.hid (HVN.out.rk hst hk)
  clear hst hk
  have hl3 : ((pointJ l2).getD l2).length ≤ 100000 := Nat.le_trans (cut_point l2).1 hl2
  obtain ⟨l3, hl3e⟩ : ∃ l3, (pointJ l2).getD l2 = l3 := ⟨_, rfl⟩
  rw [hl3e] at HV4 hl3
  obtain ⟨b1, hb1⟩ : ∃ b1, (pointJ l2).isSome = b1 := ⟨_, rfl⟩
  rw [hb1]
  go_wp2_with fail
  refine (HPW.out _ _ hl3 HV4.out.st).mono ?_; rintro x w5 ⟨rfl, hst, hk⟩
  have HV5 := Lib.hid (HV4.out.rk hst hk)
  clear hst hk
  obtain ⟨l4, hl4e⟩ : ∃ l4, (powerJ l3).getD l3 = l4 := ⟨_, rfl⟩
  rw [hl4e] at HV5
  obtain ⟨b2, hb2⟩ : ∃ b2, (powerJ l3).isSome = b2 := ⟨_, rfl⟩
  rw [hb2]
  have HNJ : Hid (numJ l = if b1 || b2 || rdE tt != 0 then .error 41 else .ok (rdV tt, l4)) := Lib.hid (by rw [HNU.out, hb1, hl3e, hb2, hl4e])
  clear hb1 hb2 hl3e hl4e
  have HE5 : Hid (Env w5) := Lib.hid (HEV.out w5 HV5.out.vk)
  go_wp2_with fail
  refine (HRE.out _ _ ?hs HE5.out).mono ?_
  case hs => rw [ByteArray.size_append]; show 0 + d.size ≤ 281474976710656; omega
  rintro x w6 ⟨rfl, hb⟩
  have HV6 := Lib.hid (HV5.out.below hb)
  clear hb
  rw [HTX.out]
  obtain ⟨ev, hev⟩ : ∃ ev, rdE tt = ev := ⟨_, rfl⟩
  obtain ⟨nv, hnv⟩ : ∃ nv, rdV tt = nv := ⟨_, rfl⟩
  rw [hev, hnv] at HNJ ⊢
  clear hev hnv
  obtain ⟨bb, hbb⟩ : ∃ bb, (b1 || b2 || ev != 0) = bb := ⟨_, rfl⟩
  rw [hbb] at HNJ
  cases bb with
  | true =>
    have HZ : Hid (nuJ l out = .error 41) := Lib.hid (by unfold nuJ; rw [HNJ.out]; rfl)
    cases b1 with
    | true =>
      clear hbb
      go_wp2_with fail
      refine (HNO.out _ _).mono ?_; rintro x w7 ⟨rfl, rfl⟩
      go_wp2_with fail
      refine ⟨rfl, ?_⟩
      rw [HZ.out]
      exact ⟨rfl, HV6.out.vk.1⟩
    | false =>
      cases b2 with
      | true =>
        clear hbb
        go_wp2_with fail
        refine (HNO.out _ _).mono ?_; rintro x w7 ⟨rfl, rfl⟩
        go_wp2_with fail
        refine ⟨rfl, ?_⟩
        rw [HZ.out]
        exact ⟨rfl, HV6.out.vk.1⟩
      | false =>
        have te : (ev != 0) = true := by simpa using hbb
        clear hbb
        go_wp2_with fail
        refine (HNO.out _ _).mono ?_; rintro x w7 ⟨rfl, rfl⟩
        go_wp2_with fail
        refine ⟨rfl, ?_⟩
        rw [HZ.out]
        exact ⟨rfl, HV6.out.vk.1⟩
  | false =>
    simp only [Bool.or_eq_false_iff] at hbb
    obtain ⟨⟨rfl, rfl⟩, te⟩ := hbb
    have HZ : Hid (nuJ l out = .ok (l4, out.modify (out.length - 1) fun c => { c with num := nv })) := Lib.hid (by unfold nuJ; rw [HNJ.out]; rfl)
    have hkl : out.length - 1 < out.length := by omega
    obtain ⟨g, cap, hvg, hBg, hgl, hfz, ck0, ck2, ck3, ck4⟩ := HV6.out.own.form (out.length - 1) hkl
    obtain ⟨c1, c2, f1, f2⟩ := HV6.out.st.c12
    obtain ⟨m, hm⟩ : ∃ m, out.length - 1 = m := ⟨_, rfl⟩
    obtain ⟨n5, hn5⟩ : ∃ n5, out.length = n5 := ⟨_, rfl⟩
    have hm5 : n5 = m + 1 := by omega
    rw [hn5] at hvg
    rw [hm] at HZ
    have ck3' : w6.cell? ⟨g, m * 5 + 3, none⟩ = some (.int .i64 (out[out.length - 1]'hkl).num) := by rw [← hm]; exact ck3
    obtain ⟨q3, hq3⟩ : ∃ q3, (out[out.length - 1]'hkl).num = q3 := ⟨_, rfl⟩
    rw [hq3] at ck3'
    have h5a : (n5 : Int) - 1 = (m : Int) := by omega
    have h5b : (0 : Int) ≤ (m : Int) := by omega
    have h5c : (m : Int).toNat = m := by omega
    have h5d : m < n5 := by omega
    have h5e : (m : Int) < (n5 : Int) := by omega
    have h5w : IntKind.i64.wrap (m : Int) = (m : Int) := IntWalk.i64_in _ (by omega)
    have HV7 : Hid (VP p w v v (out.modify m fun c => { c with num := nv }) l4 op (w6.setCell ⟨g, m * 5 + 3, none⟩ (.int .i64 nv))) := Lib.hid (HV6.out.set hvg (by omega) (by rw [List.length_modify]) (celFlat_set3 _ _ _))
    have hol : (out.modify m fun c => { c with num := nv }).length ≤ 2048 := by rw [List.length_modify]; exact hout
    have hff := hfz (m * 5 + 3)
    clear ck0 ck2 ck3 ck4 hq3 hm hn5 hkl hm5
    subst hvg
    go_wp2_with fail
    refine wp_region_still_tail 13 (by kernel_rfl) (by kernel_rfl) ?_
    simp only [List.take_succ_cons, List.take_zero, List.drop_succ_cons, List.drop_zero]
    repeat (refine wpStill_step (fun K hK => ?_); go_simp; refine hK _ ?_; clear hK K)
    refine wpStill_nil ?_
    change wpList _ _ _ _ _ w6.drew
    go_wp2_with fail
    go_end0
    rw [HZ.out]
    exact ⟨rfl, hol, _, HV7.out.below ⟨rfl, rfl, rfl, Nat.le_refl _, fun _ _ => rfl⟩⟩
set_option maxRecDepth 100000 in
set_option maxHeartbeats 4000000 in
theorem p_number_pos_bad (p : Nat) (v : Value) (op : Int) (l : List UInt8) (out : List Cel) (hl : l.length ≤ 20000) (hout : out.length ≤ 2048) (ho1 : 0 < out.length) (w : World) (h : PS p l v op w) (hown : OwnC (p + 1) v out w) (hEV : ∀ W, VK p v w W → Env W) (hneg : below l = false) (hz : ¬ (body l).head? = some 48) (hd0 : (body l).takeWhile isDig = []) :
    Calls Tryz.prog 93 #[.pointer (some ⟨p, 0, none⟩)] w (VPE p w v op (nuJ l out)) := by
  have HV0 : Hid (VP p w v v out l op w) := Lib.hid ⟨h, hown, VK.refl _ _ _, fun k hk => Or.inl hk⟩
  have hbl : below l = false := hneg
  have HI1B : Hid (Calls Tryz.prog 94 #[.pointer (some ⟨p, 0, none⟩), .string ⟨#[45]⟩] w fun x w' => x = .returned (.bool false) ∧ PS p (body l) v op w' ∧ RK p w w') := Lib.hid (by
    have := p_is p l ⟨#[45]⟩ v op w h
    rw [show (⟨#[45]⟩ : ByteArray).data.toList = [45] from rfl, (body_tk l).1, (body_tk l).2, hbl] at this
    exact this)
  have hlb : (body l).length ≤ 20000 := Nat.le_trans (cut_body l).1 hl
  have HI0B : Hid (∀ W, PS p (body l) v op W → Calls Tryz.prog 94 #[.pointer (some ⟨p, 0, none⟩), .string ⟨#[48]⟩] W fun x w' => x = .returned (.bool false) ∧ PS p (body l) v op w' ∧ RK p W w') := Lib.hid fun W hW => by
    have := p_is p (body l) ⟨#[48]⟩ v op W hW
    rw [show (⟨#[48]⟩ : ByteArray).data.toList = [48] from rfl, tk_head, if_neg hz] at this
    exact this
  have hwh : wholeJ (body l) = (body l).takeWhile isDig := by unfold wholeJ; rw [if_neg (by simpa using hz)]
  have HNO : Hid (∀ (e : Int) W, Calls Tryz.prog 87 #[.int .i64 e] W fun x w' => x = .panicked (stopL e) ∧ W = w') := Lib.hid fun e W => p_no e W
  have HDG : Hid (∀ l W, l.length ≤ 100000 → PS p l v op W → Calls Tryz.prog 98 #[.pointer (some ⟨p, 0, none⟩)] W fun x w' => (∃ dd : ByteArray, x = .returned (.string dd) ∧ dd.data.toList = l.takeWhile isDig) ∧ PS p (l.dropWhile isDig) v op w' ∧ RK p W w') := Lib.hid fun l W hl hW => p_digits p l v op hl W hW
  have HPO : Hid (∀ l W, l.length ≤ 100000 → PS p l v op W → Calls Tryz.prog 99 #[.pointer (some ⟨p, 0, none⟩), .string ⟨#[46]⟩, .string ⟨#[]⟩] W fun x w' => x = .returned (.bool (pointJ l).isSome) ∧ PS p ((pointJ l).getD l) v op w' ∧ RK p W w') := Lib.hid fun l W hl hW => p_point p l v op hl W hW
  have HPW : Hid (∀ l W, l.length ≤ 100000 → PS p l v op W → Calls Tryz.prog 99 #[.pointer (some ⟨p, 0, none⟩), .string ⟨#[101, 69]⟩, .string ⟨#[43, 45]⟩] W fun x w' => x = .returned (.bool (powerJ l).isSome) ∧ PS p ((powerJ l).getD l) v op w' ∧ RK p W w') := Lib.hid fun l W hl hW => p_power p l v op hl W hW
  have HI1 := Lib.hid (fun l W (hW : PS p l v op W) => p_is p l ⟨#[45]⟩ v op W hW)
  have HI0 := Lib.hid (fun l W (hW : PS p l v op W) => p_is p l ⟨#[48]⟩ v op W hW)
  have HRE := Lib.hid (fun (s : ByteArray) (W : World) (hs : s.size ≤ 281474976710656) (he : Env W) => read_any s hs W he)
  clear h hown hneg hbl hz hEV
  go_enter Tryz.func93, Tryz.ntmps93
  go_wp2_with fail
  refine HI1B.out.mono ?_; rintro x w1 ⟨rfl, hst, hk⟩
  have HV1 := Lib.hid (HV0.out.rk hst hk)
  clear hst hk
  go_wp2_with fail
  refine (HI0B.out _ HV1.out.st).mono ?_; rintro x w2 ⟨rfl, hst, hk⟩
  have HV2 := Lib.hid (HV1.out.rk hst hk)
  clear hst hk
  go_wp2_with fail
  refine (HDG.out _ _ (by omega) HV2.out.st).mono ?_; rintro x w3 ⟨⟨d, rfl, hd⟩, hst, hk⟩
  have HV3 := Lib.hid (HV2.out.rk hst hk)
  clear hst hk
  have hde : d = ByteArray.empty := by
    apply ByteArray.ext; apply Array.toList_inj.1; rw [hd]
    exact hd0
  subst hde
  have HZ : Hid (nuJ l out = .error 40) := Lib.hid (by
    unfold nuJ numJ
    simp [hwh, hd0])
  clear hd hwh hd0
  go_wp2_with fail
  refine (HNO.out _ _).mono ?_; rintro x w4 ⟨rfl, rfl⟩
  go_wp2_with fail
  refine ⟨rfl, ?_⟩
  rw [HZ.out]
  exact ⟨rfl, HV3.out.vk.1⟩
theorem p_number (p : Nat) (v : Value) (op : Int) (l : List UInt8) (out : List Cel) (hl : l.length ≤ 20000) (hout : out.length ≤ 2048) (ho1 : 0 < out.length) (w : World) (h : PS p l v op w) (hown : OwnC (p + 1) v out w) (hEV : ∀ W, VK p v w W → Env W) :
    Calls Tryz.prog 93 #[.pointer (some ⟨p, 0, none⟩)] w (VPE p w v op (nuJ l out)) := by
  cases hb : below l with
  | true =>
    by_cases hz : (body l).head? = some 48
    · exact p_number_neg_zero p v op l out hl hout ho1 w h hown hEV hb hz
    · by_cases hd : (body l).takeWhile isDig = []
      · exact p_number_neg_bad p v op l out hl hout ho1 w h hown hEV hb hz hd
      · exact p_number_neg_dig p v op l out hl hout ho1 w h hown hEV hb hz hd
  | false =>
    by_cases hz : (body l).head? = some 48
    · exact p_number_pos_zero p v op l out hl hout ho1 w h hown hEV hb hz
    · by_cases hd : (body l).takeWhile isDig = []
      · exact p_number_pos_bad p v op l out hl hout ho1 w h hown hEV hb hz hd
      · exact p_number_pos_dig p v op l out hl hout ho1 w h hown hEV hb hz hd
end Go.Proofs.YtgclnjogoghhcaaGreatDoor
namespace Go.Proofs.YtgclnjogoghhcaaGreatDoor
open Go.RowKit Go.Lib
theorem bv64 (a : Nat) (ha : a < 9223372036854775808) : (BitVec.ofInt 64 (a : Int)).toNat = a := by
  rw [BitVec.ofInt_natCast, BitVec.toNat_ofNat]; exact Nat.mod_eq_of_lt (by omega)
theorem bits_and_i64_nat (a b : Nat) (ha : a < 9223372036854775808) (hb : b < 9223372036854775808) : bits .and .i64 (a : Int) (b : Int) = ((a &&& b : Nat) : Int) := by
  have hx : a &&& b < 2 ^ 63 := Nat.and_lt_two_pow _ (by omega)
  show IntKind.i64.wrap ((BitVec.ofInt 64 (a : Int) &&& BitVec.ofInt 64 (b : Int)).toNat : Int) = _
  rw [BitVec.toNat_and, bv64 a ha, bv64 b hb]
  exact IntWalk.i64_in _ (by omega)
theorem bits_or_i64_nat (a b : Nat) (ha : a < 9223372036854775808) (hb : b < 9223372036854775808) : bits .or .i64 (a : Int) (b : Int) = ((a ||| b : Nat) : Int) := by
  have hx : a ||| b < 2 ^ 63 := Nat.or_lt_two_pow (by omega) (by omega)
  show IntKind.i64.wrap ((BitVec.ofInt 64 (a : Int) ||| BitVec.ofInt 64 (b : Int)).toNat : Int) = _
  rw [BitVec.toNat_or, bv64 a ha, bv64 b hb]
  exact IntWalk.i64_in _ (by omega)
/-- The two halves of a code point, joined. -/
theorem low_bits (n m : Nat) (hn : 55296 ≤ n ∧ n ≤ 56319) (hm : 56320 ≤ m ∧ m ≤ 57343) : ∃ A B C D : Int, bits .and .i64 (n : Int) 1023 = A ∧ IntKind.i64.wrap (A * 2 ^ 10) = B ∧ IntKind.i64.wrap (A * 1024) = B ∧ IntKind.i64.wrap (65536 + B) = C ∧ bits .and .i64 (m : Int) 1023 = D ∧ bits .or .i64 C D = ((65536 + (n - 55296) * 1024 + (m - 56320) : Nat) : Int) := by
  have a1 : n &&& 1023 = n - 55296 := by rw [show (1023 : Nat) = 2 ^ 10 - 1 from rfl, Nat.and_two_pow_sub_one_eq_mod]; omega
  have a2 : m &&& 1023 = m - 56320 := by rw [show (1023 : Nat) = 2 ^ 10 - 1 from rfl, Nat.and_two_pow_sub_one_eq_mod]; omega
  refine ⟨((n - 55296 : Nat) : Int), (((n - 55296) * 1024 : Nat) : Int), ((65536 + (n - 55296) * 1024 : Nat) : Int), ((m - 56320 : Nat) : Int), ?_, ?_, ?_, ?_, ?_, ?_⟩
  · have := bits_and_i64_nat n 1023 (by omega) (by omega)
    rw [a1] at this; exact this
  · rw [IntWalk.i64_in _ (by omega)]; omega
  · rw [IntWalk.i64_in _ (by omega)]; omega
  · rw [IntWalk.i64_in _ (by omega)]; omega
  · have := bits_and_i64_nat m 1023 (by omega) (by omega)
    rw [a2] at this; exact this
  · rw [bits_or_i64_nat _ _ (by omega) (by omega)]
    have h := Nat.two_pow_add_eq_or_of_lt (i := 10) (b := m - 56320) (by omega) (64 + (n - 55296))
    rw [show 65536 + (n - 55296) * 1024 = 2 ^ 10 * (64 + (n - 55296)) from by omega, ← h]
theorem let_ix (c : UInt8) (h : ∀ k, k < 8 → c ≠ escB k) : Lib.indexByte [34, 92, 47, 98, 102, 110, 114, 116] c = -1 := by
  have := (by decide +kernel : ∀ i : Fin 256, (∀ k : Fin 8, UInt8.ofNat i.val ≠ escB k.val) → Lib.indexByte [34, 92, 47, 98, 102, 110, 114, 116] (UInt8.ofNat i.val) = -1) ⟨c.toNat, UInt8.toNat_lt c⟩
  simp only [UInt8.ofNat_toNat] at this
  exact this fun k => h k.val k.isLt
theorem fourV_none {R : Option (Nat × List UInt8)} (h : R = none) : fourV R = .error 40 := by rw [h]; rfl
theorem fourV_some {R : Option (Nat × List UInt8)} {n : Nat} {t : List UInt8} (h : R = some (n, t)) : fourV R = .ok (.int .i64 (n : Int), t) := by rw [h]; rfl
set_option maxRecDepth 100000 in
theorem p_esc_nil (p : Nat) (v : Value) (op : Int) (w : World) (h : PS p [] v op w) :
    Calls Tryz.prog 95 #[.pointer (some ⟨p, 0, none⟩)] w (PV p v op (.error 40) w) := by
  obtain ⟨b, hbl, hr⟩ := h
  have HNO : Hid (∀ (e : Int) W, Calls Tryz.prog 87 #[.int .i64 e] W fun x w' => x = .panicked (stopL e) ∧ W = w') := Lib.hid fun e W => p_no e W
  obtain ⟨c0, c1, c2⟩ := hr.cells
  have hbe : b = ByteArray.empty := by
    apply ByteArray.ext; apply Array.toList_inj.1; rw [hbl]; rfl
  subst hbe
  clear hbl hr
  go_enter Tryz.func95, Tryz.ntmps95
  go_wp2_with fail
  refine (HNO.out _ _).mono ?_; rintro x w1 ⟨rfl, rfl⟩
  go_wp2_with fail
  exact ⟨rfl, rfl, Below.refl _ _⟩
set_option maxRecDepth 100000 in
theorem p_esc_let0 (p : Nat) (r : List UInt8) (c : UInt8) (hc : c = 34) (v : Value) (op : Int) (w : World) (h : PS p (c :: r) v op w) :
    Calls Tryz.prog 95 #[.pointer (some ⟨p, 0, none⟩)] w (PV p v op (.ok (.int .i64 34, r)) w) := by
  obtain ⟨b, hbl, hr⟩ := h
  obtain ⟨c0, c1, c2⟩ := hr.cells
  have f0 := hr.frozen 0
  have HR := Lib.hid hr
  have HBL := Lib.hid hbl
  obtain ⟨hb1, hb2, hb3, hb4, -⟩ := tl_cons hbl
  have h00 : b[0]'hb4 = c := at_zero hbl hb4
  have HX1 : Hid (∀ W, Calls Tryz.prog 21 #[.string ⟨#[34, 92, 47, 98, 102, 110, 114, 116]⟩, .int .u8 ((b[0]'hb4).toNat : Int)] W fun x w' => x = .returned (.int .i64 0) ∧ W = w') := Lib.hid fun W => by
    have := ix_any ⟨#[34, 92, 47, 98, 102, 110, 114, 116]⟩ c W
    rw [show Lib.indexByte (⟨#[34, 92, 47, 98, 102, 110, 114, 116]⟩ : ByteArray).data.toList c = 0 from by rw [hc]; decide] at this
    rw [h00]; exact this
  have hsz1 : 1 ≤ b.size := hb4
  obtain ⟨b1, hb1e⟩ : ∃ b1, b.extract 1 b.size = b1 := ⟨_, rfl⟩
  have hb1l := ext_one hbl b.size rfl
  rw [hb1e] at hb1l
  have HB1 := Lib.hid hb1l
  have ix := fun w : World => (show (Instr.index 9 (.string ⟨#[34, 92, 47, 8, 12, 10, 13, 9]⟩) (.int .i64 0)).run Tryz.prog w = .ok (.int .u8 34) w by kernel_rfl)
  clear hbl hr h00 hb1l
  go_enter Tryz.func95, Tryz.ntmps95
  go_wp2_with fail
  refine (HX1.out _).mono ?_; rintro x w1 ⟨rfl, rfl⟩
  go_wp2_with fail
  go_ret
  exact ⟨rfl, ⟨b1, HB1.out, HR.out.str b1⟩, RK.set p 0 _ _⟩
set_option maxRecDepth 100000 in
theorem p_esc_let1 (p : Nat) (r : List UInt8) (c : UInt8) (hc : c = 92) (v : Value) (op : Int) (w : World) (h : PS p (c :: r) v op w) :
    Calls Tryz.prog 95 #[.pointer (some ⟨p, 0, none⟩)] w (PV p v op (.ok (.int .i64 92, r)) w) := by
  obtain ⟨b, hbl, hr⟩ := h
  obtain ⟨c0, c1, c2⟩ := hr.cells
  have f0 := hr.frozen 0
  have HR := Lib.hid hr
  have HBL := Lib.hid hbl
  obtain ⟨hb1, hb2, hb3, hb4, -⟩ := tl_cons hbl
  have h00 : b[0]'hb4 = c := at_zero hbl hb4
  have HX1 : Hid (∀ W, Calls Tryz.prog 21 #[.string ⟨#[34, 92, 47, 98, 102, 110, 114, 116]⟩, .int .u8 ((b[0]'hb4).toNat : Int)] W fun x w' => x = .returned (.int .i64 1) ∧ W = w') := Lib.hid fun W => by
    have := ix_any ⟨#[34, 92, 47, 98, 102, 110, 114, 116]⟩ c W
    rw [show Lib.indexByte (⟨#[34, 92, 47, 98, 102, 110, 114, 116]⟩ : ByteArray).data.toList c = 1 from by rw [hc]; decide] at this
    rw [h00]; exact this
  have hsz1 : 1 ≤ b.size := hb4
  obtain ⟨b1, hb1e⟩ : ∃ b1, b.extract 1 b.size = b1 := ⟨_, rfl⟩
  have hb1l := ext_one hbl b.size rfl
  rw [hb1e] at hb1l
  have HB1 := Lib.hid hb1l
  have ix := fun w : World => (show (Instr.index 9 (.string ⟨#[34, 92, 47, 8, 12, 10, 13, 9]⟩) (.int .i64 1)).run Tryz.prog w = .ok (.int .u8 92) w by kernel_rfl)
  clear hbl hr h00 hb1l
  go_enter Tryz.func95, Tryz.ntmps95
  go_wp2_with fail
  refine (HX1.out _).mono ?_; rintro x w1 ⟨rfl, rfl⟩
  go_wp2_with fail
  go_ret
  exact ⟨rfl, ⟨b1, HB1.out, HR.out.str b1⟩, RK.set p 0 _ _⟩
set_option maxRecDepth 100000 in
theorem p_esc_let2 (p : Nat) (r : List UInt8) (c : UInt8) (hc : c = 47) (v : Value) (op : Int) (w : World) (h : PS p (c :: r) v op w) :
    Calls Tryz.prog 95 #[.pointer (some ⟨p, 0, none⟩)] w (PV p v op (.ok (.int .i64 47, r)) w) := by
  obtain ⟨b, hbl, hr⟩ := h
  obtain ⟨c0, c1, c2⟩ := hr.cells
  have f0 := hr.frozen 0
  have HR := Lib.hid hr
  have HBL := Lib.hid hbl
  obtain ⟨hb1, hb2, hb3, hb4, -⟩ := tl_cons hbl
  have h00 : b[0]'hb4 = c := at_zero hbl hb4
  have HX1 : Hid (∀ W, Calls Tryz.prog 21 #[.string ⟨#[34, 92, 47, 98, 102, 110, 114, 116]⟩, .int .u8 ((b[0]'hb4).toNat : Int)] W fun x w' => x = .returned (.int .i64 2) ∧ W = w') := Lib.hid fun W => by
    have := ix_any ⟨#[34, 92, 47, 98, 102, 110, 114, 116]⟩ c W
    rw [show Lib.indexByte (⟨#[34, 92, 47, 98, 102, 110, 114, 116]⟩ : ByteArray).data.toList c = 2 from by rw [hc]; decide] at this
    rw [h00]; exact this
  have hsz1 : 1 ≤ b.size := hb4
  obtain ⟨b1, hb1e⟩ : ∃ b1, b.extract 1 b.size = b1 := ⟨_, rfl⟩
  have hb1l := ext_one hbl b.size rfl
  rw [hb1e] at hb1l
  have HB1 := Lib.hid hb1l
  have ix := fun w : World => (show (Instr.index 9 (.string ⟨#[34, 92, 47, 8, 12, 10, 13, 9]⟩) (.int .i64 2)).run Tryz.prog w = .ok (.int .u8 47) w by kernel_rfl)
  clear hbl hr h00 hb1l
  go_enter Tryz.func95, Tryz.ntmps95
  go_wp2_with fail
  refine (HX1.out _).mono ?_; rintro x w1 ⟨rfl, rfl⟩
  go_wp2_with fail
  go_ret
  exact ⟨rfl, ⟨b1, HB1.out, HR.out.str b1⟩, RK.set p 0 _ _⟩
set_option maxRecDepth 100000 in
theorem p_esc_let3 (p : Nat) (r : List UInt8) (c : UInt8) (hc : c = 98) (v : Value) (op : Int) (w : World) (h : PS p (c :: r) v op w) :
    Calls Tryz.prog 95 #[.pointer (some ⟨p, 0, none⟩)] w (PV p v op (.ok (.int .i64 8, r)) w) := by
  obtain ⟨b, hbl, hr⟩ := h
  obtain ⟨c0, c1, c2⟩ := hr.cells
  have f0 := hr.frozen 0
  have HR := Lib.hid hr
  have HBL := Lib.hid hbl
  obtain ⟨hb1, hb2, hb3, hb4, -⟩ := tl_cons hbl
  have h00 : b[0]'hb4 = c := at_zero hbl hb4
  have HX1 : Hid (∀ W, Calls Tryz.prog 21 #[.string ⟨#[34, 92, 47, 98, 102, 110, 114, 116]⟩, .int .u8 ((b[0]'hb4).toNat : Int)] W fun x w' => x = .returned (.int .i64 3) ∧ W = w') := Lib.hid fun W => by
    have := ix_any ⟨#[34, 92, 47, 98, 102, 110, 114, 116]⟩ c W
    rw [show Lib.indexByte (⟨#[34, 92, 47, 98, 102, 110, 114, 116]⟩ : ByteArray).data.toList c = 3 from by rw [hc]; decide] at this
    rw [h00]; exact this
  have hsz1 : 1 ≤ b.size := hb4
  obtain ⟨b1, hb1e⟩ : ∃ b1, b.extract 1 b.size = b1 := ⟨_, rfl⟩
  have hb1l := ext_one hbl b.size rfl
  rw [hb1e] at hb1l
  have HB1 := Lib.hid hb1l
  have ix := fun w : World => (show (Instr.index 9 (.string ⟨#[34, 92, 47, 8, 12, 10, 13, 9]⟩) (.int .i64 3)).run Tryz.prog w = .ok (.int .u8 8) w by kernel_rfl)
  clear hbl hr h00 hb1l
  go_enter Tryz.func95, Tryz.ntmps95
  go_wp2_with fail
  refine (HX1.out _).mono ?_; rintro x w1 ⟨rfl, rfl⟩
  go_wp2_with fail
  go_ret
  exact ⟨rfl, ⟨b1, HB1.out, HR.out.str b1⟩, RK.set p 0 _ _⟩
set_option maxRecDepth 100000 in
theorem p_esc_let4 (p : Nat) (r : List UInt8) (c : UInt8) (hc : c = 102) (v : Value) (op : Int) (w : World) (h : PS p (c :: r) v op w) :
    Calls Tryz.prog 95 #[.pointer (some ⟨p, 0, none⟩)] w (PV p v op (.ok (.int .i64 12, r)) w) := by
  obtain ⟨b, hbl, hr⟩ := h
  obtain ⟨c0, c1, c2⟩ := hr.cells
  have f0 := hr.frozen 0
  have HR := Lib.hid hr
  have HBL := Lib.hid hbl
  obtain ⟨hb1, hb2, hb3, hb4, -⟩ := tl_cons hbl
  have h00 : b[0]'hb4 = c := at_zero hbl hb4
  have HX1 : Hid (∀ W, Calls Tryz.prog 21 #[.string ⟨#[34, 92, 47, 98, 102, 110, 114, 116]⟩, .int .u8 ((b[0]'hb4).toNat : Int)] W fun x w' => x = .returned (.int .i64 4) ∧ W = w') := Lib.hid fun W => by
    have := ix_any ⟨#[34, 92, 47, 98, 102, 110, 114, 116]⟩ c W
    rw [show Lib.indexByte (⟨#[34, 92, 47, 98, 102, 110, 114, 116]⟩ : ByteArray).data.toList c = 4 from by rw [hc]; decide] at this
    rw [h00]; exact this
  have hsz1 : 1 ≤ b.size := hb4
  obtain ⟨b1, hb1e⟩ : ∃ b1, b.extract 1 b.size = b1 := ⟨_, rfl⟩
  have hb1l := ext_one hbl b.size rfl
  rw [hb1e] at hb1l
  have HB1 := Lib.hid hb1l
  have ix := fun w : World => (show (Instr.index 9 (.string ⟨#[34, 92, 47, 8, 12, 10, 13, 9]⟩) (.int .i64 4)).run Tryz.prog w = .ok (.int .u8 12) w by kernel_rfl)
  clear hbl hr h00 hb1l
  go_enter Tryz.func95, Tryz.ntmps95
  go_wp2_with fail
  refine (HX1.out _).mono ?_; rintro x w1 ⟨rfl, rfl⟩
  go_wp2_with fail
  go_ret
  exact ⟨rfl, ⟨b1, HB1.out, HR.out.str b1⟩, RK.set p 0 _ _⟩
set_option maxRecDepth 100000 in
theorem p_esc_let5 (p : Nat) (r : List UInt8) (c : UInt8) (hc : c = 110) (v : Value) (op : Int) (w : World) (h : PS p (c :: r) v op w) :
    Calls Tryz.prog 95 #[.pointer (some ⟨p, 0, none⟩)] w (PV p v op (.ok (.int .i64 10, r)) w) := by
  obtain ⟨b, hbl, hr⟩ := h
  obtain ⟨c0, c1, c2⟩ := hr.cells
  have f0 := hr.frozen 0
  have HR := Lib.hid hr
  have HBL := Lib.hid hbl
  obtain ⟨hb1, hb2, hb3, hb4, -⟩ := tl_cons hbl
  have h00 : b[0]'hb4 = c := at_zero hbl hb4
  have HX1 : Hid (∀ W, Calls Tryz.prog 21 #[.string ⟨#[34, 92, 47, 98, 102, 110, 114, 116]⟩, .int .u8 ((b[0]'hb4).toNat : Int)] W fun x w' => x = .returned (.int .i64 5) ∧ W = w') := Lib.hid fun W => by
    have := ix_any ⟨#[34, 92, 47, 98, 102, 110, 114, 116]⟩ c W
    rw [show Lib.indexByte (⟨#[34, 92, 47, 98, 102, 110, 114, 116]⟩ : ByteArray).data.toList c = 5 from by rw [hc]; decide] at this
    rw [h00]; exact this
  have hsz1 : 1 ≤ b.size := hb4
  obtain ⟨b1, hb1e⟩ : ∃ b1, b.extract 1 b.size = b1 := ⟨_, rfl⟩
  have hb1l := ext_one hbl b.size rfl
  rw [hb1e] at hb1l
  have HB1 := Lib.hid hb1l
  have ix := fun w : World => (show (Instr.index 9 (.string ⟨#[34, 92, 47, 8, 12, 10, 13, 9]⟩) (.int .i64 5)).run Tryz.prog w = .ok (.int .u8 10) w by kernel_rfl)
  clear hbl hr h00 hb1l
  go_enter Tryz.func95, Tryz.ntmps95
  go_wp2_with fail
  refine (HX1.out _).mono ?_; rintro x w1 ⟨rfl, rfl⟩
  go_wp2_with fail
  go_ret
  exact ⟨rfl, ⟨b1, HB1.out, HR.out.str b1⟩, RK.set p 0 _ _⟩
set_option maxRecDepth 100000 in
theorem p_esc_let6 (p : Nat) (r : List UInt8) (c : UInt8) (hc : c = 114) (v : Value) (op : Int) (w : World) (h : PS p (c :: r) v op w) :
    Calls Tryz.prog 95 #[.pointer (some ⟨p, 0, none⟩)] w (PV p v op (.ok (.int .i64 13, r)) w) := by
  obtain ⟨b, hbl, hr⟩ := h
  obtain ⟨c0, c1, c2⟩ := hr.cells
  have f0 := hr.frozen 0
  have HR := Lib.hid hr
  have HBL := Lib.hid hbl
  obtain ⟨hb1, hb2, hb3, hb4, -⟩ := tl_cons hbl
  have h00 : b[0]'hb4 = c := at_zero hbl hb4
  have HX1 : Hid (∀ W, Calls Tryz.prog 21 #[.string ⟨#[34, 92, 47, 98, 102, 110, 114, 116]⟩, .int .u8 ((b[0]'hb4).toNat : Int)] W fun x w' => x = .returned (.int .i64 6) ∧ W = w') := Lib.hid fun W => by
    have := ix_any ⟨#[34, 92, 47, 98, 102, 110, 114, 116]⟩ c W
    rw [show Lib.indexByte (⟨#[34, 92, 47, 98, 102, 110, 114, 116]⟩ : ByteArray).data.toList c = 6 from by rw [hc]; decide] at this
    rw [h00]; exact this
  have hsz1 : 1 ≤ b.size := hb4
  obtain ⟨b1, hb1e⟩ : ∃ b1, b.extract 1 b.size = b1 := ⟨_, rfl⟩
  have hb1l := ext_one hbl b.size rfl
  rw [hb1e] at hb1l
  have HB1 := Lib.hid hb1l
  have ix := fun w : World => (show (Instr.index 9 (.string ⟨#[34, 92, 47, 8, 12, 10, 13, 9]⟩) (.int .i64 6)).run Tryz.prog w = .ok (.int .u8 13) w by kernel_rfl)
  clear hbl hr h00 hb1l
  go_enter Tryz.func95, Tryz.ntmps95
  go_wp2_with fail
  refine (HX1.out _).mono ?_; rintro x w1 ⟨rfl, rfl⟩
  go_wp2_with fail
  go_ret
  exact ⟨rfl, ⟨b1, HB1.out, HR.out.str b1⟩, RK.set p 0 _ _⟩
set_option maxRecDepth 100000 in
theorem p_esc_let7 (p : Nat) (r : List UInt8) (c : UInt8) (hc : c = 116) (v : Value) (op : Int) (w : World) (h : PS p (c :: r) v op w) :
    Calls Tryz.prog 95 #[.pointer (some ⟨p, 0, none⟩)] w (PV p v op (.ok (.int .i64 9, r)) w) := by
  obtain ⟨b, hbl, hr⟩ := h
  obtain ⟨c0, c1, c2⟩ := hr.cells
  have f0 := hr.frozen 0
  have HR := Lib.hid hr
  have HBL := Lib.hid hbl
  obtain ⟨hb1, hb2, hb3, hb4, -⟩ := tl_cons hbl
  have h00 : b[0]'hb4 = c := at_zero hbl hb4
  have HX1 : Hid (∀ W, Calls Tryz.prog 21 #[.string ⟨#[34, 92, 47, 98, 102, 110, 114, 116]⟩, .int .u8 ((b[0]'hb4).toNat : Int)] W fun x w' => x = .returned (.int .i64 7) ∧ W = w') := Lib.hid fun W => by
    have := ix_any ⟨#[34, 92, 47, 98, 102, 110, 114, 116]⟩ c W
    rw [show Lib.indexByte (⟨#[34, 92, 47, 98, 102, 110, 114, 116]⟩ : ByteArray).data.toList c = 7 from by rw [hc]; decide] at this
    rw [h00]; exact this
  have hsz1 : 1 ≤ b.size := hb4
  obtain ⟨b1, hb1e⟩ : ∃ b1, b.extract 1 b.size = b1 := ⟨_, rfl⟩
  have hb1l := ext_one hbl b.size rfl
  rw [hb1e] at hb1l
  have HB1 := Lib.hid hb1l
  have ix := fun w : World => (show (Instr.index 9 (.string ⟨#[34, 92, 47, 8, 12, 10, 13, 9]⟩) (.int .i64 7)).run Tryz.prog w = .ok (.int .u8 9) w by kernel_rfl)
  clear hbl hr h00 hb1l
  go_enter Tryz.func95, Tryz.ntmps95
  go_wp2_with fail
  refine (HX1.out _).mono ?_; rintro x w1 ⟨rfl, rfl⟩
  go_wp2_with fail
  go_ret
  exact ⟨rfl, ⟨b1, HB1.out, HR.out.str b1⟩, RK.set p 0 _ _⟩
set_option maxRecDepth 100000 in
theorem p_esc_other (p : Nat) (r : List UInt8) (c : UInt8) (hnl : ∀ k, k < 8 → c ≠ escB k) (hno : tkJ [117] (c :: r) = none) (v : Value) (op : Int) (w : World) (h : PS p (c :: r) v op w) :
    Calls Tryz.prog 95 #[.pointer (some ⟨p, 0, none⟩)] w (PV p v op (.error 40) w) := by
  obtain ⟨b, hbl, hr⟩ := h
  obtain ⟨c0, c1, c2⟩ := hr.cells
  have f0 := hr.frozen 0
  have HR := Lib.hid hr
  have HBL := Lib.hid hbl
  obtain ⟨hb1, hb2, hb3, hb4, -⟩ := tl_cons hbl
  have h00 : b[0]'hb4 = c := at_zero hbl hb4
  have HX1 : Hid (∀ W, Calls Tryz.prog 21 #[.string ⟨#[34, 92, 47, 98, 102, 110, 114, 116]⟩, .int .u8 ((b[0]'hb4).toNat : Int)] W fun x w' => x = .returned (.int .i64 (-1)) ∧ W = w') := Lib.hid fun W => by
    have := ix_any ⟨#[34, 92, 47, 98, 102, 110, 114, 116]⟩ c W
    rw [show Lib.indexByte (⟨#[34, 92, 47, 98, 102, 110, 114, 116]⟩ : ByteArray).data.toList c = -1 from let_ix c hnl] at this
    rw [h00]; exact this
  have HNO : Hid (∀ (e : Int) W, Calls Tryz.prog 87 #[.int .i64 e] W fun x w' => x = .panicked (stopL e) ∧ W = w') := Lib.hid fun e W => p_no e W
  have HMU : Hid (∀ W, PS p (c :: r) v op W → Calls Tryz.prog 92 #[.pointer (some ⟨p, 0, none⟩), .string ⟨#[117]⟩] W fun x w' => x = .panicked (stopL 40) ∧ Below p W w') := Lib.hid fun W hW => by
    have := p_must p _ ⟨#[117]⟩ v op W hW
    rw [show (⟨#[117]⟩ : ByteArray).data.toList = [117] from rfl, tkE_none hno] at this
    exact this
  clear hbl hr h00 hnl hno
  go_enter Tryz.func95, Tryz.ntmps95
  go_wp2_with fail
  refine (HX1.out _).mono ?_; rintro x w1 ⟨rfl, rfl⟩
  go_wp2_with fail
  refine (HMU.out _ ⟨b, HBL.out, HR.out⟩).mono ?_; rintro x w_z ⟨rfl, hk⟩
  have HKz : Hid (Below p w w_z) := Lib.hid (hk)
  clear hk
  go_wp2_with fail
  exact ⟨rfl, rfl, HKz.out⟩
set_option maxRecDepth 100000 in
theorem p_esc_hexno (p : Nat) (r : List UInt8) (c : UInt8) (hnl : ∀ k, k < 8 → c ≠ escB k) (hu : tkJ [117] (c :: r) = some r) (hh : hexsJ 4 0 r = none) (v : Value) (op : Int) (w : World) (h : PS p (c :: r) v op w) :
    Calls Tryz.prog 95 #[.pointer (some ⟨p, 0, none⟩)] w (PV p v op (.error 40) w) := by
  obtain ⟨b, hbl, hr⟩ := h
  obtain ⟨c0, c1, c2⟩ := hr.cells
  have f0 := hr.frozen 0
  have HR := Lib.hid hr
  have HBL := Lib.hid hbl
  obtain ⟨hb1, hb2, hb3, hb4, -⟩ := tl_cons hbl
  have h00 : b[0]'hb4 = c := at_zero hbl hb4
  have HX1 : Hid (∀ W, Calls Tryz.prog 21 #[.string ⟨#[34, 92, 47, 98, 102, 110, 114, 116]⟩, .int .u8 ((b[0]'hb4).toNat : Int)] W fun x w' => x = .returned (.int .i64 (-1)) ∧ W = w') := Lib.hid fun W => by
    have := ix_any ⟨#[34, 92, 47, 98, 102, 110, 114, 116]⟩ c W
    rw [show Lib.indexByte (⟨#[34, 92, 47, 98, 102, 110, 114, 116]⟩ : ByteArray).data.toList c = -1 from let_ix c hnl] at this
    rw [h00]; exact this
  have HNO : Hid (∀ (e : Int) W, Calls Tryz.prog 87 #[.int .i64 e] W fun x w' => x = .panicked (stopL e) ∧ W = w') := Lib.hid fun e W => p_no e W
  have HMU : Hid (∀ W, PS p (c :: r) v op W → Calls Tryz.prog 92 #[.pointer (some ⟨p, 0, none⟩), .string ⟨#[117]⟩] W fun x w' => x = .returned (.tuple #[]) ∧ PS p (r) v op w' ∧ RK p W w') := Lib.hid fun W hW => by
    have := p_must p _ ⟨#[117]⟩ v op W hW
    rw [show (⟨#[117]⟩ : ByteArray).data.toList = [117] from rfl, tkE_some hu] at this
    exact this
  have HFO : Hid (∀ W, PS p (r) v op W → Calls Tryz.prog 102 #[.pointer (some ⟨p, 0, none⟩)] W fun x w' => x = .panicked (stopL 40) ∧ Below p W w') := Lib.hid fun W hW => by
    have := p_four p _ v op W hW
    rw [fourV_none hh] at this
    exact this
  clear hbl hr h00 hnl hu hh
  go_enter Tryz.func95, Tryz.ntmps95
  go_wp2_with fail
  refine (HX1.out _).mono ?_; rintro x w1 ⟨rfl, rfl⟩
  go_wp2_with fail
  refine (HMU.out _ ⟨b, HBL.out, HR.out⟩).mono ?_; rintro x w_1 ⟨rfl, hst, hk⟩
  have HS1 := Lib.hid hst
  have HK1 := Lib.hid (hk)
  clear hst hk
  go_wp2_with fail
  refine (HFO.out _ HS1.out).mono ?_; rintro x w_z ⟨rfl, hk⟩
  have HKz : Hid (Below p w w_z) := Lib.hid (HK1.out.1.trans hk)
  clear hk
  go_wp2_with fail
  exact ⟨rfl, rfl, HKz.out⟩
set_option maxRecDepth 100000 in
theorem p_esc_low (p : Nat) (r : List UInt8) (c : UInt8) (hnl : ∀ k, k < 8 → c ≠ escB k) (hu : tkJ [117] (c :: r) = some r) (n : Nat) (t : List UInt8) (hh : hexsJ 4 0 r = some (n, t)) (hr1 : 56320 ≤ n ∧ n ≤ 57343) (v : Value) (op : Int) (w : World) (h : PS p (c :: r) v op w) :
    Calls Tryz.prog 95 #[.pointer (some ⟨p, 0, none⟩)] w (PV p v op (.error 40) w) := by
  obtain ⟨b, hbl, hr⟩ := h
  obtain ⟨c0, c1, c2⟩ := hr.cells
  have f0 := hr.frozen 0
  have HR := Lib.hid hr
  have HBL := Lib.hid hbl
  obtain ⟨hb1, hb2, hb3, hb4, -⟩ := tl_cons hbl
  have h00 : b[0]'hb4 = c := at_zero hbl hb4
  have HX1 : Hid (∀ W, Calls Tryz.prog 21 #[.string ⟨#[34, 92, 47, 98, 102, 110, 114, 116]⟩, .int .u8 ((b[0]'hb4).toNat : Int)] W fun x w' => x = .returned (.int .i64 (-1)) ∧ W = w') := Lib.hid fun W => by
    have := ix_any ⟨#[34, 92, 47, 98, 102, 110, 114, 116]⟩ c W
    rw [show Lib.indexByte (⟨#[34, 92, 47, 98, 102, 110, 114, 116]⟩ : ByteArray).data.toList c = -1 from let_ix c hnl] at this
    rw [h00]; exact this
  have HNO : Hid (∀ (e : Int) W, Calls Tryz.prog 87 #[.int .i64 e] W fun x w' => x = .panicked (stopL e) ∧ W = w') := Lib.hid fun e W => p_no e W
  have HMU : Hid (∀ W, PS p (c :: r) v op W → Calls Tryz.prog 92 #[.pointer (some ⟨p, 0, none⟩), .string ⟨#[117]⟩] W fun x w' => x = .returned (.tuple #[]) ∧ PS p (r) v op w' ∧ RK p W w') := Lib.hid fun W hW => by
    have := p_must p _ ⟨#[117]⟩ v op W hW
    rw [show (⟨#[117]⟩ : ByteArray).data.toList = [117] from rfl, tkE_some hu] at this
    exact this
  have HFO : Hid (∀ W, PS p (r) v op W → Calls Tryz.prog 102 #[.pointer (some ⟨p, 0, none⟩)] W fun x w' => x = .returned (.int .i64 (n : Int)) ∧ PS p (t) v op w' ∧ RK p W w') := Lib.hid fun W hW => by
    have := p_four p _ v op W hW
    rw [fourV_some hh] at this
    exact this
  obtain ⟨N, hN⟩ : ∃ N : Int, (n : Int) = N := ⟨_, rfl⟩
  rw [hN] at HFO
  have t1 : decide ((56320 : Int) ≤ N) = true := decide_eq_true (by omega)
  have t2 : decide (N ≤ 57343) = true := decide_eq_true (by omega)
  clear hbl hr h00 hnl hu hh hN hr1
  go_enter Tryz.func95, Tryz.ntmps95
  go_wp2_with fail
  refine (HX1.out _).mono ?_; rintro x w1 ⟨rfl, rfl⟩
  go_wp2_with fail
  refine (HMU.out _ ⟨b, HBL.out, HR.out⟩).mono ?_; rintro x w_1 ⟨rfl, hst, hk⟩
  have HS1 := Lib.hid hst
  have HK1 := Lib.hid (hk)
  clear hst hk
  go_wp2_with fail
  refine (HFO.out _ HS1.out).mono ?_; rintro x w_2 ⟨rfl, hst, hk⟩
  have HS2 := Lib.hid hst
  have HK2 := Lib.hid (HK1.out.trans hk)
  clear hst hk
  go_wp2_with fail
  refine (HNO.out _ _).mono ?_; rintro x w_y ⟨rfl, rfl⟩
  go_wp2_with fail
  exact ⟨rfl, rfl, HK2.out.1⟩
set_option maxRecDepth 100000 in
theorem p_esc_plain_lo (p : Nat) (r : List UInt8) (c : UInt8) (hnl : ∀ k, k < 8 → c ≠ escB k) (hu : tkJ [117] (c :: r) = some r) (n : Nat) (t : List UInt8) (hh : hexsJ 4 0 r = some (n, t)) (hr1 : n < 55296) (v : Value) (op : Int) (w : World) (h : PS p (c :: r) v op w) :
    Calls Tryz.prog 95 #[.pointer (some ⟨p, 0, none⟩)] w (PV p v op (.ok (.int .i64 (n : Int), t)) w) := by
  obtain ⟨b, hbl, hr⟩ := h
  obtain ⟨c0, c1, c2⟩ := hr.cells
  have f0 := hr.frozen 0
  have HR := Lib.hid hr
  have HBL := Lib.hid hbl
  obtain ⟨hb1, hb2, hb3, hb4, -⟩ := tl_cons hbl
  have h00 : b[0]'hb4 = c := at_zero hbl hb4
  have HX1 : Hid (∀ W, Calls Tryz.prog 21 #[.string ⟨#[34, 92, 47, 98, 102, 110, 114, 116]⟩, .int .u8 ((b[0]'hb4).toNat : Int)] W fun x w' => x = .returned (.int .i64 (-1)) ∧ W = w') := Lib.hid fun W => by
    have := ix_any ⟨#[34, 92, 47, 98, 102, 110, 114, 116]⟩ c W
    rw [show Lib.indexByte (⟨#[34, 92, 47, 98, 102, 110, 114, 116]⟩ : ByteArray).data.toList c = -1 from let_ix c hnl] at this
    rw [h00]; exact this
  have HNO : Hid (∀ (e : Int) W, Calls Tryz.prog 87 #[.int .i64 e] W fun x w' => x = .panicked (stopL e) ∧ W = w') := Lib.hid fun e W => p_no e W
  have HMU : Hid (∀ W, PS p (c :: r) v op W → Calls Tryz.prog 92 #[.pointer (some ⟨p, 0, none⟩), .string ⟨#[117]⟩] W fun x w' => x = .returned (.tuple #[]) ∧ PS p (r) v op w' ∧ RK p W w') := Lib.hid fun W hW => by
    have := p_must p _ ⟨#[117]⟩ v op W hW
    rw [show (⟨#[117]⟩ : ByteArray).data.toList = [117] from rfl, tkE_some hu] at this
    exact this
  have HFO : Hid (∀ W, PS p (r) v op W → Calls Tryz.prog 102 #[.pointer (some ⟨p, 0, none⟩)] W fun x w' => x = .returned (.int .i64 (n : Int)) ∧ PS p (t) v op w' ∧ RK p W w') := Lib.hid fun W hW => by
    have := p_four p _ v op W hW
    rw [fourV_some hh] at this
    exact this
  obtain ⟨N, hN⟩ : ∃ N : Int, (n : Int) = N := ⟨_, rfl⟩
  rw [hN] at HFO
  rw [hN]
  have t1 : decide ((56320 : Int) ≤ N) = false := decide_eq_false (by omega)
  have t3 : decide ((55296 : Int) ≤ N) = false := decide_eq_false (by omega)
  clear hbl hr h00 hnl hu hh hN hr1
  go_enter Tryz.func95, Tryz.ntmps95
  go_wp2_with fail
  refine (HX1.out _).mono ?_; rintro x w1 ⟨rfl, rfl⟩
  go_wp2_with fail
  refine (HMU.out _ ⟨b, HBL.out, HR.out⟩).mono ?_; rintro x w_1 ⟨rfl, hst, hk⟩
  have HS1 := Lib.hid hst
  have HK1 := Lib.hid (hk)
  clear hst hk
  go_wp2_with fail
  refine (HFO.out _ HS1.out).mono ?_; rintro x w_2 ⟨rfl, hst, hk⟩
  have HS2 := Lib.hid hst
  have HK2 := Lib.hid (HK1.out.trans hk)
  clear hst hk
  go_wp2_with fail
  go_ret
  exact ⟨rfl, HS2.out, HK2.out⟩
set_option maxRecDepth 100000 in
theorem p_esc_plain_hi (p : Nat) (r : List UInt8) (c : UInt8) (hnl : ∀ k, k < 8 → c ≠ escB k) (hu : tkJ [117] (c :: r) = some r) (n : Nat) (t : List UInt8) (hh : hexsJ 4 0 r = some (n, t)) (hr1 : 57343 < n) (v : Value) (op : Int) (w : World) (h : PS p (c :: r) v op w) :
    Calls Tryz.prog 95 #[.pointer (some ⟨p, 0, none⟩)] w (PV p v op (.ok (.int .i64 (n : Int), t)) w) := by
  obtain ⟨b, hbl, hr⟩ := h
  obtain ⟨c0, c1, c2⟩ := hr.cells
  have f0 := hr.frozen 0
  have HR := Lib.hid hr
  have HBL := Lib.hid hbl
  obtain ⟨hb1, hb2, hb3, hb4, -⟩ := tl_cons hbl
  have h00 : b[0]'hb4 = c := at_zero hbl hb4
  have HX1 : Hid (∀ W, Calls Tryz.prog 21 #[.string ⟨#[34, 92, 47, 98, 102, 110, 114, 116]⟩, .int .u8 ((b[0]'hb4).toNat : Int)] W fun x w' => x = .returned (.int .i64 (-1)) ∧ W = w') := Lib.hid fun W => by
    have := ix_any ⟨#[34, 92, 47, 98, 102, 110, 114, 116]⟩ c W
    rw [show Lib.indexByte (⟨#[34, 92, 47, 98, 102, 110, 114, 116]⟩ : ByteArray).data.toList c = -1 from let_ix c hnl] at this
    rw [h00]; exact this
  have HNO : Hid (∀ (e : Int) W, Calls Tryz.prog 87 #[.int .i64 e] W fun x w' => x = .panicked (stopL e) ∧ W = w') := Lib.hid fun e W => p_no e W
  have HMU : Hid (∀ W, PS p (c :: r) v op W → Calls Tryz.prog 92 #[.pointer (some ⟨p, 0, none⟩), .string ⟨#[117]⟩] W fun x w' => x = .returned (.tuple #[]) ∧ PS p (r) v op w' ∧ RK p W w') := Lib.hid fun W hW => by
    have := p_must p _ ⟨#[117]⟩ v op W hW
    rw [show (⟨#[117]⟩ : ByteArray).data.toList = [117] from rfl, tkE_some hu] at this
    exact this
  have HFO : Hid (∀ W, PS p (r) v op W → Calls Tryz.prog 102 #[.pointer (some ⟨p, 0, none⟩)] W fun x w' => x = .returned (.int .i64 (n : Int)) ∧ PS p (t) v op w' ∧ RK p W w') := Lib.hid fun W hW => by
    have := p_four p _ v op W hW
    rw [fourV_some hh] at this
    exact this
  obtain ⟨N, hN⟩ : ∃ N : Int, (n : Int) = N := ⟨_, rfl⟩
  rw [hN] at HFO
  rw [hN]
  have t1 : decide ((56320 : Int) ≤ N) = true := decide_eq_true (by omega)
  have t2 : decide (N ≤ 57343) = false := decide_eq_false (by omega)
  have t3 : decide ((55296 : Int) ≤ N) = true := decide_eq_true (by omega)
  have t4 : decide (N ≤ 56319) = false := decide_eq_false (by omega)
  clear hbl hr h00 hnl hu hh hN hr1
  go_enter Tryz.func95, Tryz.ntmps95
  go_wp2_with fail
  refine (HX1.out _).mono ?_; rintro x w1 ⟨rfl, rfl⟩
  go_wp2_with fail
  refine (HMU.out _ ⟨b, HBL.out, HR.out⟩).mono ?_; rintro x w_1 ⟨rfl, hst, hk⟩
  have HS1 := Lib.hid hst
  have HK1 := Lib.hid (hk)
  clear hst hk
  go_wp2_with fail
  refine (HFO.out _ HS1.out).mono ?_; rintro x w_2 ⟨rfl, hst, hk⟩
  have HS2 := Lib.hid hst
  have HK2 := Lib.hid (HK1.out.trans hk)
  clear hst hk
  go_wp2_with fail
  go_ret
  exact ⟨rfl, HS2.out, HK2.out⟩
set_option maxRecDepth 100000 in
theorem p_esc_high_no (p : Nat) (r : List UInt8) (c : UInt8) (hnl : ∀ k, k < 8 → c ≠ escB k) (hu : tkJ [117] (c :: r) = some r) (n : Nat) (t : List UInt8) (hh : hexsJ 4 0 r = some (n, t)) (hr1 : 55296 ≤ n ∧ n ≤ 56319) (hno : tkJ [92, 117] t = none) (v : Value) (op : Int) (w : World) (h : PS p (c :: r) v op w) :
    Calls Tryz.prog 95 #[.pointer (some ⟨p, 0, none⟩)] w (PV p v op (.error 40) w) := by
  obtain ⟨b, hbl, hr⟩ := h
  obtain ⟨c0, c1, c2⟩ := hr.cells
  have f0 := hr.frozen 0
  have HR := Lib.hid hr
  have HBL := Lib.hid hbl
  obtain ⟨hb1, hb2, hb3, hb4, -⟩ := tl_cons hbl
  have h00 : b[0]'hb4 = c := at_zero hbl hb4
  have HX1 : Hid (∀ W, Calls Tryz.prog 21 #[.string ⟨#[34, 92, 47, 98, 102, 110, 114, 116]⟩, .int .u8 ((b[0]'hb4).toNat : Int)] W fun x w' => x = .returned (.int .i64 (-1)) ∧ W = w') := Lib.hid fun W => by
    have := ix_any ⟨#[34, 92, 47, 98, 102, 110, 114, 116]⟩ c W
    rw [show Lib.indexByte (⟨#[34, 92, 47, 98, 102, 110, 114, 116]⟩ : ByteArray).data.toList c = -1 from let_ix c hnl] at this
    rw [h00]; exact this
  have HNO : Hid (∀ (e : Int) W, Calls Tryz.prog 87 #[.int .i64 e] W fun x w' => x = .panicked (stopL e) ∧ W = w') := Lib.hid fun e W => p_no e W
  have HMU : Hid (∀ W, PS p (c :: r) v op W → Calls Tryz.prog 92 #[.pointer (some ⟨p, 0, none⟩), .string ⟨#[117]⟩] W fun x w' => x = .returned (.tuple #[]) ∧ PS p (r) v op w' ∧ RK p W w') := Lib.hid fun W hW => by
    have := p_must p _ ⟨#[117]⟩ v op W hW
    rw [show (⟨#[117]⟩ : ByteArray).data.toList = [117] from rfl, tkE_some hu] at this
    exact this
  have HFO : Hid (∀ W, PS p (r) v op W → Calls Tryz.prog 102 #[.pointer (some ⟨p, 0, none⟩)] W fun x w' => x = .returned (.int .i64 (n : Int)) ∧ PS p (t) v op w' ∧ RK p W w') := Lib.hid fun W hW => by
    have := p_four p _ v op W hW
    rw [fourV_some hh] at this
    exact this
  obtain ⟨N, hN⟩ : ∃ N : Int, (n : Int) = N := ⟨_, rfl⟩
  rw [hN] at HFO
  have t1 : decide ((56320 : Int) ≤ N) = false := decide_eq_false (by omega)
  have t3 : decide ((55296 : Int) ≤ N) = true := decide_eq_true (by omega)
  have t4 : decide (N ≤ 56319) = true := decide_eq_true (by omega)
  have HM2 : Hid (∀ W, PS p (t) v op W → Calls Tryz.prog 92 #[.pointer (some ⟨p, 0, none⟩), .string ⟨#[92, 117]⟩] W fun x w' => x = .panicked (stopL 40) ∧ Below p W w') := Lib.hid fun W hW => by
    have := p_must p _ ⟨#[92, 117]⟩ v op W hW
    rw [show (⟨#[92, 117]⟩ : ByteArray).data.toList = [92, 117] from rfl, tkE_none hno] at this
    exact this
  clear hbl hr h00 hnl hu hh hN hr1 hno
  go_enter Tryz.func95, Tryz.ntmps95
  go_wp2_with fail
  refine (HX1.out _).mono ?_; rintro x w1 ⟨rfl, rfl⟩
  go_wp2_with fail
  refine (HMU.out _ ⟨b, HBL.out, HR.out⟩).mono ?_; rintro x w_1 ⟨rfl, hst, hk⟩
  have HS1 := Lib.hid hst
  have HK1 := Lib.hid (hk)
  clear hst hk
  go_wp2_with fail
  refine (HFO.out _ HS1.out).mono ?_; rintro x w_2 ⟨rfl, hst, hk⟩
  have HS2 := Lib.hid hst
  have HK2 := Lib.hid (HK1.out.trans hk)
  clear hst hk
  go_wp2_with fail
  refine (HM2.out _ HS2.out).mono ?_; rintro x w_z ⟨rfl, hk⟩
  have HKz : Hid (Below p w w_z) := Lib.hid (HK2.out.1.trans hk)
  clear hk
  go_wp2_with fail
  exact ⟨rfl, rfl, HKz.out⟩
set_option maxRecDepth 100000 in
theorem p_esc_high_hexno (p : Nat) (r : List UInt8) (c : UInt8) (hnl : ∀ k, k < 8 → c ≠ escB k) (hu : tkJ [117] (c :: r) = some r) (n : Nat) (t : List UInt8) (hh : hexsJ 4 0 r = some (n, t)) (hr1 : 55296 ≤ n ∧ n ≤ 56319) (t1l : List UInt8) (hu2 : tkJ [92, 117] t = some t1l) (hh2 : hexsJ 4 0 t1l = none) (v : Value) (op : Int) (w : World) (h : PS p (c :: r) v op w) :
    Calls Tryz.prog 95 #[.pointer (some ⟨p, 0, none⟩)] w (PV p v op (.error 40) w) := by
  obtain ⟨b, hbl, hr⟩ := h
  obtain ⟨c0, c1, c2⟩ := hr.cells
  have f0 := hr.frozen 0
  have HR := Lib.hid hr
  have HBL := Lib.hid hbl
  obtain ⟨hb1, hb2, hb3, hb4, -⟩ := tl_cons hbl
  have h00 : b[0]'hb4 = c := at_zero hbl hb4
  have HX1 : Hid (∀ W, Calls Tryz.prog 21 #[.string ⟨#[34, 92, 47, 98, 102, 110, 114, 116]⟩, .int .u8 ((b[0]'hb4).toNat : Int)] W fun x w' => x = .returned (.int .i64 (-1)) ∧ W = w') := Lib.hid fun W => by
    have := ix_any ⟨#[34, 92, 47, 98, 102, 110, 114, 116]⟩ c W
    rw [show Lib.indexByte (⟨#[34, 92, 47, 98, 102, 110, 114, 116]⟩ : ByteArray).data.toList c = -1 from let_ix c hnl] at this
    rw [h00]; exact this
  have HNO : Hid (∀ (e : Int) W, Calls Tryz.prog 87 #[.int .i64 e] W fun x w' => x = .panicked (stopL e) ∧ W = w') := Lib.hid fun e W => p_no e W
  have HMU : Hid (∀ W, PS p (c :: r) v op W → Calls Tryz.prog 92 #[.pointer (some ⟨p, 0, none⟩), .string ⟨#[117]⟩] W fun x w' => x = .returned (.tuple #[]) ∧ PS p (r) v op w' ∧ RK p W w') := Lib.hid fun W hW => by
    have := p_must p _ ⟨#[117]⟩ v op W hW
    rw [show (⟨#[117]⟩ : ByteArray).data.toList = [117] from rfl, tkE_some hu] at this
    exact this
  have HFO : Hid (∀ W, PS p (r) v op W → Calls Tryz.prog 102 #[.pointer (some ⟨p, 0, none⟩)] W fun x w' => x = .returned (.int .i64 (n : Int)) ∧ PS p (t) v op w' ∧ RK p W w') := Lib.hid fun W hW => by
    have := p_four p _ v op W hW
    rw [fourV_some hh] at this
    exact this
  obtain ⟨N, hN⟩ : ∃ N : Int, (n : Int) = N := ⟨_, rfl⟩
  rw [hN] at HFO
  have t1 : decide ((56320 : Int) ≤ N) = false := decide_eq_false (by omega)
  have t3 : decide ((55296 : Int) ≤ N) = true := decide_eq_true (by omega)
  have t4 : decide (N ≤ 56319) = true := decide_eq_true (by omega)
  have HM2 : Hid (∀ W, PS p (t) v op W → Calls Tryz.prog 92 #[.pointer (some ⟨p, 0, none⟩), .string ⟨#[92, 117]⟩] W fun x w' => x = .returned (.tuple #[]) ∧ PS p (t1l) v op w' ∧ RK p W w') := Lib.hid fun W hW => by
    have := p_must p _ ⟨#[92, 117]⟩ v op W hW
    rw [show (⟨#[92, 117]⟩ : ByteArray).data.toList = [92, 117] from rfl, tkE_some hu2] at this
    exact this
  have HF2 : Hid (∀ W, PS p (t1l) v op W → Calls Tryz.prog 102 #[.pointer (some ⟨p, 0, none⟩)] W fun x w' => x = .panicked (stopL 40) ∧ Below p W w') := Lib.hid fun W hW => by
    have := p_four p _ v op W hW
    rw [fourV_none hh2] at this
    exact this
  clear hbl hr h00 hnl hu hh hN hr1 hu2 hh2
  go_enter Tryz.func95, Tryz.ntmps95
  go_wp2_with fail
  refine (HX1.out _).mono ?_; rintro x w1 ⟨rfl, rfl⟩
  go_wp2_with fail
  refine (HMU.out _ ⟨b, HBL.out, HR.out⟩).mono ?_; rintro x w_1 ⟨rfl, hst, hk⟩
  have HS1 := Lib.hid hst
  have HK1 := Lib.hid (hk)
  clear hst hk
  go_wp2_with fail
  refine (HFO.out _ HS1.out).mono ?_; rintro x w_2 ⟨rfl, hst, hk⟩
  have HS2 := Lib.hid hst
  have HK2 := Lib.hid (HK1.out.trans hk)
  clear hst hk
  go_wp2_with fail
  refine (HM2.out _ HS2.out).mono ?_; rintro x w_3 ⟨rfl, hst, hk⟩
  have HS3 := Lib.hid hst
  have HK3 := Lib.hid (HK2.out.trans hk)
  clear hst hk
  go_wp2_with fail
  refine (HF2.out _ HS3.out).mono ?_; rintro x w_z ⟨rfl, hk⟩
  have HKz : Hid (Below p w w_z) := Lib.hid (HK3.out.1.trans hk)
  clear hk
  go_wp2_with fail
  exact ⟨rfl, rfl, HKz.out⟩
set_option maxRecDepth 100000 in
theorem p_esc_high_mlo (p : Nat) (r : List UInt8) (c : UInt8) (hnl : ∀ k, k < 8 → c ≠ escB k) (hu : tkJ [117] (c :: r) = some r) (n : Nat) (t : List UInt8) (hh : hexsJ 4 0 r = some (n, t)) (hr1 : 55296 ≤ n ∧ n ≤ 56319) (t1l : List UInt8) (hu2 : tkJ [92, 117] t = some t1l) (m : Nat) (t2l : List UInt8) (hh2 : hexsJ 4 0 t1l = some (m, t2l)) (hr2 : m < 56320) (v : Value) (op : Int) (w : World) (h : PS p (c :: r) v op w) :
    Calls Tryz.prog 95 #[.pointer (some ⟨p, 0, none⟩)] w (PV p v op (.error 40) w) := by
  obtain ⟨b, hbl, hr⟩ := h
  obtain ⟨c0, c1, c2⟩ := hr.cells
  have f0 := hr.frozen 0
  have HR := Lib.hid hr
  have HBL := Lib.hid hbl
  obtain ⟨hb1, hb2, hb3, hb4, -⟩ := tl_cons hbl
  have h00 : b[0]'hb4 = c := at_zero hbl hb4
  have HX1 : Hid (∀ W, Calls Tryz.prog 21 #[.string ⟨#[34, 92, 47, 98, 102, 110, 114, 116]⟩, .int .u8 ((b[0]'hb4).toNat : Int)] W fun x w' => x = .returned (.int .i64 (-1)) ∧ W = w') := Lib.hid fun W => by
    have := ix_any ⟨#[34, 92, 47, 98, 102, 110, 114, 116]⟩ c W
    rw [show Lib.indexByte (⟨#[34, 92, 47, 98, 102, 110, 114, 116]⟩ : ByteArray).data.toList c = -1 from let_ix c hnl] at this
    rw [h00]; exact this
  have HNO : Hid (∀ (e : Int) W, Calls Tryz.prog 87 #[.int .i64 e] W fun x w' => x = .panicked (stopL e) ∧ W = w') := Lib.hid fun e W => p_no e W
  have HMU : Hid (∀ W, PS p (c :: r) v op W → Calls Tryz.prog 92 #[.pointer (some ⟨p, 0, none⟩), .string ⟨#[117]⟩] W fun x w' => x = .returned (.tuple #[]) ∧ PS p (r) v op w' ∧ RK p W w') := Lib.hid fun W hW => by
    have := p_must p _ ⟨#[117]⟩ v op W hW
    rw [show (⟨#[117]⟩ : ByteArray).data.toList = [117] from rfl, tkE_some hu] at this
    exact this
  have HFO : Hid (∀ W, PS p (r) v op W → Calls Tryz.prog 102 #[.pointer (some ⟨p, 0, none⟩)] W fun x w' => x = .returned (.int .i64 (n : Int)) ∧ PS p (t) v op w' ∧ RK p W w') := Lib.hid fun W hW => by
    have := p_four p _ v op W hW
    rw [fourV_some hh] at this
    exact this
  obtain ⟨N, hN⟩ : ∃ N : Int, (n : Int) = N := ⟨_, rfl⟩
  rw [hN] at HFO
  have t1 : decide ((56320 : Int) ≤ N) = false := decide_eq_false (by omega)
  have t3 : decide ((55296 : Int) ≤ N) = true := decide_eq_true (by omega)
  have t4 : decide (N ≤ 56319) = true := decide_eq_true (by omega)
  have HM2 : Hid (∀ W, PS p (t) v op W → Calls Tryz.prog 92 #[.pointer (some ⟨p, 0, none⟩), .string ⟨#[92, 117]⟩] W fun x w' => x = .returned (.tuple #[]) ∧ PS p (t1l) v op w' ∧ RK p W w') := Lib.hid fun W hW => by
    have := p_must p _ ⟨#[92, 117]⟩ v op W hW
    rw [show (⟨#[92, 117]⟩ : ByteArray).data.toList = [92, 117] from rfl, tkE_some hu2] at this
    exact this
  have HF2 : Hid (∀ W, PS p (t1l) v op W → Calls Tryz.prog 102 #[.pointer (some ⟨p, 0, none⟩)] W fun x w' => x = .returned (.int .i64 (m : Int)) ∧ PS p (t2l) v op w' ∧ RK p W w') := Lib.hid fun W hW => by
    have := p_four p _ v op W hW
    rw [fourV_some hh2] at this
    exact this
  obtain ⟨M, hM⟩ : ∃ M : Int, (m : Int) = M := ⟨_, rfl⟩
  rw [hM] at HF2
  have u1 : decide (M < 56320) = true := decide_eq_true (by omega)
  clear hbl hr h00 hnl hu hh hN hr1 hu2 hh2 hr2 hM
  go_enter Tryz.func95, Tryz.ntmps95
  go_wp2_with fail
  refine (HX1.out _).mono ?_; rintro x w1 ⟨rfl, rfl⟩
  go_wp2_with fail
  refine (HMU.out _ ⟨b, HBL.out, HR.out⟩).mono ?_; rintro x w_1 ⟨rfl, hst, hk⟩
  have HS1 := Lib.hid hst
  have HK1 := Lib.hid (hk)
  clear hst hk
  go_wp2_with fail
  refine (HFO.out _ HS1.out).mono ?_; rintro x w_2 ⟨rfl, hst, hk⟩
  have HS2 := Lib.hid hst
  have HK2 := Lib.hid (HK1.out.trans hk)
  clear hst hk
  go_wp2_with fail
  refine (HM2.out _ HS2.out).mono ?_; rintro x w_3 ⟨rfl, hst, hk⟩
  have HS3 := Lib.hid hst
  have HK3 := Lib.hid (HK2.out.trans hk)
  clear hst hk
  go_wp2_with fail
  refine (HF2.out _ HS3.out).mono ?_; rintro x w_4 ⟨rfl, hst, hk⟩
  have HS4 := Lib.hid hst
  have HK4 := Lib.hid (HK3.out.trans hk)
  clear hst hk
  go_wp2_with fail
  refine (HNO.out _ _).mono ?_; rintro x w_y ⟨rfl, rfl⟩
  go_wp2_with fail
  exact ⟨rfl, rfl, HK4.out.1⟩
set_option maxRecDepth 100000 in
theorem p_esc_high_mhi (p : Nat) (r : List UInt8) (c : UInt8) (hnl : ∀ k, k < 8 → c ≠ escB k) (hu : tkJ [117] (c :: r) = some r) (n : Nat) (t : List UInt8) (hh : hexsJ 4 0 r = some (n, t)) (hr1 : 55296 ≤ n ∧ n ≤ 56319) (t1l : List UInt8) (hu2 : tkJ [92, 117] t = some t1l) (m : Nat) (t2l : List UInt8) (hh2 : hexsJ 4 0 t1l = some (m, t2l)) (hr2 : 57343 < m) (v : Value) (op : Int) (w : World) (h : PS p (c :: r) v op w) :
    Calls Tryz.prog 95 #[.pointer (some ⟨p, 0, none⟩)] w (PV p v op (.error 40) w) := by
  obtain ⟨b, hbl, hr⟩ := h
  obtain ⟨c0, c1, c2⟩ := hr.cells
  have f0 := hr.frozen 0
  have HR := Lib.hid hr
  have HBL := Lib.hid hbl
  obtain ⟨hb1, hb2, hb3, hb4, -⟩ := tl_cons hbl
  have h00 : b[0]'hb4 = c := at_zero hbl hb4
  have HX1 : Hid (∀ W, Calls Tryz.prog 21 #[.string ⟨#[34, 92, 47, 98, 102, 110, 114, 116]⟩, .int .u8 ((b[0]'hb4).toNat : Int)] W fun x w' => x = .returned (.int .i64 (-1)) ∧ W = w') := Lib.hid fun W => by
    have := ix_any ⟨#[34, 92, 47, 98, 102, 110, 114, 116]⟩ c W
    rw [show Lib.indexByte (⟨#[34, 92, 47, 98, 102, 110, 114, 116]⟩ : ByteArray).data.toList c = -1 from let_ix c hnl] at this
    rw [h00]; exact this
  have HNO : Hid (∀ (e : Int) W, Calls Tryz.prog 87 #[.int .i64 e] W fun x w' => x = .panicked (stopL e) ∧ W = w') := Lib.hid fun e W => p_no e W
  have HMU : Hid (∀ W, PS p (c :: r) v op W → Calls Tryz.prog 92 #[.pointer (some ⟨p, 0, none⟩), .string ⟨#[117]⟩] W fun x w' => x = .returned (.tuple #[]) ∧ PS p (r) v op w' ∧ RK p W w') := Lib.hid fun W hW => by
    have := p_must p _ ⟨#[117]⟩ v op W hW
    rw [show (⟨#[117]⟩ : ByteArray).data.toList = [117] from rfl, tkE_some hu] at this
    exact this
  have HFO : Hid (∀ W, PS p (r) v op W → Calls Tryz.prog 102 #[.pointer (some ⟨p, 0, none⟩)] W fun x w' => x = .returned (.int .i64 (n : Int)) ∧ PS p (t) v op w' ∧ RK p W w') := Lib.hid fun W hW => by
    have := p_four p _ v op W hW
    rw [fourV_some hh] at this
    exact this
  obtain ⟨N, hN⟩ : ∃ N : Int, (n : Int) = N := ⟨_, rfl⟩
  rw [hN] at HFO
  have t1 : decide ((56320 : Int) ≤ N) = false := decide_eq_false (by omega)
  have t3 : decide ((55296 : Int) ≤ N) = true := decide_eq_true (by omega)
  have t4 : decide (N ≤ 56319) = true := decide_eq_true (by omega)
  have HM2 : Hid (∀ W, PS p (t) v op W → Calls Tryz.prog 92 #[.pointer (some ⟨p, 0, none⟩), .string ⟨#[92, 117]⟩] W fun x w' => x = .returned (.tuple #[]) ∧ PS p (t1l) v op w' ∧ RK p W w') := Lib.hid fun W hW => by
    have := p_must p _ ⟨#[92, 117]⟩ v op W hW
    rw [show (⟨#[92, 117]⟩ : ByteArray).data.toList = [92, 117] from rfl, tkE_some hu2] at this
    exact this
  have HF2 : Hid (∀ W, PS p (t1l) v op W → Calls Tryz.prog 102 #[.pointer (some ⟨p, 0, none⟩)] W fun x w' => x = .returned (.int .i64 (m : Int)) ∧ PS p (t2l) v op w' ∧ RK p W w') := Lib.hid fun W hW => by
    have := p_four p _ v op W hW
    rw [fourV_some hh2] at this
    exact this
  obtain ⟨M, hM⟩ : ∃ M : Int, (m : Int) = M := ⟨_, rfl⟩
  rw [hM] at HF2
  have u1 : decide (M < 56320) = false := decide_eq_false (by omega)
  have u2 : decide (57343 < M) = true := decide_eq_true (by omega)
  clear hbl hr h00 hnl hu hh hN hr1 hu2 hh2 hr2 hM
  go_enter Tryz.func95, Tryz.ntmps95
  go_wp2_with fail
  refine (HX1.out _).mono ?_; rintro x w1 ⟨rfl, rfl⟩
  go_wp2_with fail
  refine (HMU.out _ ⟨b, HBL.out, HR.out⟩).mono ?_; rintro x w_1 ⟨rfl, hst, hk⟩
  have HS1 := Lib.hid hst
  have HK1 := Lib.hid (hk)
  clear hst hk
  go_wp2_with fail
  refine (HFO.out _ HS1.out).mono ?_; rintro x w_2 ⟨rfl, hst, hk⟩
  have HS2 := Lib.hid hst
  have HK2 := Lib.hid (HK1.out.trans hk)
  clear hst hk
  go_wp2_with fail
  refine (HM2.out _ HS2.out).mono ?_; rintro x w_3 ⟨rfl, hst, hk⟩
  have HS3 := Lib.hid hst
  have HK3 := Lib.hid (HK2.out.trans hk)
  clear hst hk
  go_wp2_with fail
  refine (HF2.out _ HS3.out).mono ?_; rintro x w_4 ⟨rfl, hst, hk⟩
  have HS4 := Lib.hid hst
  have HK4 := Lib.hid (HK3.out.trans hk)
  clear hst hk
  go_wp2_with fail
  refine (HNO.out _ _).mono ?_; rintro x w_y ⟨rfl, rfl⟩
  go_wp2_with fail
  exact ⟨rfl, rfl, HK4.out.1⟩
set_option maxRecDepth 100000 in
theorem p_esc_high_ok (p : Nat) (r : List UInt8) (c : UInt8) (hnl : ∀ k, k < 8 → c ≠ escB k) (hu : tkJ [117] (c :: r) = some r) (n : Nat) (t : List UInt8) (hh : hexsJ 4 0 r = some (n, t)) (hr1 : 55296 ≤ n ∧ n ≤ 56319) (t1l : List UInt8) (hu2 : tkJ [92, 117] t = some t1l) (m : Nat) (t2l : List UInt8) (hh2 : hexsJ 4 0 t1l = some (m, t2l)) (hr2 : 56320 ≤ m ∧ m ≤ 57343) (v : Value) (op : Int) (w : World) (h : PS p (c :: r) v op w) :
    Calls Tryz.prog 95 #[.pointer (some ⟨p, 0, none⟩)] w (PV p v op (.ok (.int .i64 ((65536 + (n - 55296) * 1024 + (m - 56320) : Nat) : Int), t2l)) w) := by
  obtain ⟨b, hbl, hr⟩ := h
  obtain ⟨c0, c1, c2⟩ := hr.cells
  have f0 := hr.frozen 0
  have HR := Lib.hid hr
  have HBL := Lib.hid hbl
  obtain ⟨hb1, hb2, hb3, hb4, -⟩ := tl_cons hbl
  have h00 : b[0]'hb4 = c := at_zero hbl hb4
  have HX1 : Hid (∀ W, Calls Tryz.prog 21 #[.string ⟨#[34, 92, 47, 98, 102, 110, 114, 116]⟩, .int .u8 ((b[0]'hb4).toNat : Int)] W fun x w' => x = .returned (.int .i64 (-1)) ∧ W = w') := Lib.hid fun W => by
    have := ix_any ⟨#[34, 92, 47, 98, 102, 110, 114, 116]⟩ c W
    rw [show Lib.indexByte (⟨#[34, 92, 47, 98, 102, 110, 114, 116]⟩ : ByteArray).data.toList c = -1 from let_ix c hnl] at this
    rw [h00]; exact this
  have HNO : Hid (∀ (e : Int) W, Calls Tryz.prog 87 #[.int .i64 e] W fun x w' => x = .panicked (stopL e) ∧ W = w') := Lib.hid fun e W => p_no e W
  have HMU : Hid (∀ W, PS p (c :: r) v op W → Calls Tryz.prog 92 #[.pointer (some ⟨p, 0, none⟩), .string ⟨#[117]⟩] W fun x w' => x = .returned (.tuple #[]) ∧ PS p (r) v op w' ∧ RK p W w') := Lib.hid fun W hW => by
    have := p_must p _ ⟨#[117]⟩ v op W hW
    rw [show (⟨#[117]⟩ : ByteArray).data.toList = [117] from rfl, tkE_some hu] at this
    exact this
  have HFO : Hid (∀ W, PS p (r) v op W → Calls Tryz.prog 102 #[.pointer (some ⟨p, 0, none⟩)] W fun x w' => x = .returned (.int .i64 (n : Int)) ∧ PS p (t) v op w' ∧ RK p W w') := Lib.hid fun W hW => by
    have := p_four p _ v op W hW
    rw [fourV_some hh] at this
    exact this
  have HM2 : Hid (∀ W, PS p (t) v op W → Calls Tryz.prog 92 #[.pointer (some ⟨p, 0, none⟩), .string ⟨#[92, 117]⟩] W fun x w' => x = .returned (.tuple #[]) ∧ PS p (t1l) v op w' ∧ RK p W w') := Lib.hid fun W hW => by
    have := p_must p _ ⟨#[92, 117]⟩ v op W hW
    rw [show (⟨#[92, 117]⟩ : ByteArray).data.toList = [92, 117] from rfl, tkE_some hu2] at this
    exact this
  have HF2 : Hid (∀ W, PS p (t1l) v op W → Calls Tryz.prog 102 #[.pointer (some ⟨p, 0, none⟩)] W fun x w' => x = .returned (.int .i64 (m : Int)) ∧ PS p (t2l) v op w' ∧ RK p W w') := Lib.hid fun W hW => by
    have := p_four p _ v op W hW
    rw [fourV_some hh2] at this
    exact this
  obtain ⟨A, B, C, D, e1, e2, e3, e4, e5, e6⟩ := low_bits n m hr1 hr2
  obtain ⟨Z, hZ⟩ : ∃ Z : Int, ((65536 + (n - 55296) * 1024 + (m - 56320) : Nat) : Int) = Z := ⟨_, rfl⟩
  rw [hZ] at e6 ⊢
  obtain ⟨N, hN⟩ : ∃ N : Int, (n : Int) = N := ⟨_, rfl⟩
  rw [hN] at HFO
  obtain ⟨M, hM⟩ : ∃ M : Int, (m : Int) = M := ⟨_, rfl⟩
  rw [hM] at HF2
  rw [hN] at e1
  rw [hM] at e5
  have t1 : decide ((56320 : Int) ≤ N) = false := decide_eq_false (by omega)
  have t3 : decide ((55296 : Int) ≤ N) = true := decide_eq_true (by omega)
  have t4 : decide (N ≤ 56319) = true := decide_eq_true (by omega)
  have u1 : decide (M < 56320) = false := decide_eq_false (by omega)
  have u2 : decide (57343 < M) = false := decide_eq_false (by omega)
  clear hbl hr h00 hnl hu hh hN hr1 hu2 hh2 hr2 hM hZ
  go_enter Tryz.func95, Tryz.ntmps95
  go_wp2_with fail
  refine (HX1.out _).mono ?_; rintro x w1 ⟨rfl, rfl⟩
  go_wp2_with fail
  refine (HMU.out _ ⟨b, HBL.out, HR.out⟩).mono ?_; rintro x w_1 ⟨rfl, hst, hk⟩
  have HS1 := Lib.hid hst
  have HK1 := Lib.hid (hk)
  clear hst hk
  go_wp2_with fail
  refine (HFO.out _ HS1.out).mono ?_; rintro x w_2 ⟨rfl, hst, hk⟩
  have HS2 := Lib.hid hst
  have HK2 := Lib.hid (HK1.out.trans hk)
  clear hst hk
  go_wp2_with fail
  refine (HM2.out _ HS2.out).mono ?_; rintro x w_3 ⟨rfl, hst, hk⟩
  have HS3 := Lib.hid hst
  have HK3 := Lib.hid (HK2.out.trans hk)
  clear hst hk
  go_wp2_with fail
  refine (HF2.out _ HS3.out).mono ?_; rintro x w_4 ⟨rfl, hst, hk⟩
  have HS4 := Lib.hid hst
  have HK4 := Lib.hid (HK3.out.trans hk)
  clear hst hk
  go_wp2_with fail
  go_ret
  exact ⟨rfl, HS4.out, HK4.out⟩
theorem p_escape (p : Nat) (l : List UInt8) (v : Value) (op : Int) (w : World) (h : PS p l v op w) :
    Calls Tryz.prog 95 #[.pointer (some ⟨p, 0, none⟩)] w (PV p v op (fourV (escJ l)) w) := by
  cases l with
  | nil => exact p_esc_nil p v op w h
  | cons c r =>
    rcases letJ_first c with ⟨q, hq, h1, -⟩ | hno
    · have hl := letJ_at q hq
      rw [← h1] at hl
      have he : escJ (c :: r) = some (escP q, r) := by simp only [escJ, hl]
      rw [he]
      match q, hq, h1 with
      | 0, _, h1 => exact p_esc_let0 p r c h1 v op w h
      | 1, _, h1 => exact p_esc_let1 p r c h1 v op w h
      | 2, _, h1 => exact p_esc_let2 p r c h1 v op w h
      | 3, _, h1 => exact p_esc_let3 p r c h1 v op w h
      | 4, _, h1 => exact p_esc_let4 p r c h1 v op w h
      | 5, _, h1 => exact p_esc_let5 p r c h1 v op w h
      | 6, _, h1 => exact p_esc_let6 p r c h1 v op w h
      | 7, _, h1 => exact p_esc_let7 p r c h1 v op w h
    · have he := escJ_u (c :: r) hno
      rw [he]
      cases hu : tkJ [117] (c :: r) with
      | none => exact p_esc_other p r c hno hu v op w h
      | some u =>
        have hur : u = r := by
          rw [tk_head] at hu
          split at hu
          · injection hu with hu; exact hu.symm
          · cases hu
        subst hur
        simp only
        unfold uJ
        cases hh : hexsJ 4 0 u with
        | none => exact p_esc_hexno p u c hno hu hh v op w h
        | some nt =>
          obtain ⟨n, t⟩ := nt
          simp only
          by_cases h1 : 56320 ≤ n ∧ n ≤ 57343
          · rw [if_pos h1]; exact p_esc_low p u c hno hu n t hh h1 v op w h
          · rw [if_neg h1]
            by_cases h2 : 55296 ≤ n ∧ n ≤ 56319
            · rw [if_pos h2]
              unfold lowJ
              cases hu2 : tkJ [92, 117] t with
              | none => exact p_esc_high_no p u c hno hu n t hh h2 hu2 v op w h
              | some t1 =>
                simp only
                cases hh2 : hexsJ 4 0 t1 with
                | none => exact p_esc_high_hexno p u c hno hu n t hh h2 t1 hu2 hh2 v op w h
                | some mt =>
                  obtain ⟨m, t2⟩ := mt
                  simp only
                  by_cases h3 : m < 56320
                  · rw [if_pos (Or.inl h3)]; exact p_esc_high_mlo p u c hno hu n t hh h2 t1 hu2 m t2 hh2 h3 v op w h
                  · by_cases h4 : 57343 < m
                    · rw [if_pos (Or.inr h4)]; exact p_esc_high_mhi p u c hno hu n t hh h2 t1 hu2 m t2 hh2 h4 v op w h
                    · rw [if_neg (by omega)]; exact p_esc_high_ok p u c hno hu n t hh h2 t1 hu2 m t2 hh2 ⟨by omega, by omega⟩ v op w h
            · rw [if_neg h2]
              by_cases h3 : n < 55296
              · exact p_esc_plain_lo p u c hno hu n t hh h3 v op w h
              · exact p_esc_plain_hi p u c hno hu n t hh (by omega) v op w h
end Go.Proofs.YtgclnjogoghhcaaGreatDoor
namespace Go.Proofs.YtgclnjogoghhcaaGreatDoor
open Go.RowKit Go.Lib
theorem acons {P : Program} {ops : Array Oper} {Q : Exit → Act → World → Prop} {md : Region.Mode} {S : World → Prop} (i : Nat) {fuel : Nat} {listed : Array Bool} {a : Act} {w : World} {o : Oper} {rs : List Nat} (ho : ops.toList[i]? = some o)
    (h : ∀ K' : Act → World → Prop, Shut (∀ a w, S w → (S w → wpAnyH P md ops Q S fuel (listed.setIfInBounds i true) a w) → K' a w) → if Region.wanted o (yielded ops a.tmps) = true then Oper.wp P o a w K' Q else K' (a.put o.dst undef) w)
    (hs : AllReadyH P md ops Q S fuel listed a w rs) : AllReadyH P md ops Q S fuel listed a w (i :: rs) :=
  AllReadyH.cons (by rw [← Array.getElem?_toList]; exact ho) h hs
theorem wp_pushI {o : Oper} {a : Act} {K : Act → World → Prop} {Q : Exit → Act → World → Prop} {w : World} (s x : Operand)
    (ho : o.op = .call { callee := .builtin .append, args := #[s, x], argTypes := #[136, 136] }) (B : Nat) (v : Value) (l : List Nat) (hs : a.eval s = v) (hown : OwnI B v l w)
    (ad : Addr) (c : Nat) (n : Nat) (hx : a.eval x = .slice (some ad) 1 c) (hnew : w.cell? ad = some (.int .i64 (n : Int))) (hlen : l.length + 1 ≤ 1000000) (hB : B ≤ w.heap.size)
    (h : ∀ v' w', OwnI B v' (l ++ [n]) w' → w.grownBy w' v.ownBlock → K (a.put o.dst v') w') : o.wp Tryz.prog a w K Q := by
  obtain ⟨i0, hi, hz0, hz1, hz2⟩ := info_parts int_info
  refine wp_append_own w s x 136 ho B 3 i0 (.int .i64 0) 1 8 Tryz.underlying136 hi hz0 hz1 hz2 rfl (by decide) v l.length (natCells l) hs hown ad 1 c [.int .i64 (n : Int)] hx rfl ?_ ?_ (by unfold maxLen; omega) (by omega) hB ?_
  · intro j u hj
    match j, hj with
    | 0, hj =>
      have e : u = .int .i64 (n : Int) := (Option.some.inj hj).symm
      rw [e]; exact hnew
    | j + 1, hj => cases hj
  · intro u hu
    rw [List.mem_singleton] at hu; subst hu; rfl
  · intro v' w' h1 h2 _
    refine h v' w' ?_ h2
    unfold OwnI natCells at *
    rw [List.length_append, List.map_append]
    exact h1
theorem is_yes {p : Nat} {l t : List UInt8} {what : ByteArray} {v : Value} {op : Int} (ht : tkJ what.data.toList l = some t) (w : World) (h : PS p l v op w) :
    Calls Tryz.prog 94 #[.pointer (some ⟨p, 0, none⟩), .string what] w fun x w' => x = .returned (.bool true) ∧ PS p t v op w' ∧ RK p w w' := by
  have := p_is p l what v op w h
  rw [ht] at this; exact this
theorem is_no {p : Nat} {l : List UInt8} {what : ByteArray} {v : Value} {op : Int} (ht : tkJ what.data.toList l = none) (w : World) (h : PS p l v op w) :
    Calls Tryz.prog 94 #[.pointer (some ⟨p, 0, none⟩), .string what] w fun x w' => x = .returned (.bool false) ∧ PS p l v op w' ∧ RK p w w' := by
  have := p_is p l what v op w h
  rw [ht] at this; exact this
theorem OwnI.drewI {B : Nat} {v : Value} {l : List Nat} {w : World} (h : OwnI B v l w) : OwnI B v l w.drew := h
theorem RK.ge {r : Nat} {W W' : World} (h : RK r W W') (hr : r < W.heap.size) : W.heap.size ≤ W'.heap.size := by
  exact h.1.size
def strV (o : Option (List UInt8 × List UInt8)) : Except Int (Value × List UInt8) := match o with
  | none => .error 40
  | some (s, t) => .ok (.string ⟨s.toArray⟩, t)
theorem must_ok {p : Nat} {l t : List UInt8} {what : ByteArray} {v : Value} {op : Int} (ht : tkJ what.data.toList l = some t) (w : World) (h : PS p l v op w) :
    Calls Tryz.prog 92 #[.pointer (some ⟨p, 0, none⟩), .string what] w fun x w' => x = .returned (.tuple #[]) ∧ PS p t v op w' ∧ RK p w w' := by
  have := p_must p l what v op w h
  rw [tkE_some ht] at this; exact this
theorem must_no {p : Nat} {l : List UInt8} {what : ByteArray} {v : Value} {op : Int} (ht : tkJ what.data.toList l = none) (w : World) (h : PS p l v op w) :
    Calls Tryz.prog 92 #[.pointer (some ⟨p, 0, none⟩), .string what] w fun x w' => x = .panicked (stopL 40) ∧ Below p w w' := by
  have := p_must p l what v op w h
  rw [tkE_none ht] at this; exact this
theorem esc_ok {p : Nat} {l t : List UInt8} {n : Nat} {v : Value} {op : Int} (ht : escJ l = some (n, t)) (w : World) (h : PS p l v op w) :
    Calls Tryz.prog 95 #[.pointer (some ⟨p, 0, none⟩)] w fun x w' => x = .returned (.int .i64 (n : Int)) ∧ PS p t v op w' ∧ RK p w w' := by
  have := p_escape p l v op w h
  rw [fourV_some ht] at this; exact this
theorem esc_no {p : Nat} {l : List UInt8} {v : Value} {op : Int} (ht : escJ l = none) (w : World) (h : PS p l v op w) :
    Calls Tryz.prog 95 #[.pointer (some ⟨p, 0, none⟩)] w fun x w' => x = .panicked (stopL 40) ∧ Below p w w' := by
  have := p_escape p l v op w h
  rw [fourV_none ht] at this; exact this
theorem tk_one (c : UInt8) (r : List UInt8) : tkJ [c] (c :: r) = some r := by rw [tk_head]; simp
theorem tk_not {c d : UInt8} (r : List UInt8) (h : d ≠ c) : tkJ [c] (d :: r) = none := by rw [tk_head]; simp [h]
theorem ext_drop {b : ByteArray} {l : List UInt8} (h : b.data.toList = l) (m n : Nat) (hm : m ≤ b.size) (hn : n = b.size) : (b.extract m n).data.toList = l.drop m := by
  have h5 := ext_list b m (b.size - m)
  rw [show m + (b.size - m) = n from by omega, ByteArray.toList_eq, h, List.take_of_length_le (by rw [List.length_drop, ← h, bsz]; exact Nat.le_refl _)] at h5
  exact h5
set_option maxRecDepth 100000 in
theorem p_text_no (p : Nat) (l : List UInt8) (v : Value) (op : Int) (w : World) (h : PS p l v op w) (ht : tkJ [34] l = none) :
    Calls Tryz.prog 91 #[.pointer (some ⟨p, 0, none⟩)] w (PV p v op (.error 40) w) := by
  have HM := Lib.hid (must_no (what := ⟨#[34]⟩) ht w h)
  clear h ht
  go_enter Tryz.func91, Tryz.ntmps91
  go_wp2_with fail
  refine HM.out.mono ?_; rintro x w1 ⟨rfl, hb⟩
  have HB := Lib.hid hb
  clear hb
  go_wp2_with fail
  exact ⟨rfl, rfl, HB.out⟩
set_option maxRecDepth 100000 in
set_option maxHeartbeats 4000000 in
theorem p_text_go (p : Nat) (l t : List UInt8) (v : Value) (op : Int) (hl : l.length ≤ 16384) (hv : validD l = true) (w : World) (h : PS p l v op w) (ht : tkJ [34] l = some t) (hE : ∀ W, RK p w W → EnvU W) :
    Calls Tryz.prog 91 #[.pointer (some ⟨p, 0, none⟩)] w (PV p v op (strV (strJ l)) w) := by
  have hlt := h.lt
  have hk0 := cut_tk _ _ _ (by decide) ht
  have hsj := strJ_go _ _ ht
  obtain ⟨O, hO⟩ : ∃ O, strJ l = O := ⟨_, rfl⟩
  rw [hO] at hsj ⊢
  have HM := Lib.hid (must_ok (what := ⟨#[34]⟩) ht w h)
  have HY := Lib.hid (fun (c : UInt8) (r : List UInt8) (W : World) (hW : PS p (c :: r) v op W) => is_yes (what := ⟨#[c]⟩) (tk_one c r) W hW)
  have HN := Lib.hid (fun (c d : UInt8) (r : List UInt8) (hne : d ≠ c) (W : World) (hW : PS p (d :: r) v op W) => is_no (what := ⟨#[c]⟩) (tk_not r hne) W hW)
  have HN0 := Lib.hid (fun (c : UInt8) (W : World) (hW : PS p [] v op W) => is_no (what := ⟨#[c]⟩) (l := []) rfl W hW)
  have HNO : Hid (∀ (e : Int) W, Calls Tryz.prog 87 #[.int .i64 e] W fun x w' => x = .panicked (stopL e) ∧ W = w') := Lib.hid fun e W => p_no e W
  have HPUT := Lib.hid (fun (L : List Nat) (u : Value) (W : World) (h1 : L.length ≤ 16384) (h2 : ∀ q ∈ L, isPt q = true) (h3 : IntSl u L W) => tput_any L u W h1 h2 h3)
  have HNX : Hid (∀ (b : ByteArray) (W : World), 0 < b.size → b.size ≤ 1000000 → EnvU W → Calls Tryz.prog 96 #[.string b, .int .i64 0] W fun e w' => e = .returned (nextV b.data.toList) ∧ Below W.heap.size W w') := Lib.hid fun b W h1 h2 h3 => by
    have := tnext_any b 0 h1 h2 W h3
    rw [List.drop_zero] at this; exact this
  have HEV := Lib.hid hE
  have HST : Hid (validD t = true ∧ t.length + 1 ≤ l.length ∧ (goJ [] t).map (fun x => (x.1.flatMap encN, x.2)) = O) := Lib.hid ⟨hk0.1.2 hv, by have := hk0.2; simp at this; omega, hsj.symm⟩
  clear h hE hO hsj hk0 ht
  go_enter Tryz.func91, Tryz.ntmps91
  go_wp2_with fail
  refine HM.out.mono ?_; rintro x w1 ⟨rfl, hst, hk⟩
  have HS1 := Lib.hid hst
  have HK1 := Lib.hid hk
  have hw1 := hk.1.size
  have hb1 : w.heap.size ≤ w1.heap.size := hk.1.size
  clear hst hk
  go_wp2_with fail
  go_loopg [3] (t.length + 1) (fun gk lv wr => ∃ (l1 : List UInt8) (L : List Nat) (ov : Value), ov = lv ∧ l1.length + 1 ≤ gk ∧ L.length + l1.length ≤ 16384 ∧ w.heap.size ≤ wr.heap.size ∧ Hid (OwnI w.heap.size ov L wr) ∧ Hid (∀ q ∈ L, isPt q = true) ∧ Hid (validD l1 = true) ∧ Hid (PS p l1 v op wr) ∧ Hid (RK p w wr) ∧ Hid ((goJ L l1).map (fun x => (x.1.flatMap encN, x.2)) = O))
  case atStart => exact ⟨t, [], _, rfl, by omega, by have := HST.out.2.1; simp; omega, hb1, Lib.hid (OwnI.nil _ _), Lib.hid (fun q hq => by cases hq), Lib.hid HST.out.1, HS1, HK1, Lib.hid HST.out.2.2⟩
  case round =>
    rename World => wr
    obtain ⟨l1, L, ov, rfl, hg, hLl, hwr, HO, HP, HV, HS, HK, HG⟩ := hrel
    cases l1 with
    | nil =>
      have HZ : Hid (none = O) := Lib.hid (by have := HG.out; rw [goJ_low _ _ (by decide)] at this; exact this)
      go_wp2_with fail
      refine (HN0.out 34 _ HS.out).mono ?_; rintro x w2 ⟨rfl, hst, hk⟩
      obtain ⟨b, hbl, hr⟩ := hst
      have HK2 := Lib.hid (HK.out.trans hk)
      have hbe : b = ByteArray.empty := by
        apply ByteArray.ext; apply Array.toList_inj.1; rw [hbl]; rfl
      subst hbe
      obtain ⟨c0, c1, c2⟩ := hr.cells
      clear hr hk hbl
      go_wp2_with fail
      refine (HNO.out _ _).mono ?_; rintro x w3 ⟨rfl, rfl⟩
      go_wp2_with fail
      refine ⟨rfl, ?_⟩
      rw [← HZ.out]
      exact ⟨rfl, HK2.out.1⟩
    | cons c r =>
      by_cases h34 : c = 34
      · subst h34
        have HZ : Hid (some (L.flatMap encN, r) = O) := Lib.hid (by have := HG.out; rw [goJ_end] at this; exact this)
        go_wp2_with fail
        refine (HY.out 34 r _ HS.out).mono ?_; rintro x w2 ⟨rfl, hst, hk⟩
        have HS2 := Lib.hid hst
        have HK2 := Lib.hid (HK.out.trans hk)
        have HO2 := Lib.hid (HO.out.rk hk hlt)
        have hlt2 := hst.lt
        clear hst hk
        go_wp2_with fail
        refine (HPUT.out L _ _ (by simp at hLl; omega) HP.out HO2.out.sl).mono ?_; rintro x w3 ⟨rfl, hb⟩
        have HE : Hid (PS p r v op w3 ∧ RK p w w3) := Lib.hid ⟨HS2.out.below hb, HK2.out.trans (RK.of_below hb hlt2)⟩
        clear hb
        go_wp2_with fail
        go_ret
        rw [← HZ.out]
        exact ⟨rfl, HE.out.1, HE.out.2⟩
      · have HN1 := Lib.hid (HN.out 34 c r h34)
        by_cases hlo : c.toNat < 32
        · have HZ : Hid (none = O) := Lib.hid (by have := HG.out; rw [goJ_low _ _ (by exact hlo)] at this; exact this)
          go_wp2_with fail
          refine (HN1.out _ HS.out).mono ?_; rintro x w2 ⟨rfl, hst, hk⟩
          obtain ⟨b, hbl, hr⟩ := hst
          have HK2 := Lib.hid (HK.out.trans hk)
          obtain ⟨hb1, hb2, hb3, hb4, -⟩ := tl_cons hbl
          have h00 : b[0]'hb4 = c := at_zero hbl hb4
          obtain ⟨c0, c1, c2⟩ := hr.cells
          have t1 : decide (((b[0]'hb4).toNat : Int) < 32) = true := decide_eq_true (by rw [h00]; omega)
          clear hr hk hbl h00 hlo h34
          go_wp2_with fail
          refine (HNO.out _ _).mono ?_; rintro x w3 ⟨rfl, rfl⟩
          go_wp2_with fail
          refine ⟨rfl, ?_⟩
          rw [← HZ.out]
          exact ⟨rfl, HK2.out.1⟩
        · by_cases h92 : c = 92
          · subst h92
            have HV2 : Hid (validD r = true) := Lib.hid (by have := HV.out; rw [valid_cons _ _ (by decide)] at this; exact this)
            have HG2 : Hid (Option.map (fun x : List Nat × List UInt8 => (x.1.flatMap encN, x.2)) (match escJ r with | none => none | some (q, u) => goJ (L ++ [q]) u) = O) := Lib.hid (by have := HG.out; rw [goJ_esc] at this; exact this)
            go_wp2_with fail
            refine (HN1.out _ HS.out).mono ?_; rintro x w2 ⟨rfl, hst, hk⟩
            have HS2 := Lib.hid hst
            obtain ⟨b, hbl, hr⟩ := hst
            have HK2 := Lib.hid (HK.out.trans hk)
            have HO2 := Lib.hid (HO.out.rk hk hlt)
            obtain ⟨hb1, hb2, hb3, hb4, -⟩ := tl_cons hbl
            have h00 : b[0]'hb4 = 92 := at_zero hbl hb4
            obtain ⟨c0, c1, c2⟩ := hr.cells
            have t1 : decide (((b[0]'hb4).toNat : Int) < 32) = false := decide_eq_false (by rw [h00]; decide)
            clear hr hk hbl h00 hlo h34 HN1
            go_wp2_with fail
            refine (HY.out 92 r _ HS2.out).mono ?_; rintro x w3 ⟨rfl, hst, hk⟩
            have HS3 := Lib.hid hst
            have HK3 := Lib.hid (HK2.out.trans hk)
            have HO3 := Lib.hid (HO2.out.rk hk hlt)
            clear hst hk c0 c1 c2 t1
            go_wp2_with fail
            cases hE : escJ r with
            | none =>
              have HZ : Hid (none = O) := Lib.hid (by have := HG2.out; rw [hE] at this; exact this)
              refine (esc_no hE _ HS3.out).mono ?_; rintro x w4 ⟨rfl, hb⟩
              have HB4 := Lib.hid (HK3.out.1.trans hb)
              clear hb hE
              go_wp2_with fail
              refine ⟨rfl, ?_⟩
              rw [← HZ.out]
              exact ⟨rfl, HB4.out⟩
            | some qt =>
              obtain ⟨q, u⟩ := qt
              obtain ⟨k1, k2, k3⟩ := cut_esc _ q u hE
              have HG3 : Hid ((goJ (L ++ [q]) u).map (fun x => (x.1.flatMap encN, x.2)) = O) := Lib.hid (by have := HG2.out; rw [hE] at this; exact this)
              have HV3 : Hid (validD u = true) := Lib.hid (k1.2 HV2.out)
              have HP2 : Hid (∀ y ∈ L ++ [q], isPt y = true) := Lib.hid fun y hy => by
                rcases List.mem_append.1 hy with h | h
                · exact HP.out y h
                · rw [List.mem_singleton] at h; rw [h]; exact k3
              have hlen : L.length + 1 + u.length ≤ 16384 := by simp only [List.length_cons] at hLl; omega
              have hgu : u.length + 1 ≤ gk - 1 := by simp only [List.length_cons] at hg; omega
              refine (esc_ok hE _ HS3.out).mono ?_; rintro x w4 ⟨rfl, hst, hk⟩
              have HS4 := Lib.hid hst
              have HK4 := Lib.hid (HK3.out.trans hk)
              have HO4 := Lib.hid (HO3.out.rk hk hlt)
              have hlt4 := hst.lt
              have hw4 := HK4.out.1.size
              have hwr4 : w.heap.size ≤ w4.heap.size := HK4.out.ge hlt
              clear hst hk hE k1 k2 k3 hLl hg HG2 HG
              go_wp2_with (at_builtin; refine wpList_pushI rfl _ _ rfl w.heap.size ov L rfl (HO4.out.alloc _) ⟨w4.heap.size, 0, none⟩ 1 q rfl (new_cell0 w4 _ _) ?c1 ?c2 ?_)
              case c1 => omega
              case c2 => simp; omega
              intro v' w5 hown' hgrow
              have HO5 := Lib.hid hown'
              have HK5 : Hid (RK p w w5) := Lib.hid ((HK4.out.trans (RK.of_below ((Below.refl w4.heap.size w4).alloc (Nat.le_refl _) _) hlt4)).grown hgrow HO4.out.lt hlt)
              have HS5 : Hid (PS p u v op w5) := Lib.hid ((HS4.out.below ((Below.refl w4.heap.size w4).alloc (Nat.le_refl _) _)).same (hgrow.block p (by simp; omega) (fun e => by have := HO4.out.lt p e.symm; omega)))
              have hw5 := HK5.out.ge hlt
              clear hown' hgrow
              go_wp2_with fail
              go_roundg (gk - 1)
              case measure => omega
              case rel => exact ⟨u, L ++ [q], _, rfl, hgu, by simp; omega, hw5, HO5, HP2, HV3, HS5, HK5, HG3⟩
          · have HN2 := Lib.hid (HN.out 92 c r h92)
            have hne : c :: r ≠ [] := by simp
            have hvs := (valid_step (c :: r) hne)
            rw [HV.out] at hvs
            have hvs2 := hvs.symm
            rw [Bool.and_eq_true] at hvs2
            obtain ⟨hw, hv2⟩ := hvs2
            obtain ⟨d1, d2, d3, d4⟩ := decode_pt (c :: r) hne hw
            have HNV : Hid (nextV (c :: r) = .tuple #[.int .i64 ((decodeL (c :: r)).1 : Nat), .int .i64 ((decodeL (c :: r)).2 : Nat), .int .i64 0]) := Lib.hid (by unfold nextV; rw [hw, if_pos rfl])
            have HG3 : Hid ((goJ (L ++ [(decodeL (c :: r)).1]) ((c :: r).drop (decodeL (c :: r)).2)).map (fun x => (x.1.flatMap encN, x.2)) = O) := Lib.hid (by have := HG.out; rw [goJ_step _ _ _ h34 hlo h92] at this; exact this)
            have HV3 := Lib.hid hv2
            have HP2 : Hid (∀ y ∈ L ++ [(decodeL (c :: r)).1], isPt y = true) := Lib.hid fun y hy => by
              rcases List.mem_append.1 hy with h | h
              · exact HP.out y h
              · rw [List.mem_singleton] at h; rw [h]; exact d1
            clear hvs hv2 hw d1 d4 HG
            generalize (decodeL (c :: r)).2 = m at *
            generalize (decodeL (c :: r)).1 = q at *
            have hdl : ((c :: r).drop m).length + m = (c :: r).length := by rw [List.length_drop]; omega
            go_wp2_with fail
            refine (HN1.out _ HS.out).mono ?_; rintro x w2 ⟨rfl, hst, hk⟩
            have HS2 := Lib.hid hst
            obtain ⟨b, hbl, hr⟩ := hst
            have HK2 := Lib.hid (HK.out.trans hk)
            have HO2 := Lib.hid (HO.out.rk hk hlt)
            obtain ⟨hb1, hb2, hb3, hb4, -⟩ := tl_cons hbl
            have h00 : b[0]'hb4 = c := at_zero hbl hb4
            obtain ⟨c0, c1, c2⟩ := hr.cells
            have t1 : decide (((b[0]'hb4).toNat : Int) < 32) = false := decide_eq_false (by rw [h00]; omega)
            clear hr hk h00 hlo h34 HN1 hbl
            go_wp2_with fail
            refine (HN2.out _ HS2.out).mono ?_; rintro x w3 ⟨rfl, hst, hk⟩
            have HK3 := Lib.hid (HK2.out.trans hk)
            have HO3 := Lib.hid (HO2.out.rk hk hlt)
            clear hk c0 c1 c2 t1 h92 HN2
            obtain ⟨bq, hbl, hr⟩ := hst
            obtain ⟨hq1, hq2, hq3, hq4, hq5⟩ := tl_cons hbl
            obtain ⟨c0, c1, c2⟩ := hr.cells
            have HR3 := Lib.hid hr
            have hsl : bq.size = (c :: r).length := by rw [hq5]; rfl
            have HX : Hid (∀ W, EnvU W → Calls Tryz.prog 96 #[.string bq, .int .i64 0] W fun e w' => e = .returned (.tuple #[.int .i64 (q : Int), .int .i64 (m : Int), .int .i64 0]) ∧ Below W.heap.size W w') := Lib.hid fun W hW => by
              have := HNX.out bq W hq4 (by rw [hsl]; omega) hW
              rw [hbl, HNV.out] at this; exact this
            obtain ⟨b1, hb1e⟩ : ∃ b1, bq.extract m bq.size = b1 := ⟨_, rfl⟩
            have hmb : m ≤ bq.size := by rw [hsl]; exact d3
            have hmi : (m : Int) ≤ (bq.size : Int) := by omega
            have hb1l := ext_drop hbl m bq.size hmb rfl
            rw [hb1e] at hb1l
            have HB1 := Lib.hid hb1l
            clear hr hbl hb1l hq5 hsl
            go_wp2_with fail
            refine (HX.out _ (HEV.out _ HK3.out)).mono ?_; rintro x w4 ⟨rfl, hb⟩
            have HR4 := Lib.hid (HR3.out.below hb)
            have HK4 := Lib.hid (HK3.out.trans (RK.of_below hb HR3.out.lt))
            have HO4 := Lib.hid (HO3.out.below hb)
            clear hb c0 c1 c2
            obtain ⟨c0, c1, c2⟩ := HR4.out.cells
            have hlt4 := HR4.out.lt
            have hwr4 : w.heap.size ≤ w4.heap.size := HK4.out.ge hlt
            have e0 : w4.drew.cell? ⟨p, 0, none⟩ = some (.string bq) := c0
            have e1 : ∀ o, (w4.drew.alloc o).cell? ⟨p, 0, none⟩ = some (.string bq) := fun o => by
              rw [World.cell?_alloc_lt _ _ _ (by exact hlt4)]; exact c0
            go_wp2_with fail
            refine wp_region_held_drew (S := fun _ => True) (by kernel_rfl) trivial (fun hHeld => ?_)
            refine tky 0 (some 23) (v := ?_) rfl (by kernel_rfl) (by kernel_rfl) (by kernel_rfl) (fun _ _ _ h => h) ?_ hHeld ?_
            rotate_left
            focus (intro w hSw; go_simp; (try with_reducible rfl); done)
            simp only [Act.put, List.setIfInBounds_toArray, List.set_cons_zero, List.set_cons_succ]
            refine tky 1 (some 24) (v := ?_) rfl (by kernel_rfl) (by kernel_rfl) (by kernel_rfl) (fun _ _ _ h => h) ?_ hHeld ?_
            rotate_left
            focus (intro w hSw; go_simp; (try with_reducible rfl); done)
            simp only [Act.put, List.setIfInBounds_toArray, List.set_cons_zero, List.set_cons_succ]
            refine tky 2 (some 25) (v := ?_) rfl (by kernel_rfl) (by kernel_rfl) (by kernel_rfl) (fun _ _ _ h => h) ?_ hHeld ?_
            rotate_left
            focus (intro w hSw; go_simp; (try with_reducible rfl); done)
            simp only [Act.put, List.setIfInBounds_toArray, List.set_cons_zero, List.set_cons_succ]
            refine tky 5 (some 28) (v := ?_) rfl (by kernel_rfl) (by kernel_rfl) (by kernel_rfl) (fun _ _ _ h => h) ?_ hHeld ?_
            rotate_left
            focus (intro w hSw; go_simp; (try with_reducible rfl); done)
            simp only [Act.put, List.setIfInBounds_toArray, List.set_cons_zero, List.set_cons_succ]
            refine tky 6 (some 29) (v := ?_) rfl (by kernel_rfl) (by kernel_rfl) (by kernel_rfl) (fun _ _ _ h => h) ?_ hHeld ?_
            rotate_left
            focus (intro w hSw; go_simp; (try with_reducible rfl); done)
            simp only [Act.put, List.setIfInBounds_toArray, List.set_cons_zero, List.set_cons_succ]
            refine tky 7 (some 30) (v := ?_) rfl (by kernel_rfl) (by kernel_rfl) (by kernel_rfl) (fun _ _ _ h => h) ?_ hHeld ?_
            rotate_left
            focus (intro w hSw; go_simp; (try with_reducible rfl); done)
            simp only [Act.put, List.setIfInBounds_toArray, List.set_cons_zero, List.set_cons_succ]
            refine tky 9 (some 32) (v := ?_) rfl (by kernel_rfl) (by kernel_rfl) (by kernel_rfl) (fun _ _ _ h => h) ?_ hHeld ?_
            rotate_left
            focus (intro w hSw; go_simp; (try with_reducible rfl); done)
            simp only [Act.put, List.setIfInBounds_toArray, List.set_cons_zero, List.set_cons_succ]
            refine wpAnyH_ready (rs := [3, 8]) (by kernel_rfl) (by simp) ?_
            refine acons 3 rfl (fun K hK => ?_) ?_
            · go_simp
              refine hK.out _ _ trivial (fun _ => ?_)
              clear hK K
              (try simp only [Act.put, List.setIfInBounds_toArray, List.set_cons_zero, List.set_cons_succ])
              refine wpAnyH_ready (rs := [4, 8]) (by kernel_rfl) (by simp) ?_
              refine acons 4 rfl (fun K hK => ?_) ?_
              · rw [if_pos]
                rotate_left
                focus kernel_rfl
                refine wp_pushI _ _ rfl w.heap.size ov L rfl (by exact (HO4.out.drewI.alloc _)) ⟨w4.heap.size, 0, none⟩ 1 q rfl (by exact (new_cell0 w4.drew _ _)) (by show _ ≤ _; omega) (by show _ ≤ Array.size _; simp; omega) ?_
                intro v' w5 hown' hgrow
                have hb45 : Below w4.heap.size w4 (w4.drew.alloc (.cells #[.int .i64 (q : Int)] 3)) := ((Below.refl w4.heap.size w4).drew).alloc (Nat.le_refl _) _
                have HO5 := Lib.hid hown'
                have HK5 : Hid (RK p w w5) := Lib.hid ((HK4.out.trans (RK.of_below hb45 hlt4)).grown hgrow HO4.out.lt hlt)
                have HR5 : Hid (RdP p bq v op w5) := Lib.hid ((hgrow.block p (by simp; omega) (fun e => by have := HO4.out.lt p e.symm; omega)).trans (HR4.out.below hb45))
                have hw5 := HK5.out.ge hlt
                clear hown' hgrow
                have g0 := HR5.out.cells.1
                have f5 := HR5.out.frozen 0
                (try dsimp only)
                refine hK.out _ _ trivial (fun _ => ?_)
                clear hK K
                (try simp only [Act.put, List.setIfInBounds_toArray, List.set_cons_zero, List.set_cons_succ])
                refine tky 11 (some 3) (v := ?_) rfl (by kernel_rfl) (by kernel_rfl) (by kernel_rfl) (fun _ _ _ h => h) ?_ hHeld ?_
                rotate_left
                focus (intro w hSw; go_simp; (try with_reducible rfl); done)
                simp only [Act.put, List.setIfInBounds_toArray, List.set_cons_zero, List.set_cons_succ]
                refine rcons 8 rfl (by kernel_rfl) (fun K hK => ?_)
                go_simp
                refine hK.out _ _ trivial (fun _ => ?_)
                clear hK K
                (try simp only [Act.put, List.setIfInBounds_toArray, List.set_cons_zero, List.set_cons_succ])
                refine tky 10 (some 33) (v := ?_) rfl (by kernel_rfl) (by kernel_rfl) (by kernel_rfl) (fun _ _ _ h => h) ?_ hHeld ?_
                rotate_left
                focus (intro w hSw; go_simp; (try with_reducible rfl); done)
                simp only [Act.put, List.setIfInBounds_toArray, List.set_cons_zero, List.set_cons_succ]
                refine tky 12 (some 34) (v := ?_) rfl (by kernel_rfl) (by kernel_rfl) (by kernel_rfl) (fun _ _ _ h => h) ?_ hHeld ?_
                rotate_left
                focus (intro w hSw; go_simp; (try with_reducible rfl); done)
                simp only [Act.put, List.setIfInBounds_toArray, List.set_cons_zero, List.set_cons_succ]
                refine tky 13 (some 35) (v := ?_) rfl (by kernel_rfl) (by kernel_rfl) (by kernel_rfl) (fun _ _ _ h => h) ?_ hHeld ?_
                rotate_left
                focus (intro w hSw; go_simp; (try with_reducible rfl); done)
                simp only [Act.put, List.setIfInBounds_toArray, List.set_cons_zero, List.set_cons_succ]
                refine rcons 14 rfl (by kernel_rfl) (fun K hK => ?_)
                go_simp
                refine hK.out _ _ trivial (fun _ => ?_)
                clear hK K
                (try simp only [Act.put, List.setIfInBounds_toArray, List.set_cons_zero, List.set_cons_succ])
                refine wpAnyH_done (by kernel_rfl) ?_ _
                have HS6 : Hid (PS p ((c :: r).drop m) v op (w5.setCell ⟨p, 0, none⟩ (.string b1))) := Lib.hid ⟨b1, HB1.out, HR5.out.str b1⟩
                have HK6 : Hid (RK p w (w5.setCell ⟨p, 0, none⟩ (.string b1))) := Lib.hid (HK5.out.trans (RK.set p 0 _ _))
                have HO6 : Hid (OwnI w.heap.size v' (L ++ [q]) (w5.setCell ⟨p, 0, none⟩ (.string b1))) := Lib.hid (HO5.out.rk (RK.set p 0 _ _) hlt)
                have hw6 := HK6.out.ge hlt
                go_wp2_with fail
                go_roundg (gk - 1)
                case measure => omega
                case rel => exact ⟨(c :: r).drop m, L ++ [q], _, rfl, by omega, by simp only [List.length_append, List.length_cons, List.length_nil] at *; omega, hw6, HO6, HP2, HV3, HS6, HK6, HG3⟩
              refine acons 8 rfl (fun K hK => ?_) ?_
              · go_simp
                refine hK.out _ _ trivial (fun _ => ?_)
                clear hK K
                (try simp only [Act.put, List.setIfInBounds_toArray, List.set_cons_zero, List.set_cons_succ])
                refine tky 10 (some 33) (v := ?_) rfl (by kernel_rfl) (by kernel_rfl) (by kernel_rfl) (fun _ _ _ h => h) ?_ hHeld ?_
                rotate_left
                focus (intro w hSw; go_simp; (try with_reducible rfl); done)
                simp only [Act.put, List.setIfInBounds_toArray, List.set_cons_zero, List.set_cons_succ]
                refine rcons 4 rfl (by kernel_rfl) (fun K hK => ?_)
                rw [if_pos]
                rotate_left
                focus kernel_rfl
                refine wp_pushI _ _ rfl w.heap.size ov L rfl (by exact (HO4.out.drewI.alloc _)) ⟨w4.heap.size, 0, none⟩ 1 q rfl (by exact (new_cell0 w4.drew _ _)) (by show _ ≤ _; omega) (by show _ ≤ Array.size _; simp; omega) ?_
                intro v' w5 hown' hgrow
                have hb45 : Below w4.heap.size w4 (w4.drew.alloc (.cells #[.int .i64 (q : Int)] 3)) := ((Below.refl w4.heap.size w4).drew).alloc (Nat.le_refl _) _
                have HO5 := Lib.hid hown'
                have HK5 : Hid (RK p w w5) := Lib.hid ((HK4.out.trans (RK.of_below hb45 hlt4)).grown hgrow HO4.out.lt hlt)
                have HR5 : Hid (RdP p bq v op w5) := Lib.hid ((hgrow.block p (by simp; omega) (fun e => by have := HO4.out.lt p e.symm; omega)).trans (HR4.out.below hb45))
                have hw5 := HK5.out.ge hlt
                clear hown' hgrow
                have g0 := HR5.out.cells.1
                have f5 := HR5.out.frozen 0
                (try dsimp only)
                refine hK.out _ _ trivial (fun _ => ?_)
                clear hK K
                (try simp only [Act.put, List.setIfInBounds_toArray, List.set_cons_zero, List.set_cons_succ])
                refine tky 11 (some 3) (v := ?_) rfl (by kernel_rfl) (by kernel_rfl) (by kernel_rfl) (fun _ _ _ h => h) ?_ hHeld ?_
                rotate_left
                focus (intro w hSw; go_simp; (try with_reducible rfl); done)
                simp only [Act.put, List.setIfInBounds_toArray, List.set_cons_zero, List.set_cons_succ]
                refine tky 12 (some 34) (v := ?_) rfl (by kernel_rfl) (by kernel_rfl) (by kernel_rfl) (fun _ _ _ h => h) ?_ hHeld ?_
                rotate_left
                focus (intro w hSw; go_simp; (try with_reducible rfl); done)
                simp only [Act.put, List.setIfInBounds_toArray, List.set_cons_zero, List.set_cons_succ]
                refine tky 13 (some 35) (v := ?_) rfl (by kernel_rfl) (by kernel_rfl) (by kernel_rfl) (fun _ _ _ h => h) ?_ hHeld ?_
                rotate_left
                focus (intro w hSw; go_simp; (try with_reducible rfl); done)
                simp only [Act.put, List.setIfInBounds_toArray, List.set_cons_zero, List.set_cons_succ]
                refine rcons 14 rfl (by kernel_rfl) (fun K hK => ?_)
                go_simp
                refine hK.out _ _ trivial (fun _ => ?_)
                clear hK K
                (try simp only [Act.put, List.setIfInBounds_toArray, List.set_cons_zero, List.set_cons_succ])
                refine wpAnyH_done (by kernel_rfl) ?_ _
                have HS6 : Hid (PS p ((c :: r).drop m) v op (w5.setCell ⟨p, 0, none⟩ (.string b1))) := Lib.hid ⟨b1, HB1.out, HR5.out.str b1⟩
                have HK6 : Hid (RK p w (w5.setCell ⟨p, 0, none⟩ (.string b1))) := Lib.hid (HK5.out.trans (RK.set p 0 _ _))
                have HO6 : Hid (OwnI w.heap.size v' (L ++ [q]) (w5.setCell ⟨p, 0, none⟩ (.string b1))) := Lib.hid (HO5.out.rk (RK.set p 0 _ _) hlt)
                have hw6 := HK6.out.ge hlt
                go_wp2_with fail
                go_roundg (gk - 1)
                case measure => omega
                case rel => exact ⟨(c :: r).drop m, L ++ [q], _, rfl, by omega, by simp only [List.length_append, List.length_cons, List.length_nil] at *; omega, hw6, HO6, HP2, HV3, HS6, HK6, HG3⟩
              exact AllReadyH.nil
            refine acons 8 rfl (fun K hK => ?_) ?_
            · go_simp
              refine hK.out _ _ trivial (fun _ => ?_)
              clear hK K
              (try simp only [Act.put, List.setIfInBounds_toArray, List.set_cons_zero, List.set_cons_succ])
              refine tky 10 (some 33) (v := ?_) rfl (by kernel_rfl) (by kernel_rfl) (by kernel_rfl) (fun _ _ _ h => h) ?_ hHeld ?_
              rotate_left
              focus (intro w hSw; go_simp; (try with_reducible rfl); done)
              simp only [Act.put, List.setIfInBounds_toArray, List.set_cons_zero, List.set_cons_succ]
              refine rcons 3 rfl (by kernel_rfl) (fun K hK => ?_)
              go_simp
              refine hK.out _ _ trivial (fun _ => ?_)
              clear hK K
              (try simp only [Act.put, List.setIfInBounds_toArray, List.set_cons_zero, List.set_cons_succ])
              refine rcons 4 rfl (by kernel_rfl) (fun K hK => ?_)
              rw [if_pos]
              rotate_left
              focus kernel_rfl
              refine wp_pushI _ _ rfl w.heap.size ov L rfl (by exact (HO4.out.drewI.alloc _)) ⟨w4.heap.size, 0, none⟩ 1 q rfl (by exact (new_cell0 w4.drew _ _)) (by show _ ≤ _; omega) (by show _ ≤ Array.size _; simp; omega) ?_
              intro v' w5 hown' hgrow
              have hb45 : Below w4.heap.size w4 (w4.drew.alloc (.cells #[.int .i64 (q : Int)] 3)) := ((Below.refl w4.heap.size w4).drew).alloc (Nat.le_refl _) _
              have HO5 := Lib.hid hown'
              have HK5 : Hid (RK p w w5) := Lib.hid ((HK4.out.trans (RK.of_below hb45 hlt4)).grown hgrow HO4.out.lt hlt)
              have HR5 : Hid (RdP p bq v op w5) := Lib.hid ((hgrow.block p (by simp; omega) (fun e => by have := HO4.out.lt p e.symm; omega)).trans (HR4.out.below hb45))
              have hw5 := HK5.out.ge hlt
              clear hown' hgrow
              have g0 := HR5.out.cells.1
              have f5 := HR5.out.frozen 0
              (try dsimp only)
              refine hK.out _ _ trivial (fun _ => ?_)
              clear hK K
              (try simp only [Act.put, List.setIfInBounds_toArray, List.set_cons_zero, List.set_cons_succ])
              refine tky 11 (some 3) (v := ?_) rfl (by kernel_rfl) (by kernel_rfl) (by kernel_rfl) (fun _ _ _ h => h) ?_ hHeld ?_
              rotate_left
              focus (intro w hSw; go_simp; (try with_reducible rfl); done)
              simp only [Act.put, List.setIfInBounds_toArray, List.set_cons_zero, List.set_cons_succ]
              refine tky 12 (some 34) (v := ?_) rfl (by kernel_rfl) (by kernel_rfl) (by kernel_rfl) (fun _ _ _ h => h) ?_ hHeld ?_
              rotate_left
              focus (intro w hSw; go_simp; (try with_reducible rfl); done)
              simp only [Act.put, List.setIfInBounds_toArray, List.set_cons_zero, List.set_cons_succ]
              refine tky 13 (some 35) (v := ?_) rfl (by kernel_rfl) (by kernel_rfl) (by kernel_rfl) (fun _ _ _ h => h) ?_ hHeld ?_
              rotate_left
              focus (intro w hSw; go_simp; (try with_reducible rfl); done)
              simp only [Act.put, List.setIfInBounds_toArray, List.set_cons_zero, List.set_cons_succ]
              refine rcons 14 rfl (by kernel_rfl) (fun K hK => ?_)
              go_simp
              refine hK.out _ _ trivial (fun _ => ?_)
              clear hK K
              (try simp only [Act.put, List.setIfInBounds_toArray, List.set_cons_zero, List.set_cons_succ])
              refine wpAnyH_done (by kernel_rfl) ?_ _
              have HS6 : Hid (PS p ((c :: r).drop m) v op (w5.setCell ⟨p, 0, none⟩ (.string b1))) := Lib.hid ⟨b1, HB1.out, HR5.out.str b1⟩
              have HK6 : Hid (RK p w (w5.setCell ⟨p, 0, none⟩ (.string b1))) := Lib.hid (HK5.out.trans (RK.set p 0 _ _))
              have HO6 : Hid (OwnI w.heap.size v' (L ++ [q]) (w5.setCell ⟨p, 0, none⟩ (.string b1))) := Lib.hid (HO5.out.rk (RK.set p 0 _ _) hlt)
              have hw6 := HK6.out.ge hlt
              go_wp2_with fail
              go_roundg (gk - 1)
              case measure => omega
              case rel => exact ⟨(c :: r).drop m, L ++ [q], _, rfl, by omega, by simp only [List.length_append, List.length_cons, List.length_nil] at *; omega, hw6, HO6, HP2, HV3, HS6, HK6, HG3⟩
            exact AllReadyH.nil
theorem p_text (p : Nat) (l : List UInt8) (v : Value) (op : Int) (hl : l.length ≤ 16384) (hv : validD l = true) (w : World) (h : PS p l v op w) (hE : ∀ W, RK p w W → EnvU W) :
    Calls Tryz.prog 91 #[.pointer (some ⟨p, 0, none⟩)] w (PV p v op (strV (strJ l)) w) := by
  cases ht : tkJ [34] l with
  | none => rw [strJ_no _ ht]; exact p_text_no p l v op w h ht
  | some t => exact p_text_go p l t v op hl hv w h ht hE
end Go.Proofs.YtgclnjogoghhcaaGreatDoor
namespace Go.Proofs.YtgclnjogoghhcaaGreatDoor
open Go.RowKit Go.Maps
theorem names_keyed : Keyed Tryz.prog 9 := string_keyed Tryz.underlying9
theorem names_zero (w : World) : (zeroValue 3).run Tryz.prog w = .ok (.int .i64 0) w := by kernel_rfl
theorem names_key (x : ByteArray) (h : x.size ≤ maxLen) : keyOf Tryz.prog 9 (.string x) = some (.string x.data.toList) := Go.WideMaps.keyOf_string_mk Tryz.underlying9 h
/-- A map of the call's own that holds 1 at each of some names, and nothing else. -/
def NamesM (bm : Nat) (L : List (List UInt8)) (W : World) : Prop := ∃ (n : Nat) (D : DataW Unit), n ≤ L.length ∧ W.ownsMap Tryz.prog 9 (plainElem Tryz.prog 3) bm n D ∧ IsMap D ∧
  ∀ x : List UInt8, D.atKey (.string x) (.lit (.int .i64 0)) = .lit (.int .i64 (if amongB L x then 1 else 0))
theorem NamesM.made (W : World) : NamesM W.heap.size [] (W.alloc (.map #[] 0)) :=
  ⟨0, .map [], Nat.le_refl _, World.ownsMap_made _ _ _ _, isMap_empty, fun x => rfl⟩
theorem NamesM.lt {bm : Nat} {L : List (List UInt8)} {W : World} (h : NamesM bm L W) : bm < W.heap.size := by
  obtain ⟨n, D, _, h, _⟩ := h; exact h.lt
theorem NamesM.keep {bm : Nat} {L : List (List UInt8)} {W W' : World} (h : NamesM bm L W) (he : W'.heap[bm]? = W.heap[bm]?) : NamesM bm L W' := by
  obtain ⟨n, D, h0, ⟨es, clock, hb, F, hs, hD⟩, h2⟩ := h
  exact ⟨n, D, h0, ⟨es, clock, he.trans hb, F, hs, hD⟩, h2⟩
theorem NamesM.below {bm : Nat} {L : List (List UInt8)} {W W' : World} (h : NamesM bm L W) (hb : Below W.heap.size W W') : NamesM bm L W' := h.keep (hb.block bm h.lt)
theorem NamesM.grown {bm : Nat} {L : List (List UInt8)} {W W' : World} {row : Option Nat} (h : NamesM bm L W) (hb : W.grownBy W' row) (hne : some bm ≠ row) : NamesM bm L W' := h.keep (hb.block bm h.lt hne)
theorem NamesM.lookup {bm : Nat} {L : List (List UInt8)} {W : World} (h : NamesM bm L W) (x : ByteArray) (hx : x.size ≤ maxLen) :
    (Instr.lookup 135 (.map (some bm)) (.string x) false).run Tryz.prog W = .ok (.int .i64 (if amongB L x.data.toList then 1 else 0)) W := by
  obtain ⟨n, D, h0, h1, h2, h3⟩ := h
  obtain ⟨c, hrun, hat, hwc⟩ := h1.lookup_int names_keyed Tryz.underlying135 Tryz.underlying3 (names_zero W) (names_key x hx)
  rw [hrun]
  have := hat.symm.trans (h3 x.data.toList)
  simp only [DataW.lit.injEq, Lit.int.injEq, true_and] at this
  rw [this]
theorem NamesM.update {bm : Nat} {L : List (List UInt8)} {W : World} (h : NamesM bm L W) (x : ByteArray) (hx : x.size ≤ maxLen) (hL : L.length < 1000000) :
    ∃ W', (Instr.mapUpdate 135 (.map (some bm)) (.string x) (.int .i64 1)).run Tryz.prog W = .ok () W' ∧ NamesM bm (x.data.toList :: L) W' ∧ W.grownBy W' (some bm) := by
  obtain ⟨n, D, h0, h1, h2, h3⟩ := h
  obtain ⟨W', hrun, r1, r2⟩ := h1.update (kl := .string x.data.toList) (d := .lit (.int .i64 1)) (ps := []) names_keyed Tryz.underlying135 (by unfold maxLen; omega) (names_key x hx) (plainElem_int Tryz.underlying3 (by decide))
  refine ⟨W', hrun, ⟨n + 1, _, by simp; omega, r1, h2.put _ _, ?_⟩, r2⟩
  intro y
  by_cases hy : y = x.data.toList
  · subst hy
    rw [atKey_put_same h2 (by trivial)]
    have : amongB (x.data.toList :: L) x.data.toList = true := by unfold amongB; simp
    rw [this]; rfl
  · rw [atKey_put_other (fun e => hy (by injection e)), h3 y]
    have : amongB (x.data.toList :: L) y = amongB L y := by
      unfold amongB
      rw [List.any_cons]
      have : (x.data.toList == y) = false := beq_eq_false_iff_ne.2 fun e => hy e.symm
      rw [this, Bool.false_or]
    rw [this]
end Go.Proofs.YtgclnjogoghhcaaGreatDoor
namespace Go.Proofs.YtgclnjogoghhcaaGreatDoor
open Go.RowKit Go.Lib
/-- All older blocks but two stay. -/
def MK (p m : Nat) (W W' : World) : Prop := Below p W W' ∧ ∀ (k : Nat) (o : Obj), W.heap[k]? = some o → k ≠ p → k ≠ m → W'.heap[k]? = some o
theorem MK.of_rk {p m : Nat} {W W' : World} (h : RK p W W') : MK p m W W' := ⟨h.1, fun k o hk h1 _ => h.2 k o hk h1⟩
theorem MK.rk {p m : Nat} {W W' W'' : World} (h : MK p m W W') (h' : RK p W' W'') : MK p m W W'' := ⟨h.1.trans h'.1, fun k o hk h1 h2 => h'.2 k o (h.2 k o hk h1 h2) h1⟩
theorem MK.grown {p m : Nat} {W W' W'' : World} (h : MK p m W W') (hg : W'.grownBy W'' (some m)) (hp : p < m) (hlt : m < W'.heap.size) : MK p m W W'' :=
  ⟨h.1.grown hg (by omega) (fun k hk => by injection hk with hk; omega), fun k o hk h1 h2 => (hg.block k (heap_lt (h.2 k o hk h1 h2)) (fun e => h2 (by injection e))).trans (h.2 k o hk h1 h2)⟩
theorem NamesM.rk {bm p : Nat} {L : List (List UInt8)} {W W' : World} (h : NamesM bm L W) (hk : RK p W W') (hne : bm ≠ p) : NamesM bm L W' := by
  refine h.keep ?_
  have := Array.getElem?_eq_getElem h.lt
  rw [this]
  exact hk.2 bm _ this hne
theorem among_contains (L : List (List UInt8)) (n : List UInt8) : amongB L n = L.contains n := by
  unfold amongB
  induction L with
  | nil => rfl
  | cons a L ih =>
    rw [List.any_cons, List.contains_cons, ih]
    congr 1
    exact BEq.comm
def NaE (p bm : Nat) (nm : List (List UInt8)) (v : Value) (op : Int) (o : Except Int (List UInt8 × List UInt8)) (w : World) (x : Ending) (W : World) : Prop := match o with
  | .error e => x = .panicked (stopL e) ∧ Below p w W
  | .ok (s, t) => x = .returned (.string ⟨s.toArray⟩) ∧ PS p t v op W ∧ NamesM bm (s :: nm) W ∧ MK p bm w W
theorem text_ok {p : Nat} {l s t : List UInt8} {v : Value} {op : Int} (hl : l.length ≤ 16384) (hv : validD l = true) (ht : strJ l = some (s, t)) (w : World) (h : PS p l v op w) (hE : ∀ W, RK p w W → EnvU W) :
    Calls Tryz.prog 91 #[.pointer (some ⟨p, 0, none⟩)] w fun x w' => x = .returned (.string ⟨s.toArray⟩) ∧ PS p t v op w' ∧ RK p w w' := by
  have := p_text p l v op hl hv w h hE
  rw [ht] at this; exact this
theorem text_no {p : Nat} {l : List UInt8} {v : Value} {op : Int} (hl : l.length ≤ 16384) (hv : validD l = true) (ht : strJ l = none) (w : World) (h : PS p l v op w) (hE : ∀ W, RK p w W → EnvU W) :
    Calls Tryz.prog 91 #[.pointer (some ⟨p, 0, none⟩)] w fun x w' => x = .panicked (stopL 40) ∧ Below p w w' := by
  have := p_text p l v op hl hv w h hE
  rw [ht] at this; exact this
set_option maxRecDepth 100000 in
theorem p_name (p bm : Nat) (l : List UInt8) (nm : List (List UInt8)) (v : Value) (op : Int) (hl : l.length ≤ 16384) (hv : validD l = true) (w : World) (h : PS p l v op w) (hM : NamesM bm nm w) (hpb : p < bm) (hnm : nm.length < 1000000) (hE : ∀ W, RK p w W → EnvU W) :
    Calls Tryz.prog 89 #[.pointer (some ⟨p, 0, none⟩), .map (some bm)] w (NaE p bm nm v op (memJ nm l) w) := by
  have HMM := Lib.hid hM
  have HNO : Hid (∀ (e : Int) W, Calls Tryz.prog 87 #[.int .i64 e] W fun x w' => x = .panicked (stopL e) ∧ W = w') := Lib.hid fun e W => p_no e W
  unfold memJ
  cases hs : strJ l with
  | none =>
    have HT := Lib.hid (text_no hl hv hs w h hE)
    clear h hM hs hE
    go_enter Tryz.func89, Tryz.ntmps89
    go_wp2_with fail
    refine HT.out.mono ?_; rintro x w1 ⟨rfl, hb⟩
    have HB := Lib.hid hb
    clear hb
    go_wp2_with fail
    exact ⟨rfl, rfl, HB.out⟩
  | some st =>
    obtain ⟨s, t⟩ := st
    have HT := Lib.hid (text_ok hl hv hs w h hE)
    have hsl := (cut_str l s t hv hs).2.2
    have hvt := (cut_str l s t hv hs).1.2 hv
    obtain ⟨sb, hsb⟩ : ∃ sb : ByteArray, (⟨s.toArray⟩ : ByteArray) = sb := ⟨_, rfl⟩
    have hsd : sb.data.toList = s := by rw [← hsb]
    have hsz : sb.size ≤ maxLen := by
      rw [← bsz, hsd]; unfold maxLen; omega
    have HLK : Hid (∀ W, NamesM bm nm W → (Instr.lookup 135 (.map (some bm)) (.string sb) false).run Tryz.prog W = .ok (.int .i64 (if nm.contains s then 1 else 0)) W) := Lib.hid fun W hW => by
      have := hW.lookup sb hsz
      rw [hsd, among_contains] at this; exact this
    have HUP : Hid (∀ W, NamesM bm nm W → ∃ W', (Instr.mapUpdate 135 (.map (some bm)) (.string sb) (.int .i64 1)).run Tryz.prog W = .ok () W' ∧ NamesM bm (s :: nm) W' ∧ W.grownBy W' (some bm)) := Lib.hid fun W hW => by
      have := hW.update sb hsz hnm
      rw [hsd] at this; exact this
    have HBL := Lib.hid (fun (W : World) (hW : PS p t v op W) => p_blanks p t v op W hW)
    rw [hsb] at HT
    have HBE : Hid ((⟨s.toArray⟩ : ByteArray) = sb) := Lib.hid hsb
    clear h hM hs hE hsl
    simp only
    cases hc : nm.contains s with
    | true =>
      rw [if_pos rfl]
      rw [hc] at HLK
      clear hc hsb hsd hsz
      go_enter Tryz.func89, Tryz.ntmps89
      go_wp2_with fail
      refine HT.out.mono ?_; rintro x w1 ⟨rfl, hst, hk⟩
      have hr := HLK.out _ (HMM.out.rk hk (by omega))
      have HK := Lib.hid hk
      clear hst hk
      go_wp2_with fail
      refine (HNO.out _ _).mono ?_; rintro x w2 ⟨rfl, rfl⟩
      go_wp2_with fail
      exact ⟨rfl, rfl, HK.out.1⟩
    | false =>
      rw [if_neg (by simp)]
      rw [hc] at HLK
      cases s with
      | nil =>
        have hbe := tl_nil hsd
        rw [if_pos (show ([] : List UInt8).isEmpty = true from rfl)]
        clear hc hsb hsd hsz
        go_enter Tryz.func89, Tryz.ntmps89
        go_wp2_with fail
        refine HT.out.mono ?_; rintro x w1 ⟨rfl, hst, hk⟩
        have hr := HLK.out _ (HMM.out.rk hk (by omega))
        have HK := Lib.hid hk
        clear hst hk
        go_wp2_with fail
        refine (HNO.out _ _).mono ?_; rintro x w2 ⟨rfl, rfl⟩
        go_wp2_with fail
        exact ⟨rfl, rfl, HK.out.1⟩
      | cons a s' =>
        obtain ⟨hb1, hb2, hb3, hb4, -⟩ := tl_cons hsd
        rw [if_neg (by simp)]
        obtain ⟨s2, hs2⟩ : ∃ s2, a :: s' = s2 := ⟨_, rfl⟩
        rw [hs2] at HUP HBE ⊢
        have HM2 := Lib.hid (fun (u : List UInt8) (hu : tkJ [58] (blJ t) = some u) (W : World) (hW : PS p (blJ t) v op W) => must_ok (what := ⟨#[58]⟩) hu W hW)
        have HM3 := Lib.hid (fun (hu : tkJ [58] (blJ t) = none) (W : World) (hW : PS p (blJ t) v op W) => must_no (what := ⟨#[58]⟩) hu W hW)
        clear hc hsb hsd hsz hs2
        cases hu : tkJ [58] (blJ t) with
        | none =>
          have HM4 := Lib.hid (HM3.out hu)
          clear hu
          go_enter Tryz.func89, Tryz.ntmps89
          go_wp2_with fail
          refine HT.out.mono ?_; rintro x w1 ⟨rfl, hst, hk⟩
          have hm1 := HMM.out.rk hk (by omega)
          have hr := HLK.out _ hm1
          obtain ⟨w2, hrun, hm2, hg2⟩ := HUP.out _ hm1
          have HS2 : Hid (PS p t v op w2) := Lib.hid (hst.same (hg2.block p hst.lt (fun e => by injection e with e; omega)))
          have HK2 : Hid (MK p bm w w2) := Lib.hid ((MK.of_rk hk).grown hg2 hpb hm1.lt)
          clear hst hk hm1 hm2 hg2
          go_wp2_with fail
          refine (HBL.out _ HS2.out).mono ?_; rintro x w3 ⟨rfl, hst, hk⟩
          have HS3 := Lib.hid hst
          have HK3 := Lib.hid (HK2.out.rk hk)
          clear hst hk
          go_wp2_with fail
          refine (HM4.out _ HS3.out).mono ?_; rintro x w4 ⟨rfl, hb⟩
          have HB := Lib.hid (HK3.out.1.trans hb)
          clear hb
          go_wp2_with fail
          exact ⟨rfl, rfl, HB.out⟩
        | some u =>
          have HM4 := Lib.hid (HM2.out u hu)
          clear hu
          go_enter Tryz.func89, Tryz.ntmps89
          go_wp2_with fail
          refine HT.out.mono ?_; rintro x w1 ⟨rfl, hst, hk⟩
          have hm1 := HMM.out.rk hk (by omega)
          have hr := HLK.out _ hm1
          obtain ⟨w2, hrun, hm2, hg2⟩ := HUP.out _ hm1
          have HS2 : Hid (PS p t v op w2) := Lib.hid (hst.same (hg2.block p hst.lt (fun e => by injection e with e; omega)))
          have HK2 : Hid (MK p bm w w2) := Lib.hid ((MK.of_rk hk).grown hg2 hpb hm1.lt)
          have HMM2 := Lib.hid hm2
          clear hst hk hm1 hm2 hg2
          go_wp2_with fail
          refine (HBL.out _ HS2.out).mono ?_; rintro x w3 ⟨rfl, hst, hk⟩
          have HS3 := Lib.hid hst
          have HK3 := Lib.hid (HK2.out.rk hk)
          have HMM3 := Lib.hid (HMM2.out.rk hk (by omega))
          clear hst hk
          go_wp2_with fail
          refine (HM4.out _ HS3.out).mono ?_; rintro x w4 ⟨rfl, hst, hk⟩
          have HS4 := Lib.hid hst
          have HK4 := Lib.hid (HK3.out.rk hk)
          have HMM4 := Lib.hid (HMM3.out.rk hk (by omega))
          clear hst hk
          go_wp2_with fail
          go_ret
          refine ⟨?_, HS4.out, HMM4.out, HK4.out⟩
          rw [HBE.out]; rfl
set_option maxRecDepth 100000 in
theorem p_none (q u : Value) (w : World) :
    Calls Tryz.prog 90 #[q, u] w fun x w' => x = .returned (.string ⟨#[]⟩) ∧ w = w' := by
  go_enter Tryz.func90, Tryz.ntmps90
  go_wp2_with fail
  go_ret
  exact ⟨rfl, rfl⟩
/-- The reader's state, with names in a map. -/
structure IS (p bm : Nat) (w : World) (v0 v : Value) (out : List Cel) (l : List UInt8) (op : Int) (nm : List (List UInt8)) (W : World) : Prop where
  vp : VP p w v0 v out l op W
  nm : NamesM bm nm W
  lo : w.heap.size ≤ bm
  pl : p < w.heap.size
  ne : v.ownBlock ≠ some bm
section
variable {p bm : Nat} {w : World} {v0 v : Value} {out : List Cel} {l l' : List UInt8} {op op' : Int} {nm nm' : List (List UInt8)} {W W' : World}
theorem IS.rk (h : IS p bm w v0 v out l op nm W) (hs : PS p l' v op' W') (hk : RK p W W') : IS p bm w v0 v out l' op' nm W' :=
  ⟨h.vp.rk hs hk, h.nm.rk hk (by have := h.lo; have := h.pl; omega), h.lo, h.pl, h.ne⟩
theorem IS.below (h : IS p bm w v0 v out l op nm W) (hb : Below W.heap.size W W') : IS p bm w v0 v out l op nm W' := h.rk (h.vp.st.below hb) (RK.of_below hb h.vp.st.lt)
theorem OwnC.mk {B p m : Nat} {v : Value} {L : List Cel} {W W' : World} (h : OwnC B v L W) (hk : MK p m W W') (hp : p < B) (hne : v.ownBlock ≠ some m) : OwnC B v L W' := by
  obtain ⟨h1, h2⟩ := h
  refine ⟨h1, ?_⟩
  rcases h2 with h2 | ⟨g, cap, cur, hv, hB, hg, hrest⟩
  · exact Or.inl h2
  · refine Or.inr ⟨g, cap, cur, hv, hB, hk.2 g _ hg (by omega) (fun e => hne ?_), hrest⟩
    rw [hv, ← e]; rfl
theorem IS.mk_ (h : IS p bm w v0 v out l op nm W) (hs : PS p l' v op W') (hm : NamesM bm nm' W') (hk : MK p bm W W') : IS p bm w v0 v out l' op nm' W' :=
  ⟨⟨hs, h.vp.own.mk hk (Nat.lt_succ_self p) h.ne, ⟨h.vp.vk.1.trans hk.1, fun k o ho h1 h2 => hk.2 k o (h.vp.vk.2 k o ho h1 h2) h1 (by have := heap_lt ho; have := h.lo; omega)⟩, h.vp.ob⟩, hm, h.lo, h.pl, h.ne⟩
theorem VP.join {v2 : Value} {out2 : List Cel} (h : VP p w v0 v out l op W) (h' : VP p W v v2 out2 l' op' W') : VP p w v0 v2 out2 l' op' W' :=
  ⟨h'.st, h'.own, h.vk.trans h'.vk h.ob, fun k hk => by
    rcases h'.ob k hk with e | e
    · exact h.ob k e
    · have := h.size; exact Or.inr (by omega)⟩
theorem IS.val {v2 : Value} {out2 : List Cel} (h : IS p bm w v0 v out l op nm W) (h' : VP p W v v2 out2 l' op' W') : IS p bm w v0 v2 out2 l' op' nm W' := by
  have hlt := h.nm.lt
  refine ⟨h.vp.join h', h.nm.keep ?_, h.lo, h.pl, fun e => ?_⟩
  · have := Array.getElem?_eq_getElem hlt
    rw [this]
    exact h'.vk.2 bm _ this (by have := h.lo; have := h.pl; omega) h.ne
  · rcases h'.ob bm e with e | e
    · exact h.ne e
    · omega
end
end Go.Proofs.YtgclnjogoghhcaaGreatDoor
