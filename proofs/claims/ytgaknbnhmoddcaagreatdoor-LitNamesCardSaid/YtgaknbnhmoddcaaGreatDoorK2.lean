/- Walks and plain laws of this proof, joined from smaller texts (2). -/
import Derived.Maps.OwnOps
import Derived.Maps.Views
import Derived.Maps.Keyed
import Derived.StringKeys
import Derived.Maps.OwnSet
import Derived.Laws.Cover3
import Derived.Test.YtgaknbnhmoddcaaGreatDoorK1
set_option linter.unusedSimpArgs false
set_option linter.unusedVariables false
namespace Go.Proofs.YtgaknbnhmoddcaaGreatDoor
open Go.RowKit Go.Lib
theorem acons {P : Program} {ops : Array Oper} {Q : Exit → Act → World → Prop} {md : Region.Mode} {S : World → Prop} (i : Nat) {fuel : Nat} {listed : Array Bool} {a : Act} {w : World} {o : Oper} {rs : List Nat} (ho : ops.toList[i]? = some o)
    (h : ∀ K' : Act → World → Prop, Shut (∀ a w, S w → (S w → wpAnyH P md ops Q S fuel (listed.setIfInBounds i true) a w) → K' a w) → if Region.wanted o (yielded ops a.tmps) = true then Oper.wp P o a w K' Q else K' (a.put o.dst undef) w)
    (hs : AllReadyH P md ops Q S fuel listed a w rs) : AllReadyH P md ops Q S fuel listed a w (i :: rs) :=
  AllReadyH.cons (by rw [← Array.getElem?_toList]; exact ho) h hs
theorem wp_pushI {o : Oper} {a : Act} {K : Act → World → Prop} {Q : Exit → Act → World → Prop} {w : World} (s x : Operand)
    (ho : o.op = .call { callee := .builtin .append, args := #[s, x], argTypes := #[131, 131] }) (B : Nat) (v : Value) (l : List Nat) (hs : a.eval s = v) (hown : OwnI B v l w)
    (ad : Addr) (c : Nat) (n : Nat) (hx : a.eval x = .slice (some ad) 1 c) (hnew : w.cell? ad = some (.int .i64 (n : Int))) (hlen : l.length + 1 ≤ 1000000) (hB : B ≤ w.heap.size)
    (h : ∀ v' w', OwnI B v' (l ++ [n]) w' → w.grownBy w' v.ownBlock → K (a.put o.dst v') w') : o.wp Tryz.prog a w K Q := by
  obtain ⟨i0, hi, hz0, hz1, hz2⟩ := info_parts int_info
  refine wp_append_own w s x 131 ho B 3 i0 (.int .i64 0) 1 8 Tryz.underlying131 hi hz0 hz1 hz2 rfl (by decide) v l.length (natCells l) hs hown ad 1 c [.int .i64 (n : Int)] hx rfl ?_ ?_ (by unfold maxLen; omega) (by omega) hB ?_
  · intro j u hj
    match j, hj with
    | 0, hj =>
      have e : u = .int .i64 (n : Int) := (Option.some.inj hj).symm
      rw [e]; exact hnew
    | j + 1, hj => cases hj
  · intro u hu
    rw [List.mem_singleton] at hu; subst hu; rfl
  · intro v' w' h1 h2 _
    refine h v' w' ?_ h2
    unfold OwnI natCells at *
    rw [List.length_append, List.map_append]
    exact h1
theorem is_yes {p : Nat} {l t : List UInt8} {what : ByteArray} {v : Value} {op : Int} (ht : tkJ what.data.toList l = some t) (w : World) (h : PS p l v op w) :
    Calls Tryz.prog 220 #[.pointer (some ⟨p, 0, none⟩), .string what] w fun x w' => x = .returned (.bool true) ∧ PS p t v op w' ∧ RK p w w' := by
  have := p_is p l what v op w h
  rw [ht] at this; exact this
theorem is_no {p : Nat} {l : List UInt8} {what : ByteArray} {v : Value} {op : Int} (ht : tkJ what.data.toList l = none) (w : World) (h : PS p l v op w) :
    Calls Tryz.prog 220 #[.pointer (some ⟨p, 0, none⟩), .string what] w fun x w' => x = .returned (.bool false) ∧ PS p l v op w' ∧ RK p w w' := by
  have := p_is p l what v op w h
  rw [ht] at this; exact this
theorem OwnI.drewI {B : Nat} {v : Value} {l : List Nat} {w : World} (h : OwnI B v l w) : OwnI B v l w.drew := h
theorem RK.ge {r : Nat} {W W' : World} (h : RK r W W') (hr : r < W.heap.size) : W.heap.size ≤ W'.heap.size := by
  exact h.1.size
def strV (o : Option (List UInt8 × List UInt8)) : Except Int (Value × List UInt8) := match o with
  | none => .error 40
  | some (s, t) => .ok (.string ⟨s.toArray⟩, t)
theorem must_ok {p : Nat} {l t : List UInt8} {what : ByteArray} {v : Value} {op : Int} (ht : tkJ what.data.toList l = some t) (w : World) (h : PS p l v op w) :
    Calls Tryz.prog 218 #[.pointer (some ⟨p, 0, none⟩), .string what] w fun x w' => x = .returned (.tuple #[]) ∧ PS p t v op w' ∧ RK p w w' := by
  have := p_must p l what v op w h
  rw [tkE_some ht] at this; exact this
theorem must_no {p : Nat} {l : List UInt8} {what : ByteArray} {v : Value} {op : Int} (ht : tkJ what.data.toList l = none) (w : World) (h : PS p l v op w) :
    Calls Tryz.prog 218 #[.pointer (some ⟨p, 0, none⟩), .string what] w fun x w' => x = .panicked (stopL 40) ∧ Below p w w' := by
  have := p_must p l what v op w h
  rw [tkE_none ht] at this; exact this
theorem esc_ok {p : Nat} {l t : List UInt8} {n : Nat} {v : Value} {op : Int} (ht : escJ l = some (n, t)) (w : World) (h : PS p l v op w) :
    Calls Tryz.prog 221 #[.pointer (some ⟨p, 0, none⟩)] w fun x w' => x = .returned (.int .i64 (n : Int)) ∧ PS p t v op w' ∧ RK p w w' := by
  have := p_escape p l v op w h
  rw [fourV_some ht] at this; exact this
theorem esc_no {p : Nat} {l : List UInt8} {v : Value} {op : Int} (ht : escJ l = none) (w : World) (h : PS p l v op w) :
    Calls Tryz.prog 221 #[.pointer (some ⟨p, 0, none⟩)] w fun x w' => x = .panicked (stopL 40) ∧ Below p w w' := by
  have := p_escape p l v op w h
  rw [fourV_none ht] at this; exact this
theorem tk_one (c : UInt8) (r : List UInt8) : tkJ [c] (c :: r) = some r := by rw [tk_head]; simp
theorem tk_not {c d : UInt8} (r : List UInt8) (h : d ≠ c) : tkJ [c] (d :: r) = none := by rw [tk_head]; simp [h]
theorem ext_drop {b : ByteArray} {l : List UInt8} (h : b.data.toList = l) (m n : Nat) (hm : m ≤ b.size) (hn : n = b.size) : (b.extract m n).data.toList = l.drop m := by
  have h5 := ext_list b m (b.size - m)
  rw [show m + (b.size - m) = n from by omega, ByteArray.toList_eq, h, List.take_of_length_le (by rw [List.length_drop, ← h, bsz]; exact Nat.le_refl _)] at h5
  exact h5
set_option maxRecDepth 100000 in
theorem p_text_no (p : Nat) (l : List UInt8) (v : Value) (op : Int) (w : World) (h : PS p l v op w) (ht : tkJ [34] l = none) :
    Calls Tryz.prog 217 #[.pointer (some ⟨p, 0, none⟩)] w (PV p v op (.error 40) w) := by
  have HM := Lib.hid (must_no (what := ⟨#[34]⟩) ht w h)
  clear h ht
  go_enter Tryz.func217, Tryz.ntmps217
  go_wp2_with fail
  refine HM.out.mono ?_; rintro x w1 ⟨rfl, hb⟩
  have HB := Lib.hid hb
  clear hb
  go_wp2_with fail
  exact ⟨rfl, rfl, HB.out⟩
set_option maxRecDepth 100000 in
set_option maxHeartbeats 4000000 in
theorem p_text_go (p : Nat) (l t : List UInt8) (v : Value) (op : Int) (hl : l.length ≤ 16384) (hv : validD l = true) (w : World) (h : PS p l v op w) (ht : tkJ [34] l = some t) (hE : ∀ W, RK p w W → EnvU W) :
    Calls Tryz.prog 217 #[.pointer (some ⟨p, 0, none⟩)] w (PV p v op (strV (strJ l)) w) := by
  have hlt := h.lt
  have hk0 := cut_tk _ _ _ (by decide) ht
  have hsj := strJ_go _ _ ht
  obtain ⟨O, hO⟩ : ∃ O, strJ l = O := ⟨_, rfl⟩
  rw [hO] at hsj ⊢
  have HM := Lib.hid (must_ok (what := ⟨#[34]⟩) ht w h)
  have HY := Lib.hid (fun (c : UInt8) (r : List UInt8) (W : World) (hW : PS p (c :: r) v op W) => is_yes (what := ⟨#[c]⟩) (tk_one c r) W hW)
  have HN := Lib.hid (fun (c d : UInt8) (r : List UInt8) (hne : d ≠ c) (W : World) (hW : PS p (d :: r) v op W) => is_no (what := ⟨#[c]⟩) (tk_not r hne) W hW)
  have HN0 := Lib.hid (fun (c : UInt8) (W : World) (hW : PS p [] v op W) => is_no (what := ⟨#[c]⟩) (l := []) rfl W hW)
  have HNO : Hid (∀ (e : Int) W, Calls Tryz.prog 212 #[.int .i64 e] W fun x w' => x = .panicked (stopL e) ∧ W = w') := Lib.hid fun e W => p_no e W
  have HPUT := Lib.hid (fun (L : List Nat) (u : Value) (W : World) (h1 : L.length ≤ 16384) (h2 : ∀ q ∈ L, isPt q = true) (h3 : IntSl u L W) => tput_any L u W h1 h2 h3)
  have HNX : Hid (∀ (b : ByteArray) (W : World), 0 < b.size → b.size ≤ 1000000 → EnvU W → Calls Tryz.prog 222 #[.string b, .int .i64 0] W fun e w' => e = .returned (nextV b.data.toList) ∧ Below W.heap.size W w') := Lib.hid fun b W h1 h2 h3 => by
    have := tnext_any b 0 h1 h2 W h3
    rw [List.drop_zero] at this; exact this
  have HEV := Lib.hid hE
  have HST : Hid (validD t = true ∧ t.length + 1 ≤ l.length ∧ (goJ [] t).map (fun x => (x.1.flatMap encN, x.2)) = O) := Lib.hid ⟨hk0.1.2 hv, by have := hk0.2; simp at this; omega, hsj.symm⟩
  clear h hE hO hsj hk0 ht
  go_enter Tryz.func217, Tryz.ntmps217
  go_wp2_with fail
  refine HM.out.mono ?_; rintro x w1 ⟨rfl, hst, hk⟩
  have HS1 := Lib.hid hst
  have HK1 := Lib.hid hk
  have hw1 := hk.1.size
  have hb1 : w.heap.size ≤ w1.heap.size := hk.1.size
  clear hst hk
  go_wp2_with fail
  go_loopg [3] (t.length + 1) (fun gk lv wr => ∃ (l1 : List UInt8) (L : List Nat) (ov : Value), ov = lv ∧ l1.length + 1 ≤ gk ∧ L.length + l1.length ≤ 16384 ∧ w.heap.size ≤ wr.heap.size ∧ Hid (OwnI w.heap.size ov L wr) ∧ Hid (∀ q ∈ L, isPt q = true) ∧ Hid (validD l1 = true) ∧ Hid (PS p l1 v op wr) ∧ Hid (RK p w wr) ∧ Hid ((goJ L l1).map (fun x => (x.1.flatMap encN, x.2)) = O))
  case atStart => exact ⟨t, [], _, rfl, by omega, by have := HST.out.2.1; simp; omega, hb1, Lib.hid (OwnI.nil _ _), Lib.hid (fun q hq => by cases hq), Lib.hid HST.out.1, HS1, HK1, Lib.hid HST.out.2.2⟩
  case round =>
    rename World => wr
    obtain ⟨l1, L, ov, rfl, hg, hLl, hwr, HO, HP, HV, HS, HK, HG⟩ := hrel
    cases l1 with
    | nil =>
      have HZ : Hid (none = O) := Lib.hid (by have := HG.out; rw [goJ_low _ _ (by decide)] at this; exact this)
      go_wp2_with fail
      refine (HN0.out 34 _ HS.out).mono ?_; rintro x w2 ⟨rfl, hst, hk⟩
      obtain ⟨b, hbl, hr⟩ := hst
      have HK2 := Lib.hid (HK.out.trans hk)
      have hbe : b = ByteArray.empty := by
        apply ByteArray.ext; apply Array.toList_inj.1; rw [hbl]; rfl
      subst hbe
      obtain ⟨c0, c1, c2⟩ := hr.cells
      clear hr hk hbl
      go_wp2_with fail
      refine (HNO.out _ _).mono ?_; rintro x w3 ⟨rfl, rfl⟩
      go_wp2_with fail
      refine ⟨rfl, ?_⟩
      rw [← HZ.out]
      exact ⟨rfl, HK2.out.1⟩
    | cons c r =>
      by_cases h34 : c = 34
      · subst h34
        have HZ : Hid (some (L.flatMap encN, r) = O) := Lib.hid (by have := HG.out; rw [goJ_end] at this; exact this)
        go_wp2_with fail
        refine (HY.out 34 r _ HS.out).mono ?_; rintro x w2 ⟨rfl, hst, hk⟩
        have HS2 := Lib.hid hst
        have HK2 := Lib.hid (HK.out.trans hk)
        have HO2 := Lib.hid (HO.out.rk hk hlt)
        have hlt2 := hst.lt
        clear hst hk
        go_wp2_with fail
        refine (HPUT.out L _ _ (by simp at hLl; omega) HP.out HO2.out.sl).mono ?_; rintro x w3 ⟨rfl, hb⟩
        have HE : Hid (PS p r v op w3 ∧ RK p w w3) := Lib.hid ⟨HS2.out.below hb, HK2.out.trans (RK.of_below hb hlt2)⟩
        clear hb
        go_wp2_with fail
        go_ret
        rw [← HZ.out]
        exact ⟨rfl, HE.out.1, HE.out.2⟩
      · have HN1 := Lib.hid (HN.out 34 c r h34)
        by_cases hlo : c.toNat < 32
        · have HZ : Hid (none = O) := Lib.hid (by have := HG.out; rw [goJ_low _ _ (by exact hlo)] at this; exact this)
          go_wp2_with fail
          refine (HN1.out _ HS.out).mono ?_; rintro x w2 ⟨rfl, hst, hk⟩
          obtain ⟨b, hbl, hr⟩ := hst
          have HK2 := Lib.hid (HK.out.trans hk)
          obtain ⟨hb1, hb2, hb3, hb4, -⟩ := tl_cons hbl
          have h00 : b[0]'hb4 = c := at_zero hbl hb4
          obtain ⟨c0, c1, c2⟩ := hr.cells
          have t1 : decide (((b[0]'hb4).toNat : Int) < 32) = true := decide_eq_true (by rw [h00]; omega)
          clear hr hk hbl h00 hlo h34
          go_wp2_with fail
          refine (HNO.out _ _).mono ?_; rintro x w3 ⟨rfl, rfl⟩
          go_wp2_with fail
          refine ⟨rfl, ?_⟩
          rw [← HZ.out]
          exact ⟨rfl, HK2.out.1⟩
        · by_cases h92 : c = 92
          · subst h92
            have HV2 : Hid (validD r = true) := Lib.hid (by have := HV.out; rw [valid_cons _ _ (by decide)] at this; exact this)
            have HG2 : Hid (Option.map (fun x : List Nat × List UInt8 => (x.1.flatMap encN, x.2)) (match escJ r with | none => none | some (q, u) => goJ (L ++ [q]) u) = O) := Lib.hid (by have := HG.out; rw [goJ_esc] at this; exact this)
            go_wp2_with fail
            refine (HN1.out _ HS.out).mono ?_; rintro x w2 ⟨rfl, hst, hk⟩
            have HS2 := Lib.hid hst
            obtain ⟨b, hbl, hr⟩ := hst
            have HK2 := Lib.hid (HK.out.trans hk)
            have HO2 := Lib.hid (HO.out.rk hk hlt)
            obtain ⟨hb1, hb2, hb3, hb4, -⟩ := tl_cons hbl
            have h00 : b[0]'hb4 = 92 := at_zero hbl hb4
            obtain ⟨c0, c1, c2⟩ := hr.cells
            have t1 : decide (((b[0]'hb4).toNat : Int) < 32) = false := decide_eq_false (by rw [h00]; decide)
            clear hr hk hbl h00 hlo h34 HN1
            go_wp2_with fail
            refine (HY.out 92 r _ HS2.out).mono ?_; rintro x w3 ⟨rfl, hst, hk⟩
            have HS3 := Lib.hid hst
            have HK3 := Lib.hid (HK2.out.trans hk)
            have HO3 := Lib.hid (HO2.out.rk hk hlt)
            clear hst hk c0 c1 c2 t1
            go_wp2_with fail
            cases hE : escJ r with
            | none =>
              have HZ : Hid (none = O) := Lib.hid (by have := HG2.out; rw [hE] at this; exact this)
              refine (esc_no hE _ HS3.out).mono ?_; rintro x w4 ⟨rfl, hb⟩
              have HB4 := Lib.hid (HK3.out.1.trans hb)
              clear hb hE
              go_wp2_with fail
              refine ⟨rfl, ?_⟩
              rw [← HZ.out]
              exact ⟨rfl, HB4.out⟩
            | some qt =>
              obtain ⟨q, u⟩ := qt
              obtain ⟨k1, k2, k3⟩ := cut_esc _ q u hE
              have HG3 : Hid ((goJ (L ++ [q]) u).map (fun x => (x.1.flatMap encN, x.2)) = O) := Lib.hid (by have := HG2.out; rw [hE] at this; exact this)
              have HV3 : Hid (validD u = true) := Lib.hid (k1.2 HV2.out)
              have HP2 : Hid (∀ y ∈ L ++ [q], isPt y = true) := Lib.hid fun y hy => by
                rcases List.mem_append.1 hy with h | h
                · exact HP.out y h
                · rw [List.mem_singleton] at h; rw [h]; exact k3
              have hlen : L.length + 1 + u.length ≤ 16384 := by simp only [List.length_cons] at hLl; omega
              have hgu : u.length + 1 ≤ gk - 1 := by simp only [List.length_cons] at hg; omega
              refine (esc_ok hE _ HS3.out).mono ?_; rintro x w4 ⟨rfl, hst, hk⟩
              have HS4 := Lib.hid hst
              have HK4 := Lib.hid (HK3.out.trans hk)
              have HO4 := Lib.hid (HO3.out.rk hk hlt)
              have hlt4 := hst.lt
              have hw4 := HK4.out.1.size
              have hwr4 : w.heap.size ≤ w4.heap.size := HK4.out.ge hlt
              clear hst hk hE k1 k2 k3 hLl hg HG2 HG
              go_wp2_with (at_builtin; refine wpList_pushI rfl _ _ rfl w.heap.size ov L rfl (HO4.out.alloc _) ⟨w4.heap.size, 0, none⟩ 1 q rfl (new_cell0 w4 _ _) ?c1 ?c2 ?_)
              case c1 => omega
              case c2 => simp; omega
              intro v' w5 hown' hgrow
              have HO5 := Lib.hid hown'
              have HK5 : Hid (RK p w w5) := Lib.hid ((HK4.out.trans (RK.of_below ((Below.refl w4.heap.size w4).alloc (Nat.le_refl _) _) hlt4)).grown hgrow HO4.out.lt hlt)
              have HS5 : Hid (PS p u v op w5) := Lib.hid ((HS4.out.below ((Below.refl w4.heap.size w4).alloc (Nat.le_refl _) _)).same (hgrow.block p (by simp; omega) (fun e => by have := HO4.out.lt p e.symm; omega)))
              have hw5 := HK5.out.ge hlt
              clear hown' hgrow
              go_wp2_with fail
              go_roundg (gk - 1)
              case measure => omega
              case rel => exact ⟨u, L ++ [q], _, rfl, hgu, by simp; omega, hw5, HO5, HP2, HV3, HS5, HK5, HG3⟩
          · have HN2 := Lib.hid (HN.out 92 c r h92)
            have hne : c :: r ≠ [] := by simp
            have hvs := (valid_step (c :: r) hne)
            rw [HV.out] at hvs
            have hvs2 := hvs.symm
            rw [Bool.and_eq_true] at hvs2
            obtain ⟨hw, hv2⟩ := hvs2
            obtain ⟨d1, d2, d3, d4⟩ := decode_pt (c :: r) hne hw
            have HNV : Hid (nextV (c :: r) = .tuple #[.int .i64 ((decodeL (c :: r)).1 : Nat), .int .i64 ((decodeL (c :: r)).2 : Nat), .int .i64 0]) := Lib.hid (by unfold nextV; rw [hw, if_pos rfl])
            have HG3 : Hid ((goJ (L ++ [(decodeL (c :: r)).1]) ((c :: r).drop (decodeL (c :: r)).2)).map (fun x => (x.1.flatMap encN, x.2)) = O) := Lib.hid (by have := HG.out; rw [goJ_step _ _ _ h34 hlo h92] at this; exact this)
            have HV3 := Lib.hid hv2
            have HP2 : Hid (∀ y ∈ L ++ [(decodeL (c :: r)).1], isPt y = true) := Lib.hid fun y hy => by
              rcases List.mem_append.1 hy with h | h
              · exact HP.out y h
              · rw [List.mem_singleton] at h; rw [h]; exact d1
            clear hvs hv2 hw d1 d4 HG
            generalize (decodeL (c :: r)).2 = m at *
            generalize (decodeL (c :: r)).1 = q at *
            have hdl : ((c :: r).drop m).length + m = (c :: r).length := by rw [List.length_drop]; omega
            go_wp2_with fail
            refine (HN1.out _ HS.out).mono ?_; rintro x w2 ⟨rfl, hst, hk⟩
            have HS2 := Lib.hid hst
            obtain ⟨b, hbl, hr⟩ := hst
            have HK2 := Lib.hid (HK.out.trans hk)
            have HO2 := Lib.hid (HO.out.rk hk hlt)
            obtain ⟨hb1, hb2, hb3, hb4, -⟩ := tl_cons hbl
            have h00 : b[0]'hb4 = c := at_zero hbl hb4
            obtain ⟨c0, c1, c2⟩ := hr.cells
            have t1 : decide (((b[0]'hb4).toNat : Int) < 32) = false := decide_eq_false (by rw [h00]; omega)
            clear hr hk h00 hlo h34 HN1 hbl
            go_wp2_with fail
            refine (HN2.out _ HS2.out).mono ?_; rintro x w3 ⟨rfl, hst, hk⟩
            have HK3 := Lib.hid (HK2.out.trans hk)
            have HO3 := Lib.hid (HO2.out.rk hk hlt)
            clear hk c0 c1 c2 t1 h92 HN2
            obtain ⟨bq, hbl, hr⟩ := hst
            obtain ⟨hq1, hq2, hq3, hq4, hq5⟩ := tl_cons hbl
            obtain ⟨c0, c1, c2⟩ := hr.cells
            have HR3 := Lib.hid hr
            have hsl : bq.size = (c :: r).length := by rw [hq5]; rfl
            have HX : Hid (∀ W, EnvU W → Calls Tryz.prog 222 #[.string bq, .int .i64 0] W fun e w' => e = .returned (.tuple #[.int .i64 (q : Int), .int .i64 (m : Int), .int .i64 0]) ∧ Below W.heap.size W w') := Lib.hid fun W hW => by
              have := HNX.out bq W hq4 (by rw [hsl]; omega) hW
              rw [hbl, HNV.out] at this; exact this
            obtain ⟨b1, hb1e⟩ : ∃ b1, bq.extract m bq.size = b1 := ⟨_, rfl⟩
            have hmb : m ≤ bq.size := by rw [hsl]; exact d3
            have hmi : (m : Int) ≤ (bq.size : Int) := by omega
            have hb1l := ext_drop hbl m bq.size hmb rfl
            rw [hb1e] at hb1l
            have HB1 := Lib.hid hb1l
            clear hr hbl hb1l hq5 hsl
            go_wp2_with fail
            refine (HX.out _ (HEV.out _ HK3.out)).mono ?_; rintro x w4 ⟨rfl, hb⟩
            have HR4 := Lib.hid (HR3.out.below hb)
            have HK4 := Lib.hid (HK3.out.trans (RK.of_below hb HR3.out.lt))
            have HO4 := Lib.hid (HO3.out.below hb)
            clear hb c0 c1 c2
            obtain ⟨c0, c1, c2⟩ := HR4.out.cells
            have hlt4 := HR4.out.lt
            have hwr4 : w.heap.size ≤ w4.heap.size := HK4.out.ge hlt
            have e0 : w4.drew.cell? ⟨p, 0, none⟩ = some (.string bq) := c0
            have e1 : ∀ o, (w4.drew.alloc o).cell? ⟨p, 0, none⟩ = some (.string bq) := fun o => by
              rw [World.cell?_alloc_lt _ _ _ (by exact hlt4)]; exact c0
            go_wp2_with fail
            refine wp_region_held_drew (S := fun _ => True) (by kernel_rfl) trivial (fun hHeld => ?_)
            refine tky 0 (some 23) (v := ?_) rfl (by kernel_rfl) (by kernel_rfl) (by kernel_rfl) (fun _ _ _ h => h) ?_ hHeld ?_
            rotate_left
            focus (intro w hSw; go_simp; (try with_reducible rfl); done)
            simp only [Act.put, List.setIfInBounds_toArray, List.set_cons_zero, List.set_cons_succ]
            refine tky 1 (some 24) (v := ?_) rfl (by kernel_rfl) (by kernel_rfl) (by kernel_rfl) (fun _ _ _ h => h) ?_ hHeld ?_
            rotate_left
            focus (intro w hSw; go_simp; (try with_reducible rfl); done)
            simp only [Act.put, List.setIfInBounds_toArray, List.set_cons_zero, List.set_cons_succ]
            refine tky 2 (some 25) (v := ?_) rfl (by kernel_rfl) (by kernel_rfl) (by kernel_rfl) (fun _ _ _ h => h) ?_ hHeld ?_
            rotate_left
            focus (intro w hSw; go_simp; (try with_reducible rfl); done)
            simp only [Act.put, List.setIfInBounds_toArray, List.set_cons_zero, List.set_cons_succ]
            refine tky 5 (some 28) (v := ?_) rfl (by kernel_rfl) (by kernel_rfl) (by kernel_rfl) (fun _ _ _ h => h) ?_ hHeld ?_
            rotate_left
            focus (intro w hSw; go_simp; (try with_reducible rfl); done)
            simp only [Act.put, List.setIfInBounds_toArray, List.set_cons_zero, List.set_cons_succ]
            refine tky 6 (some 29) (v := ?_) rfl (by kernel_rfl) (by kernel_rfl) (by kernel_rfl) (fun _ _ _ h => h) ?_ hHeld ?_
            rotate_left
            focus (intro w hSw; go_simp; (try with_reducible rfl); done)
            simp only [Act.put, List.setIfInBounds_toArray, List.set_cons_zero, List.set_cons_succ]
            refine tky 7 (some 30) (v := ?_) rfl (by kernel_rfl) (by kernel_rfl) (by kernel_rfl) (fun _ _ _ h => h) ?_ hHeld ?_
            rotate_left
            focus (intro w hSw; go_simp; (try with_reducible rfl); done)
            simp only [Act.put, List.setIfInBounds_toArray, List.set_cons_zero, List.set_cons_succ]
            refine tky 9 (some 32) (v := ?_) rfl (by kernel_rfl) (by kernel_rfl) (by kernel_rfl) (fun _ _ _ h => h) ?_ hHeld ?_
            rotate_left
            focus (intro w hSw; go_simp; (try with_reducible rfl); done)
            simp only [Act.put, List.setIfInBounds_toArray, List.set_cons_zero, List.set_cons_succ]
            refine wpAnyH_ready (rs := [3, 8]) (by kernel_rfl) (by simp) ?_
            refine acons 3 rfl (fun K hK => ?_) ?_
            · go_simp
              refine hK.out _ _ trivial (fun _ => ?_)
              clear hK K
              (try simp only [Act.put, List.setIfInBounds_toArray, List.set_cons_zero, List.set_cons_succ])
              refine wpAnyH_ready (rs := [4, 8]) (by kernel_rfl) (by simp) ?_
              refine acons 4 rfl (fun K hK => ?_) ?_
              · rw [if_pos]
                rotate_left
                focus kernel_rfl
                refine wp_pushI _ _ rfl w.heap.size ov L rfl (by exact (HO4.out.drewI.alloc _)) ⟨w4.heap.size, 0, none⟩ 1 q rfl (by exact (new_cell0 w4.drew _ _)) (by show _ ≤ _; omega) (by show _ ≤ Array.size _; simp; omega) ?_
                intro v' w5 hown' hgrow
                have hb45 : Below w4.heap.size w4 (w4.drew.alloc (.cells #[.int .i64 (q : Int)] 3)) := ((Below.refl w4.heap.size w4).drew).alloc (Nat.le_refl _) _
                have HO5 := Lib.hid hown'
                have HK5 : Hid (RK p w w5) := Lib.hid ((HK4.out.trans (RK.of_below hb45 hlt4)).grown hgrow HO4.out.lt hlt)
                have HR5 : Hid (RdP p bq v op w5) := Lib.hid ((hgrow.block p (by simp; omega) (fun e => by have := HO4.out.lt p e.symm; omega)).trans (HR4.out.below hb45))
                have hw5 := HK5.out.ge hlt
                clear hown' hgrow
                have g0 := HR5.out.cells.1
                have f5 := HR5.out.frozen 0
                (try dsimp only)
                refine hK.out _ _ trivial (fun _ => ?_)
                clear hK K
                (try simp only [Act.put, List.setIfInBounds_toArray, List.set_cons_zero, List.set_cons_succ])
                refine tky 11 (some 3) (v := ?_) rfl (by kernel_rfl) (by kernel_rfl) (by kernel_rfl) (fun _ _ _ h => h) ?_ hHeld ?_
                rotate_left
                focus (intro w hSw; go_simp; (try with_reducible rfl); done)
                simp only [Act.put, List.setIfInBounds_toArray, List.set_cons_zero, List.set_cons_succ]
                refine rcons 8 rfl (by kernel_rfl) (fun K hK => ?_)
                go_simp
                refine hK.out _ _ trivial (fun _ => ?_)
                clear hK K
                (try simp only [Act.put, List.setIfInBounds_toArray, List.set_cons_zero, List.set_cons_succ])
                refine tky 10 (some 33) (v := ?_) rfl (by kernel_rfl) (by kernel_rfl) (by kernel_rfl) (fun _ _ _ h => h) ?_ hHeld ?_
                rotate_left
                focus (intro w hSw; go_simp; (try with_reducible rfl); done)
                simp only [Act.put, List.setIfInBounds_toArray, List.set_cons_zero, List.set_cons_succ]
                refine tky 12 (some 34) (v := ?_) rfl (by kernel_rfl) (by kernel_rfl) (by kernel_rfl) (fun _ _ _ h => h) ?_ hHeld ?_
                rotate_left
                focus (intro w hSw; go_simp; (try with_reducible rfl); done)
                simp only [Act.put, List.setIfInBounds_toArray, List.set_cons_zero, List.set_cons_succ]
                refine tky 13 (some 35) (v := ?_) rfl (by kernel_rfl) (by kernel_rfl) (by kernel_rfl) (fun _ _ _ h => h) ?_ hHeld ?_
                rotate_left
                focus (intro w hSw; go_simp; (try with_reducible rfl); done)
                simp only [Act.put, List.setIfInBounds_toArray, List.set_cons_zero, List.set_cons_succ]
                refine rcons 14 rfl (by kernel_rfl) (fun K hK => ?_)
                go_simp
                refine hK.out _ _ trivial (fun _ => ?_)
                clear hK K
                (try simp only [Act.put, List.setIfInBounds_toArray, List.set_cons_zero, List.set_cons_succ])
                refine wpAnyH_done (by kernel_rfl) ?_ _
                have HS6 : Hid (PS p ((c :: r).drop m) v op (w5.setCell ⟨p, 0, none⟩ (.string b1))) := Lib.hid ⟨b1, HB1.out, HR5.out.str b1⟩
                have HK6 : Hid (RK p w (w5.setCell ⟨p, 0, none⟩ (.string b1))) := Lib.hid (HK5.out.trans (RK.set p 0 _ _))
                have HO6 : Hid (OwnI w.heap.size v' (L ++ [q]) (w5.setCell ⟨p, 0, none⟩ (.string b1))) := Lib.hid (HO5.out.rk (RK.set p 0 _ _) hlt)
                have hw6 := HK6.out.ge hlt
                go_wp2_with fail
                go_roundg (gk - 1)
                case measure => omega
                case rel => exact ⟨(c :: r).drop m, L ++ [q], _, rfl, by omega, by simp only [List.length_append, List.length_cons, List.length_nil] at *; omega, hw6, HO6, HP2, HV3, HS6, HK6, HG3⟩
              refine acons 8 rfl (fun K hK => ?_) ?_
              · go_simp
                refine hK.out _ _ trivial (fun _ => ?_)
                clear hK K
                (try simp only [Act.put, List.setIfInBounds_toArray, List.set_cons_zero, List.set_cons_succ])
                refine tky 10 (some 33) (v := ?_) rfl (by kernel_rfl) (by kernel_rfl) (by kernel_rfl) (fun _ _ _ h => h) ?_ hHeld ?_
                rotate_left
                focus (intro w hSw; go_simp; (try with_reducible rfl); done)
                simp only [Act.put, List.setIfInBounds_toArray, List.set_cons_zero, List.set_cons_succ]
                refine rcons 4 rfl (by kernel_rfl) (fun K hK => ?_)
                rw [if_pos]
                rotate_left
                focus kernel_rfl
                refine wp_pushI _ _ rfl w.heap.size ov L rfl (by exact (HO4.out.drewI.alloc _)) ⟨w4.heap.size, 0, none⟩ 1 q rfl (by exact (new_cell0 w4.drew _ _)) (by show _ ≤ _; omega) (by show _ ≤ Array.size _; simp; omega) ?_
                intro v' w5 hown' hgrow
                have hb45 : Below w4.heap.size w4 (w4.drew.alloc (.cells #[.int .i64 (q : Int)] 3)) := ((Below.refl w4.heap.size w4).drew).alloc (Nat.le_refl _) _
                have HO5 := Lib.hid hown'
                have HK5 : Hid (RK p w w5) := Lib.hid ((HK4.out.trans (RK.of_below hb45 hlt4)).grown hgrow HO4.out.lt hlt)
                have HR5 : Hid (RdP p bq v op w5) := Lib.hid ((hgrow.block p (by simp; omega) (fun e => by have := HO4.out.lt p e.symm; omega)).trans (HR4.out.below hb45))
                have hw5 := HK5.out.ge hlt
                clear hown' hgrow
                have g0 := HR5.out.cells.1
                have f5 := HR5.out.frozen 0
                (try dsimp only)
                refine hK.out _ _ trivial (fun _ => ?_)
                clear hK K
                (try simp only [Act.put, List.setIfInBounds_toArray, List.set_cons_zero, List.set_cons_succ])
                refine tky 11 (some 3) (v := ?_) rfl (by kernel_rfl) (by kernel_rfl) (by kernel_rfl) (fun _ _ _ h => h) ?_ hHeld ?_
                rotate_left
                focus (intro w hSw; go_simp; (try with_reducible rfl); done)
                simp only [Act.put, List.setIfInBounds_toArray, List.set_cons_zero, List.set_cons_succ]
                refine tky 12 (some 34) (v := ?_) rfl (by kernel_rfl) (by kernel_rfl) (by kernel_rfl) (fun _ _ _ h => h) ?_ hHeld ?_
                rotate_left
                focus (intro w hSw; go_simp; (try with_reducible rfl); done)
                simp only [Act.put, List.setIfInBounds_toArray, List.set_cons_zero, List.set_cons_succ]
                refine tky 13 (some 35) (v := ?_) rfl (by kernel_rfl) (by kernel_rfl) (by kernel_rfl) (fun _ _ _ h => h) ?_ hHeld ?_
                rotate_left
                focus (intro w hSw; go_simp; (try with_reducible rfl); done)
                simp only [Act.put, List.setIfInBounds_toArray, List.set_cons_zero, List.set_cons_succ]
                refine rcons 14 rfl (by kernel_rfl) (fun K hK => ?_)
                go_simp
                refine hK.out _ _ trivial (fun _ => ?_)
                clear hK K
                (try simp only [Act.put, List.setIfInBounds_toArray, List.set_cons_zero, List.set_cons_succ])
                refine wpAnyH_done (by kernel_rfl) ?_ _
                have HS6 : Hid (PS p ((c :: r).drop m) v op (w5.setCell ⟨p, 0, none⟩ (.string b1))) := Lib.hid ⟨b1, HB1.out, HR5.out.str b1⟩
                have HK6 : Hid (RK p w (w5.setCell ⟨p, 0, none⟩ (.string b1))) := Lib.hid (HK5.out.trans (RK.set p 0 _ _))
                have HO6 : Hid (OwnI w.heap.size v' (L ++ [q]) (w5.setCell ⟨p, 0, none⟩ (.string b1))) := Lib.hid (HO5.out.rk (RK.set p 0 _ _) hlt)
                have hw6 := HK6.out.ge hlt
                go_wp2_with fail
                go_roundg (gk - 1)
                case measure => omega
                case rel => exact ⟨(c :: r).drop m, L ++ [q], _, rfl, by omega, by simp only [List.length_append, List.length_cons, List.length_nil] at *; omega, hw6, HO6, HP2, HV3, HS6, HK6, HG3⟩
              exact AllReadyH.nil
            refine acons 8 rfl (fun K hK => ?_) ?_
            · go_simp
              refine hK.out _ _ trivial (fun _ => ?_)
              clear hK K
              (try simp only [Act.put, List.setIfInBounds_toArray, List.set_cons_zero, List.set_cons_succ])
              refine tky 10 (some 33) (v := ?_) rfl (by kernel_rfl) (by kernel_rfl) (by kernel_rfl) (fun _ _ _ h => h) ?_ hHeld ?_
              rotate_left
              focus (intro w hSw; go_simp; (try with_reducible rfl); done)
              simp only [Act.put, List.setIfInBounds_toArray, List.set_cons_zero, List.set_cons_succ]
              refine rcons 3 rfl (by kernel_rfl) (fun K hK => ?_)
              go_simp
              refine hK.out _ _ trivial (fun _ => ?_)
              clear hK K
              (try simp only [Act.put, List.setIfInBounds_toArray, List.set_cons_zero, List.set_cons_succ])
              refine rcons 4 rfl (by kernel_rfl) (fun K hK => ?_)
              rw [if_pos]
              rotate_left
              focus kernel_rfl
              refine wp_pushI _ _ rfl w.heap.size ov L rfl (by exact (HO4.out.drewI.alloc _)) ⟨w4.heap.size, 0, none⟩ 1 q rfl (by exact (new_cell0 w4.drew _ _)) (by show _ ≤ _; omega) (by show _ ≤ Array.size _; simp; omega) ?_
              intro v' w5 hown' hgrow
              have hb45 : Below w4.heap.size w4 (w4.drew.alloc (.cells #[.int .i64 (q : Int)] 3)) := ((Below.refl w4.heap.size w4).drew).alloc (Nat.le_refl _) _
              have HO5 := Lib.hid hown'
              have HK5 : Hid (RK p w w5) := Lib.hid ((HK4.out.trans (RK.of_below hb45 hlt4)).grown hgrow HO4.out.lt hlt)
              have HR5 : Hid (RdP p bq v op w5) := Lib.hid ((hgrow.block p (by simp; omega) (fun e => by have := HO4.out.lt p e.symm; omega)).trans (HR4.out.below hb45))
              have hw5 := HK5.out.ge hlt
              clear hown' hgrow
              have g0 := HR5.out.cells.1
              have f5 := HR5.out.frozen 0
              (try dsimp only)
              refine hK.out _ _ trivial (fun _ => ?_)
              clear hK K
              (try simp only [Act.put, List.setIfInBounds_toArray, List.set_cons_zero, List.set_cons_succ])
              refine tky 11 (some 3) (v := ?_) rfl (by kernel_rfl) (by kernel_rfl) (by kernel_rfl) (fun _ _ _ h => h) ?_ hHeld ?_
              rotate_left
              focus (intro w hSw; go_simp; (try with_reducible rfl); done)
              simp only [Act.put, List.setIfInBounds_toArray, List.set_cons_zero, List.set_cons_succ]
              refine tky 12 (some 34) (v := ?_) rfl (by kernel_rfl) (by kernel_rfl) (by kernel_rfl) (fun _ _ _ h => h) ?_ hHeld ?_
              rotate_left
              focus (intro w hSw; go_simp; (try with_reducible rfl); done)
              simp only [Act.put, List.setIfInBounds_toArray, List.set_cons_zero, List.set_cons_succ]
              refine tky 13 (some 35) (v := ?_) rfl (by kernel_rfl) (by kernel_rfl) (by kernel_rfl) (fun _ _ _ h => h) ?_ hHeld ?_
              rotate_left
              focus (intro w hSw; go_simp; (try with_reducible rfl); done)
              simp only [Act.put, List.setIfInBounds_toArray, List.set_cons_zero, List.set_cons_succ]
              refine rcons 14 rfl (by kernel_rfl) (fun K hK => ?_)
              go_simp
              refine hK.out _ _ trivial (fun _ => ?_)
              clear hK K
              (try simp only [Act.put, List.setIfInBounds_toArray, List.set_cons_zero, List.set_cons_succ])
              refine wpAnyH_done (by kernel_rfl) ?_ _
              have HS6 : Hid (PS p ((c :: r).drop m) v op (w5.setCell ⟨p, 0, none⟩ (.string b1))) := Lib.hid ⟨b1, HB1.out, HR5.out.str b1⟩
              have HK6 : Hid (RK p w (w5.setCell ⟨p, 0, none⟩ (.string b1))) := Lib.hid (HK5.out.trans (RK.set p 0 _ _))
              have HO6 : Hid (OwnI w.heap.size v' (L ++ [q]) (w5.setCell ⟨p, 0, none⟩ (.string b1))) := Lib.hid (HO5.out.rk (RK.set p 0 _ _) hlt)
              have hw6 := HK6.out.ge hlt
              go_wp2_with fail
              go_roundg (gk - 1)
              case measure => omega
              case rel => exact ⟨(c :: r).drop m, L ++ [q], _, rfl, by omega, by simp only [List.length_append, List.length_cons, List.length_nil] at *; omega, hw6, HO6, HP2, HV3, HS6, HK6, HG3⟩
            exact AllReadyH.nil
theorem p_text (p : Nat) (l : List UInt8) (v : Value) (op : Int) (hl : l.length ≤ 16384) (hv : validD l = true) (w : World) (h : PS p l v op w) (hE : ∀ W, RK p w W → EnvU W) :
    Calls Tryz.prog 217 #[.pointer (some ⟨p, 0, none⟩)] w (PV p v op (strV (strJ l)) w) := by
  cases ht : tkJ [34] l with
  | none => rw [strJ_no _ ht]; exact p_text_no p l v op w h ht
  | some t => exact p_text_go p l t v op hl hv w h ht hE
end Go.Proofs.YtgaknbnhmoddcaaGreatDoor
namespace Go.Proofs.YtgaknbnhmoddcaaGreatDoor
open Go.RowKit Go.Maps
theorem names_keyed : Keyed Tryz.prog 9 := string_keyed Tryz.underlying9
theorem names_zero (w : World) : (zeroValue 3).run Tryz.prog w = .ok (.int .i64 0) w := by kernel_rfl
theorem names_key (x : ByteArray) (h : x.size ≤ maxLen) : keyOf Tryz.prog 9 (.string x) = some (.string x.data.toList) := Go.WideMaps.keyOf_string_mk Tryz.underlying9 h
/-- A map of the call's own that holds 1 at each of some names, and nothing else. -/
def NamesM (bm : Nat) (L : List (List UInt8)) (W : World) : Prop := ∃ (n : Nat) (D : DataW Unit), n ≤ L.length ∧ W.ownsMap Tryz.prog 9 (plainElem Tryz.prog 3) bm n D ∧ IsMap D ∧
  ∀ x : List UInt8, D.atKey (.string x) (.lit (.int .i64 0)) = .lit (.int .i64 (if amongB L x then 1 else 0))
theorem NamesM.made (W : World) : NamesM W.heap.size [] (W.alloc (.map #[] 0)) :=
  ⟨0, .map [], Nat.le_refl _, World.ownsMap_made _ _ _ _, isMap_empty, fun x => rfl⟩
theorem NamesM.lt {bm : Nat} {L : List (List UInt8)} {W : World} (h : NamesM bm L W) : bm < W.heap.size := by
  obtain ⟨n, D, _, h, _⟩ := h; exact h.lt
theorem NamesM.keep {bm : Nat} {L : List (List UInt8)} {W W' : World} (h : NamesM bm L W) (he : W'.heap[bm]? = W.heap[bm]?) : NamesM bm L W' := by
  obtain ⟨n, D, h0, ⟨es, clock, hb, F, hs, hD⟩, h2⟩ := h
  exact ⟨n, D, h0, ⟨es, clock, he.trans hb, F, hs, hD⟩, h2⟩
theorem NamesM.below {bm : Nat} {L : List (List UInt8)} {W W' : World} (h : NamesM bm L W) (hb : Below W.heap.size W W') : NamesM bm L W' := h.keep (hb.block bm h.lt)
theorem NamesM.grown {bm : Nat} {L : List (List UInt8)} {W W' : World} {row : Option Nat} (h : NamesM bm L W) (hb : W.grownBy W' row) (hne : some bm ≠ row) : NamesM bm L W' := h.keep (hb.block bm h.lt hne)
theorem NamesM.lookup {bm : Nat} {L : List (List UInt8)} {W : World} (h : NamesM bm L W) (x : ByteArray) (hx : x.size ≤ maxLen) :
    (Instr.lookup 136 (.map (some bm)) (.string x) false).run Tryz.prog W = .ok (.int .i64 (if amongB L x.data.toList then 1 else 0)) W := by
  obtain ⟨n, D, h0, h1, h2, h3⟩ := h
  obtain ⟨c, hrun, hat, hwc⟩ := h1.lookup_int names_keyed Tryz.underlying136 Tryz.underlying3 (names_zero W) (names_key x hx)
  rw [hrun]
  have := hat.symm.trans (h3 x.data.toList)
  simp only [DataW.lit.injEq, Lit.int.injEq, true_and] at this
  rw [this]
theorem NamesM.update {bm : Nat} {L : List (List UInt8)} {W : World} (h : NamesM bm L W) (x : ByteArray) (hx : x.size ≤ maxLen) (hL : L.length < 1000000) :
    ∃ W', (Instr.mapUpdate 136 (.map (some bm)) (.string x) (.int .i64 1)).run Tryz.prog W = .ok () W' ∧ NamesM bm (x.data.toList :: L) W' ∧ W.grownBy W' (some bm) := by
  obtain ⟨n, D, h0, h1, h2, h3⟩ := h
  obtain ⟨W', hrun, r1, r2⟩ := h1.update (kl := .string x.data.toList) (d := .lit (.int .i64 1)) (ps := []) names_keyed Tryz.underlying136 (by unfold maxLen; omega) (names_key x hx) (plainElem_int Tryz.underlying3 (by decide))
  refine ⟨W', hrun, ⟨n + 1, _, by simp; omega, r1, h2.put _ _, ?_⟩, r2⟩
  intro y
  by_cases hy : y = x.data.toList
  · subst hy
    rw [atKey_put_same h2 (by trivial)]
    have : amongB (x.data.toList :: L) x.data.toList = true := by unfold amongB; simp
    rw [this]; rfl
  · rw [atKey_put_other (fun e => hy (by injection e)), h3 y]
    have : amongB (x.data.toList :: L) y = amongB L y := by
      unfold amongB
      rw [List.any_cons]
      have : (x.data.toList == y) = false := beq_eq_false_iff_ne.2 fun e => hy e.symm
      rw [this, Bool.false_or]
    rw [this]
end Go.Proofs.YtgaknbnhmoddcaaGreatDoor
namespace Go.Proofs.YtgaknbnhmoddcaaGreatDoor
open Go.RowKit Go.Lib
/-- All older blocks but two stay. -/
def MK (p m : Nat) (W W' : World) : Prop := Below p W W' ∧ ∀ (k : Nat) (o : Obj), W.heap[k]? = some o → k ≠ p → k ≠ m → W'.heap[k]? = some o
theorem MK.of_rk {p m : Nat} {W W' : World} (h : RK p W W') : MK p m W W' := ⟨h.1, fun k o hk h1 _ => h.2 k o hk h1⟩
theorem MK.rk {p m : Nat} {W W' W'' : World} (h : MK p m W W') (h' : RK p W' W'') : MK p m W W'' := ⟨h.1.trans h'.1, fun k o hk h1 h2 => h'.2 k o (h.2 k o hk h1 h2) h1⟩
theorem MK.grown {p m : Nat} {W W' W'' : World} (h : MK p m W W') (hg : W'.grownBy W'' (some m)) (hp : p < m) (hlt : m < W'.heap.size) : MK p m W W'' :=
  ⟨h.1.grown hg (by omega) (fun k hk => by injection hk with hk; omega), fun k o hk h1 h2 => (hg.block k (heap_lt (h.2 k o hk h1 h2)) (fun e => h2 (by injection e))).trans (h.2 k o hk h1 h2)⟩
theorem NamesM.rk {bm p : Nat} {L : List (List UInt8)} {W W' : World} (h : NamesM bm L W) (hk : RK p W W') (hne : bm ≠ p) : NamesM bm L W' := by
  refine h.keep ?_
  have := Array.getElem?_eq_getElem h.lt
  rw [this]
  exact hk.2 bm _ this hne
theorem among_contains (L : List (List UInt8)) (n : List UInt8) : amongB L n = L.contains n := by
  unfold amongB
  induction L with
  | nil => rfl
  | cons a L ih =>
    rw [List.any_cons, List.contains_cons, ih]
    congr 1
    exact BEq.comm
theorem text_ok {p : Nat} {l s t : List UInt8} {v : Value} {op : Int} (hl : l.length ≤ 16384) (hv : validD l = true) (ht : strJ l = some (s, t)) (w : World) (h : PS p l v op w) (hE : ∀ W, RK p w W → EnvU W) :
    Calls Tryz.prog 217 #[.pointer (some ⟨p, 0, none⟩)] w fun x w' => x = .returned (.string ⟨s.toArray⟩) ∧ PS p t v op w' ∧ RK p w w' := by
  have := p_text p l v op hl hv w h hE
  rw [ht] at this; exact this
theorem text_no {p : Nat} {l : List UInt8} {v : Value} {op : Int} (hl : l.length ≤ 16384) (hv : validD l = true) (ht : strJ l = none) (w : World) (h : PS p l v op w) (hE : ∀ W, RK p w W → EnvU W) :
    Calls Tryz.prog 217 #[.pointer (some ⟨p, 0, none⟩)] w fun x w' => x = .panicked (stopL 40) ∧ Below p w w' := by
  have := p_text p l v op hl hv w h hE
  rw [ht] at this; exact this
/-- The reader's state, with names in a map. -/
structure IS (p bm : Nat) (w : World) (v0 v : Value) (out : List Cel) (l : List UInt8) (op : Int) (nm : List (List UInt8)) (W : World) : Prop where
  vp : VP p w v0 v out l op W
  nm : NamesM bm nm W
  lo : w.heap.size ≤ bm
  pl : p < w.heap.size
  ne : v.ownBlock ≠ some bm
section
variable {p bm : Nat} {w : World} {v0 v : Value} {out : List Cel} {l l' : List UInt8} {op op' : Int} {nm nm' : List (List UInt8)} {W W' : World}
theorem IS.rk (h : IS p bm w v0 v out l op nm W) (hs : PS p l' v op' W') (hk : RK p W W') : IS p bm w v0 v out l' op' nm W' :=
  ⟨h.vp.rk hs hk, h.nm.rk hk (by have := h.lo; have := h.pl; omega), h.lo, h.pl, h.ne⟩
theorem IS.below (h : IS p bm w v0 v out l op nm W) (hb : Below W.heap.size W W') : IS p bm w v0 v out l op nm W' := h.rk (h.vp.st.below hb) (RK.of_below hb h.vp.st.lt)
theorem OwnC.mk {B p m : Nat} {v : Value} {L : List Cel} {W W' : World} (h : OwnC B v L W) (hk : MK p m W W') (hp : p < B) (hne : v.ownBlock ≠ some m) : OwnC B v L W' := by
  obtain ⟨h1, h2⟩ := h
  refine ⟨h1, ?_⟩
  rcases h2 with h2 | ⟨g, cap, cur, hv, hB, hg, hrest⟩
  · exact Or.inl h2
  · refine Or.inr ⟨g, cap, cur, hv, hB, hk.2 g _ hg (by omega) (fun e => hne ?_), hrest⟩
    rw [hv, ← e]; rfl
theorem IS.mk_ (h : IS p bm w v0 v out l op nm W) (hs : PS p l' v op W') (hm : NamesM bm nm' W') (hk : MK p bm W W') : IS p bm w v0 v out l' op nm' W' :=
  ⟨⟨hs, h.vp.own.mk hk (Nat.lt_succ_self p) h.ne, ⟨h.vp.vk.1.trans hk.1, fun k o ho h1 h2 => hk.2 k o (h.vp.vk.2 k o ho h1 h2) h1 (by have := heap_lt ho; have := h.lo; omega)⟩, h.vp.ob⟩, hm, h.lo, h.pl, h.ne⟩
theorem VP.join {v2 : Value} {out2 : List Cel} (h : VP p w v0 v out l op W) (h' : VP p W v v2 out2 l' op' W') : VP p w v0 v2 out2 l' op' W' :=
  ⟨h'.st, h'.own, h.vk.trans h'.vk h.ob, fun k hk => by
    rcases h'.ob k hk with e | e
    · exact h.ob k e
    · have := h.size; exact Or.inr (by omega)⟩
theorem IS.val {v2 : Value} {out2 : List Cel} (h : IS p bm w v0 v out l op nm W) (h' : VP p W v v2 out2 l' op' W') : IS p bm w v0 v2 out2 l' op' nm W' := by
  have hlt := h.nm.lt
  refine ⟨h.vp.join h', h.nm.keep ?_, h.lo, h.pl, fun e => ?_⟩
  · have := Array.getElem?_eq_getElem hlt
    rw [this]
    exact h'.vk.2 bm _ this (by have := h.lo; have := h.pl; omega) h.ne
  · rcases h'.ob bm e with e | e
    · exact h.ne e
    · omega
end
end Go.Proofs.YtgaknbnhmoddcaaGreatDoor
namespace Go.Proofs.YtgaknbnhmoddcaaGreatDoor
open Go.RowKit Go.Lib
theorem LS.grown {p tb off cap : Nat} {T : List Tok} {fx : Bool} {k : Nat} {op : Int} {v : Value} {W W' : World} {bm : Nat} (h : LS p tb off cap T fx k op v W) (hg : W.grownBy W' (some bm)) (hp : p < bm) : LS p tb off cap T fx k op v W' := by
  have hb := h.2.2.1
  refine ⟨(hg.block p h.lt (fun e => by injection e; omega)).trans h.1, ?_, h.2.2⟩
  intro i hi
  obtain ⟨h1, h2, h3⟩ := h.2.1 i hi
  have e := hg.block tb (lt_of_cell h1) (fun e => by injection e; omega)
  refine ⟨?_, ?_, ?_⟩
  · rw [← h1]; unfold World.cell?; rw [e]
  · rw [← h2]; unfold World.cell?; rw [e]
  · rw [← h3]; unfold World.cell?; rw [e]
/-- What a name leaves: a map of names that holds it, too. -/
def NaP (p tb off cap : Nat) (T : List Tok) (fx : Bool) (op : Int) (v : Value) (k bm : Nat) (nm : List (List UInt8)) (w0 : World) (o : Except ErrP (List UInt8)) (x : Ending) (W : World) : Prop := match o with
  | .error e => x = .panicked (stopP e) ∧ Below p w0 W
  | .ok s => x = .returned (.string ⟨s.toArray⟩) ∧ LS p tb off cap T fx (k + 1) op v W ∧ NamesM bm (s :: nm) W ∧ MK p bm w0 W
def naV (k : Nat) (o : Except ErrP (List UInt8)) : Except ErrP (Value × Nat) := match o with
  | .error e => .error e
  | .ok s => .ok (.string ⟨s.toArray⟩, k + 1)
theorem lookP_small {T : List Tok} (h : ∀ t ∈ T, t.text.length ≤ 100000) (k : Nat) : (lookP T k).text.length ≤ 100000 := by
  by_cases hk : k < T.length
  · rw [lookP_in hk]; exact h _ (List.getElem_mem _)
  · rw [lookP_out hk]; exact Nat.zero_le _
theorem nil_lookup (s : ByteArray) (hs : s.size ≤ maxLen) (W : World) : (Instr.lookup 136 (.map none) (.string s) false).run Tryz.prog W = .ok (.int .i64 0) W := by
  rw [Maps.look_nil false names_keyed Tryz.underlying136 (names_zero W) (names_key s hs)]; rfl
theorem map_neq (m : Option Nat) (W : World) : (binOp .neq 136 (.map m) (.map none)).run Tryz.prog W = .ok (.bool (!m.isNone)) W := run_neq_map_nil W _ _ _ m Tryz.underlying136
set_option maxRecDepth 100000 in
theorem l_name0 {p tb off cap : Nat} {T : List Tok} {fx : Bool} {k : Nat} {op : Int} {v : Value} (w : World) (h : LS p tb off cap T fx k op v w) (hk : k ≤ 100000) :
    Calls Tryz.prog 86 #[.pointer (some ⟨p, 0, none⟩), .map none] w (PO p tb off cap T fx op v w (naV k (namP [] T k))) := by
  have HL := Lib.hid (l_look w h)
  have HN := Lib.hid (fun e (W : World) (h : LS p tb off cap T fx k op v W) => l_no e W h)
  have hp := h.lt
  have HS := Lib.hid h
  have hsm := lookP_small h.2.2.2.1.2 k
  have hw : IntKind.i64.wrap ((k : Int) + 1) = ((k + 1 : Nat) : Int) := by rw [IntWalk.i64_in ((k : Int) + 1) (by omega)]; omega
  clear h
  unfold namP
  unfold tokW at HL
  obtain ⟨t, ht⟩ : ∃ t : Tok, lookP T k = t := ⟨_, rfl⟩
  rw [ht] at HL hsm ⊢
  clear ht
  obtain ⟨kk, tx, ps⟩ := t
  obtain ⟨b, hb⟩ : ∃ b : ByteArray, (⟨tx.toArray⟩ : ByteArray) = b := ⟨_, rfl⟩
  have hbz : b.size ≤ maxLen := by rw [← bsz, ← hb]; unfold maxLen; simp at hsm ⊢; omega
  simp only [] at HL hsm ⊢
  rw [hb] at HL
  have hnl := fun W => nil_lookup b hbz W
  have hnq := fun W => map_neq none W
  simp only [Option.isNone_none, Bool.not_true] at hnq
  by_cases h1 : kk = 1
  · rw [h1] at HL ⊢
    rw [if_neg (by decide), if_neg (by simp)]
    simp only [naV]
    rw [hb]
    clear hb hbz hsm h1
    go_enter Tryz.func86, Tryz.ntmps86
    go_wp2_with fail
    refine HL.out.mono ?_; rintro x w1 ⟨rfl, hb⟩
    have HB := Lib.hid hb
    have HK1 := Lib.hid ((RK.of_below hb hp).trans (RK.of_below ((Below.refl w1.heap.size w1).alloc (Nat.le_refl _) (.cells #[.int .u8 1, .string b, .int .i64 ps] 72 (0, 0))) (Nat.lt_of_lt_of_le hp hb.size)))
    have HS1 := Lib.hid ((HS.out.below hb).below ((Below.refl w1.heap.size w1).alloc (Nat.le_refl _) (.cells #[.int .u8 1, .string b, .int .i64 ps] 72 (0, 0))))
    obtain ⟨c0, c1, _, _, _⟩ := HS1.out.cells
    have f1 := HS1.out.frozen 1
    have hcd : ((w1.alloc (.cells #[.int .u8 1, .string b, .int .i64 ps] 72 (0, 0))).setCell ⟨p, 1, none⟩ (.int .i64 ((k : Int) + 1))).cell? ⟨w1.heap.size, 1, none⟩ = some (.string b) := by
      have : p < w1.heap.size := Nat.lt_of_lt_of_le hp hb.size
      have hne : ¬ w1.heap.size = p := by omega
      simp [go_sem, hne]
    clear hb
    go_wp2_with fail
    go_returns
    exact ⟨rfl, HS1.out.go (k + 1) (by omega), HK1.out.trans (RK.set p 1 _ _)⟩
  · have h5 : ¬ (kk.toNat : Int) = 1 := fun h => h1 (UInt8.toNat_inj.1 (by simpa using (by omega : kk.toNat = 1)))
    rw [if_pos (by simpa using h1)]
    obtain ⟨kd, hkd⟩ : ∃ kd : Int, (kk.toNat : Int) = kd := ⟨_, rfl⟩
    rw [hkd] at HL h5
    clear hb hbz hsm hkd h1 hnl hnq
    go_enter Tryz.func86, Tryz.ntmps86
    go_wp2_with fail
    refine HL.out.mono ?_; rintro x w1 ⟨rfl, hb⟩
    have HB := Lib.hid hb
    have HS1 := Lib.hid ((HS.out.below hb).below ((Below.refl w1.heap.size w1).alloc (Nat.le_refl _) (.cells #[.int .u8 kd, .string b, .int .i64 ps] 72 (0, 0))))
    have hp1 : p ≤ (w1.alloc (.cells #[.int .u8 kd, .string b, .int .i64 ps] 72 (0, 0))).heap.size := Nat.le_of_lt HS1.out.lt
    have HB2 := Lib.hid ((hb.alloc hb.size (.cells #[.int .u8 kd, .string b, .int .i64 ps] 72 (0, 0))).mono (Nat.le_of_lt hp))
    clear hb
    go_wp2_with fail
    refine (HN.out 180 _ HS1.out).mono ?_; rintro x w2 ⟨rfl, hb⟩
    have HB3 := Lib.hid (HB2.out.trans (hb.mono hp1))
    clear hb
    go_wp2_with fail
    exact ⟨rfl, rfl, HB3.out⟩
set_option maxRecDepth 100000 in
theorem l_name {p tb off cap : Nat} {T : List Tok} {fx : Bool} {k : Nat} {op : Int} {v : Value} (bm : Nat) (nm : List (List UInt8)) (w : World) (h : LS p tb off cap T fx k op v w) (hk : k ≤ 100000) (hM : NamesM bm nm w) (hpb : p < bm) (hnm : nm.length < 1000000) :
    Calls Tryz.prog 86 #[.pointer (some ⟨p, 0, none⟩), .map (some bm)] w (NaP p tb off cap T fx op v k bm nm w (namP nm T k)) := by
  have HL := Lib.hid (l_look w h)
  have HN := Lib.hid (fun e (W : World) (h : LS p tb off cap T fx k op v W) => l_no e W h)
  have hp := h.lt
  have HS := Lib.hid h
  have HMM := Lib.hid hM
  have hsm := lookP_small h.2.2.2.1.2 k
  have hMlt := hM.lt
  have hw : IntKind.i64.wrap ((k : Int) + 1) = ((k + 1 : Nat) : Int) := by rw [IntWalk.i64_in ((k : Int) + 1) (by omega)]; omega
  clear h hM
  unfold namP
  unfold tokW at HL
  obtain ⟨t, ht⟩ : ∃ t : Tok, lookP T k = t := ⟨_, rfl⟩
  rw [ht] at HL hsm ⊢
  clear ht
  obtain ⟨kk, tx, ps⟩ := t
  obtain ⟨b, hb⟩ : ∃ b : ByteArray, (⟨tx.toArray⟩ : ByteArray) = b := ⟨_, rfl⟩
  have hbz : b.size ≤ maxLen := by rw [← bsz, ← hb]; unfold maxLen; simp at hsm ⊢; omega
  have hbd : b.data.toList = tx := by rw [← hb]
  simp only [] at HL hsm ⊢
  rw [hb] at HL
  have hnq := fun W => map_neq (some bm) W
  simp only [Option.isNone_some, Bool.not_false] at hnq
  by_cases h1 : kk = 1
  · rw [h1] at HL ⊢
    rw [if_neg (by decide)]
    have HLK : Hid (∀ W, NamesM bm nm W → (Instr.lookup 136 (.map (some bm)) (.string b) false).run Tryz.prog W = .ok (.int .i64 (if nm.contains tx then 1 else 0)) W) := Lib.hid fun W hW => by
      have := hW.lookup b hbz
      rw [hbd, among_contains] at this; exact this
    have HUP : Hid (∀ W, NamesM bm nm W → ∃ W', (Instr.mapUpdate 136 (.map (some bm)) (.string b) (.int .i64 1)).run Tryz.prog W = .ok () W' ∧ NamesM bm (tx :: nm) W' ∧ W.grownBy W' (some bm)) := Lib.hid fun W hW => by
      have := hW.update b hbz hnm
      rw [hbd] at this; exact this
    cases hc : nm.contains tx with
    | true =>
      rw [if_pos rfl]
      rw [hc] at HLK
      clear hb hbd hbz hsm h1 hc hnq
      go_enter Tryz.func86, Tryz.ntmps86
      go_wp2_with fail
      refine HL.out.mono ?_; rintro x w1 ⟨rfl, hb⟩
      have HS1 := Lib.hid ((HS.out.below hb).below ((Below.refl w1.heap.size w1).alloc (Nat.le_refl _) (.cells #[.int .u8 1, .string b, .int .i64 ps] 72 (0, 0))))
      have hp1 : p ≤ (w1.alloc (.cells #[.int .u8 1, .string b, .int .i64 ps] 72 (0, 0))).heap.size := Nat.le_of_lt HS1.out.lt
      have HB2 := Lib.hid ((hb.alloc hb.size (.cells #[.int .u8 1, .string b, .int .i64 ps] 72 (0, 0))).mono (Nat.le_of_lt hp))
      have hr := HLK.out _ ((HMM.out.below hb).below ((Below.refl w1.heap.size w1).alloc (Nat.le_refl _) (.cells #[.int .u8 1, .string b, .int .i64 ps] 72 (0, 0))))
      clear hb
      go_wp2_with fail
      refine (HN.out 42 _ HS1.out).mono ?_; rintro x w2 ⟨rfl, hb⟩
      have HB3 := Lib.hid (HB2.out.trans (hb.mono hp1))
      clear hb
      go_wp2_with fail
      exact ⟨rfl, rfl, HB3.out⟩
    | false =>
      rw [if_neg (by simp)]
      rw [hc] at HLK
      have HBE : Hid ((⟨tx.toArray⟩ : ByteArray) = b) := Lib.hid hb
      clear hb hbd hbz hsm h1 hc
      go_enter Tryz.func86, Tryz.ntmps86
      go_wp2_with fail
      refine HL.out.mono ?_; rintro x w1 ⟨rfl, hb⟩
      have HK1 := Lib.hid ((RK.of_below hb hp).trans (RK.of_below ((Below.refl w1.heap.size w1).alloc (Nat.le_refl _) (.cells #[.int .u8 1, .string b, .int .i64 ps] 72 (0, 0))) (Nat.lt_of_lt_of_le hp hb.size)))
      have HS1 := Lib.hid ((HS.out.below hb).below ((Below.refl w1.heap.size w1).alloc (Nat.le_refl _) (.cells #[.int .u8 1, .string b, .int .i64 ps] 72 (0, 0))))
      have HM1 := Lib.hid ((HMM.out.below hb).below ((Below.refl w1.heap.size w1).alloc (Nat.le_refl _) (.cells #[.int .u8 1, .string b, .int .i64 ps] 72 (0, 0))))
      have hr := HLK.out _ HM1.out
      obtain ⟨c0, c1, _, _, _⟩ := HS1.out.cells
      have f1 := HS1.out.frozen 1
      have HS2 := Lib.hid (HS1.out.go (k + 1) (by omega))
      have HM2 := Lib.hid (HM1.out.rk (RK.set p 1 _ (.int .i64 ((k : Int) + 1))) (by omega))
      have hcd : ((w1.alloc (.cells #[.int .u8 1, .string b, .int .i64 ps] 72 (0, 0))).setCell ⟨p, 1, none⟩ (.int .i64 ((k : Int) + 1))).cell? ⟨w1.heap.size, 1, none⟩ = some (.string b) := by
        have : p < w1.heap.size := Nat.lt_of_lt_of_le hp hb.size
        have hne : ¬ w1.heap.size = p := by omega
        simp [go_sem, hne]
      obtain ⟨W2, hu, hM3, hg⟩ := HUP.out _ HM2.out
      have hbl := hMlt
      have hsz1 := hb.size
      have hcd2 : W2.cell? ⟨w1.heap.size, 1, none⟩ = some (.string b) := by
        rw [← hcd]
        unfold World.cell?
        rw [hg.block w1.heap.size (lt_of_cell hcd) (fun e => by injection e; omega)]
      have HM3 := Lib.hid hM3
      have HG := Lib.hid hg
      clear hb hM3 hg
      go_wp2_with fail
      go_returns
      refine ⟨by rw [HBE.out]; rfl, HS2.out.grown HG.out hpb, HM3.out, ?_⟩
      exact ((MK.of_rk HK1.out).rk (RK.set p 1 _ _)).grown HG.out hpb HM2.out.lt
  · have h5 : ¬ (kk.toNat : Int) = 1 := fun h => h1 (UInt8.toNat_inj.1 (by simpa using (by omega : kk.toNat = 1)))
    rw [if_pos (by simpa using h1)]
    obtain ⟨kd, hkd⟩ : ∃ kd : Int, (kk.toNat : Int) = kd := ⟨_, rfl⟩
    rw [hkd] at HL h5
    clear hb hbz hbd hsm hkd h1 hnq
    go_enter Tryz.func86, Tryz.ntmps86
    go_wp2_with fail
    refine HL.out.mono ?_; rintro x w1 ⟨rfl, hb⟩
    have HB := Lib.hid hb
    have HS1 := Lib.hid ((HS.out.below hb).below ((Below.refl w1.heap.size w1).alloc (Nat.le_refl _) (.cells #[.int .u8 kd, .string b, .int .i64 ps] 72 (0, 0))))
    have hp1 : p ≤ (w1.alloc (.cells #[.int .u8 kd, .string b, .int .i64 ps] 72 (0, 0))).heap.size := Nat.le_of_lt HS1.out.lt
    have HB2 := Lib.hid ((hb.alloc hb.size (.cells #[.int .u8 kd, .string b, .int .i64 ps] 72 (0, 0))).mono (Nat.le_of_lt hp))
    clear hb
    go_wp2_with fail
    refine (HN.out 180 _ HS1.out).mono ?_; rintro x w2 ⟨rfl, hb⟩
    have HB3 := Lib.hid (HB2.out.trans (hb.mono hp1))
    clear hb
    go_wp2_with fail
    exact ⟨rfl, rfl, HB3.out⟩
end Go.Proofs.YtgaknbnhmoddcaaGreatDoor
namespace Go.Proofs.YtgaknbnhmoddcaaGreatDoor
open Go.RowKit Go.Lib
/-- The reader's state, behind a world that it began in. -/
structure LV (p tb off cap : Nat) (T : List Tok) (fx : Bool) (w : World) (v0 v : Value) (out : List Cel) (k : Nat) (op : Int) (W : World) : Prop where
  st : LS p tb off cap T fx k op v W
  own : OwnC (p + 1) v out W
  vk : VK p v0 w W
  ob : ∀ k, v.ownBlock = some k → v0.ownBlock = some k ∨ w.heap.size ≤ k
section
variable {p tb off cap : Nat} {T : List Tok} {fx : Bool} {w : World} {v0 v : Value} {out : List Cel} {k k' : Nat} {op op' : Int} {W W' : World}
theorem LV.size (h : LV p tb off cap T fx w v0 v out k op W) : w.heap.size ≤ W.heap.size := h.vk.1.size
theorem LV.rk (h : LV p tb off cap T fx w v0 v out k op W) (hs : LS p tb off cap T fx k' op' v W') (hk : RK p W W') : LV p tb off cap T fx w v0 v out k' op' W' := ⟨hs, h.own.rk hk (Nat.lt_succ_self p), h.vk.rk hk, h.ob⟩
theorem LV.below (h : LV p tb off cap T fx w v0 v out k op W) (hb : Below W.heap.size W W') : LV p tb off cap T fx w v0 v out k op W' := h.rk (h.st.below hb) (RK.of_below hb h.st.lt)
theorem LV.alloc (h : LV p tb off cap T fx w v0 v out k op W) (o : Obj) : LV p tb off cap T fx w v0 v out k op (W.alloc o) := h.below ((Below.refl W.heap.size W).alloc (Nat.le_refl _) _)
theorem LV.drewN (h : LV p tb off cap T fx w v0 v out k op W) (n : Nat) : LV p tb off cap T fx w v0 v out k op (W.drewN n) := h.below (below_dN n (Below.refl _ _))
theorem LV.go (h : LV p tb off cap T fx w v0 v out k op W) (k' : Nat) (hk : k' ≤ 200000) : LV p tb off cap T fx w v0 v out k' op (W.setCell ⟨p, 1, none⟩ (.int .i64 k')) := h.rk (h.st.go k' hk) (RK.set p 1 W _)
theorem LV.op_ (h : LV p tb off cap T fx w v0 v out k op W) (a : Int) : LV p tb off cap T fx w v0 v out k a (W.setCell ⟨p, 3, none⟩ (.int .i64 a)) := h.rk (h.st.op_ a) (RK.set p 3 W _)
/-- A block is not the row of cells, nor the reader, nor the row of tokens: it may be written. -/
theorem LS.same (h : LS p tb off cap T fx k op v W) (hp : W'.heap[p]? = W.heap[p]?) (ht : W'.heap[tb]? = W.heap[tb]?) : LS p tb off cap T fx k op v W' := by
  refine ⟨hp.trans h.1, ?_, h.2.2⟩
  intro i hi
  obtain ⟨h1, h2, h3⟩ := h.2.1 i hi
  refine ⟨?_, ?_, ?_⟩
  · rw [← h1]; unfold World.cell?; rw [ht]
  · rw [← h2]; unfold World.cell?; rw [ht]
  · rw [← h3]; unfold World.cell?; rw [ht]
theorem LV.grown {v' : Value} {out' : List Cel} {H : Nat} (h : LV p tb off cap T fx w v0 v out k op W) (ho : OwnC (p + 1) v' out' W') (hg : W.grownBy W' v.ownBlock) (hat : v'.ownBlock = v.ownBlock ∨ v'.ownBlock = some H) (hH : W.heap.size = H) : LS p tb off cap T fx k op v W' ∧ LV p tb off cap T fx w v0 v' out' k op (W'.setCell ⟨p, 4, none⟩ v') := by
  have hlt := h.st.lt
  have htb := h.st.2.2.1
  have hne : ∀ q, q ≤ p → some q ≠ v.ownBlock := fun q hq e => by
    rcases own_some h.own with h0 | ⟨g, _, _, _, h0, h1, _⟩
    · rw [h0] at e; cases e
    · rw [h0] at e; injection e with e; omega
  have hst : LS p tb off cap T fx k op v W' := h.st.same (hg.block p hlt (hne p (Nat.le_refl _))) (hg.block tb (by omega) (hne tb (by omega)))
  have hvk : VK p v W W' := by
    refine ⟨(Below.refl p W).grown hg (Nat.le_of_lt hlt) (fun k hk => ?_), fun k o hk hne2 hv => ?_⟩
    · rcases own_some h.own with h0 | ⟨g, _, _, _, h0, h1, _⟩
      · rw [h0] at hk; cases hk
      · rw [h0] at hk; injection hk with hk; omega
    · rw [hg.block k (heap_lt hk) (fun e => hv e.symm)]; exact hk
  refine ⟨hst, hst.out v', ho.rk (RK.set p 4 _ _) (Nat.lt_succ_self p), (h.vk.trans hvk h.ob).rk (RK.set p 4 _ _), fun k hk => ?_⟩
  rcases hat with e | e
  · exact h.ob k (e ▸ hk)
  · rw [e] at hk; injection hk with hk
    have := h.size
    rw [hH] at this
    exact Or.inr (by omega)
theorem LV.set {g i m c : Nat} {u : Value} {out' : List Cel} (h : LV p tb off cap T fx w v0 v out k op W) (hv : v = .slice (some ⟨g, 0, none⟩) m c) (hr : p < g) (hl : out'.length = out.length) (hf : celFlat out' = (celFlat out).set i u) : LV p tb off cap T fx w v0 v out' k op (W.setCell ⟨g, i, none⟩ u) := by
  have htb := h.st.2.2.1
  refine ⟨h.st.same ?_ ?_, h.own.set hv hl hf, h.vk.trans (VK.set hv hr) h.ob, h.ob⟩
  · exact Below.heap_setCell _ _ _ _ (by show p ≠ g; omega)
  · exact Below.heap_setCell _ _ _ _ (by show tb ≠ g; omega)
end
/-- Where a value ends. -/
def LVE (p tb off cap : Nat) (T : List Tok) (fx : Bool) (w : World) (v0 : Value) (op : Int) (o : Except ErrP (Nat × List Cel)) (x : Ending) (W : World) : Prop := match o with
  | .error e => x = .panicked (stopP e) ∧ Below p w W
  | .ok (k, out') => x = .returned (.tuple #[]) ∧ out'.length ≤ 2048 ∧ ∃ v', LV p tb off cap T fx w v0 v' out' k op W
/-- 'append(v, c)' of a whole cell. -/
theorem wp_pushL {o : Oper} {a : Act} {K : Act → World → Prop} {Q : Exit → Act → World → Prop} {w : World} (s x : Operand)
    (ho : o.op = .call { callee := .builtin .append, args := #[s, x], argTypes := #[22, 22] }) (B : Nat) (v : Value) (L : List Cel) (hs : a.eval s = v) (hown : OwnC B v L w)
    (g cc : Nat) (c : Cel) (hx : a.eval x = .slice (some ⟨g, 0, none⟩) 1 cc) (hnew : w.heap[g]? = some (.cells (celCells c) 63 (0, 0))) (hlen : L.length + 1 ≤ 1000000) (hB : B ≤ w.heap.size)
    (h : ∀ v' w', OwnC B v' (L ++ [c]) w' → w.grownBy w' v.ownBlock → (v'.ownBlock = v.ownBlock ∨ v'.ownBlock = some w.heap.size) → K (a.put o.dst v') w') : o.wp Tryz.prog a w K Q := by
  obtain ⟨i0, hi, hz0, hz1, hz2⟩ := info_parts cel_info
  obtain ⟨v', w', hr, h2, h3, h4, h5⟩ := run_append_own_at (P := Tryz.prog) w B 22 o.type 63 i0 (.agg #[.int .u8 0, .string ⟨#[]⟩, .string ⟨#[]⟩, .int .i64 0, .int .i64 0]) 5 56 Tryz.underlying22 hi hz0 hz1 hz2 rfl (by decide) v L.length (celFlat L) hown ⟨g, 0, none⟩ 1 cc (celFlat [c]) rfl (fun j u hj => by
    rw [addr_add, Nat.zero_add, Lib.cell_of_heap hnew]
    match j, hj with
    | 0, hj => simpa [celFlat, celCells] using hj
    | 1, hj => simpa [celFlat, celCells] using hj
    | 2, hj => simpa [celFlat, celCells] using hj
    | 3, hj => simpa [celFlat, celCells] using hj
    | 4, hj => simpa [celFlat, celCells] using hj
    | j + 5, hj => simp [celFlat] at hj) (celFlat_one _) (by unfold maxLen; omega) (by omega) hB
  unfold Oper.wp execOp
  simp only [ho, resolve, invoke, builtin, Sem.run_bind, Sem.run_pure, Result.andThen_ok, List.map_toArray, List.map_cons, List.map_nil, hs, hx, hr]
  refine h v' w' ?_ h3 h5
  unfold OwnC
  rw [List.length_append, celFlat_app]
  exact h2
end Go.Proofs.YtgaknbnhmoddcaaGreatDoor
namespace Go.Proofs.YtgaknbnhmoddcaaGreatDoor
open Go.RowKit Go.Lib
theorem mrk_no {T : List Tok} {k : Nat} (h : (lookP T k).kind ≠ 4) (s : List UInt8) : mrkP T k s = false := by
  unfold mrkP
  rw [beq_eq_false_iff_ne.2 h, Bool.false_and]
theorem tcells {A : Nat} {W : World} {x y z : Value} {T : TypeId} (h : W.heap[A]? = some (.cells #[x, y, z] T (0, 0))) : W.cell? ⟨A, 0, none⟩ = some x ∧ W.cell? ⟨A, 1, none⟩ = some y ∧ W.cell? ⟨A, 2, none⟩ = some z := by
  refine ⟨?_, ?_, ?_⟩
  all_goals (rw [Lib.cell_of_heap h]; rfl)
theorem ccells {A : Nat} {W : World} {x y z u v : Value} {T : TypeId} (h : W.heap[A]? = some (.cells #[x, y, z, u, v] T (0, 0))) : W.cell? ⟨A, 0, none⟩ = some x ∧ W.cell? ⟨A, 1, none⟩ = some y ∧ W.cell? ⟨A, 2, none⟩ = some z ∧ W.cell? ⟨A, 3, none⟩ = some u ∧ W.cell? ⟨A, 4, none⟩ = some v := by
  refine ⟨?_, ?_, ?_, ?_, ?_⟩
  all_goals (rw [Lib.cell_of_heap h]; rfl)
set_option maxRecDepth 100000 in
set_option maxHeartbeats 4000000 in
theorem l_value_text {p tb off cap : Nat} {T : List Tok} {fx : Bool} {k : Nat} {op : Int} (v : Value) (L : List Cel) (name : ByteArray) (W : World) (h : LS p tb off cap T fx k op v W) (hown : OwnC (p + 1) v L W) (hL : L.length ≤ 2048) (hk : k ≤ 100000) (hf : L.length ≠ 2048) (hkk : (lookP T k).kind = 3) :
    Calls Tryz.prog 91 #[.pointer (some ⟨p, 0, none⟩), .string name] W (LVE p tb off cap T fx W v op (.ok (k + 1, L ++ [⟨3, name.data.toList, (lookP T k).text, 0, 0⟩]))) := by
  have HV0 : Hid (LV p tb off cap T fx W v v L k op W) := Lib.hid ⟨h, hown, VK.refl _ _ _, fun k hk => Or.inl hk⟩
  have HLK := Lib.hid (fun (W : World) (hW : LS p tb off cap T fx k op v W) => l_look W hW)
  have HIS := Lib.hid (fun (s : ByteArray) (W : World) (hW : LS p tb off cap T fx k op v W) => l_is s W hW)
  have HNO := Lib.hid (fun (e : Int) (W : World) (hW : LS p tb off cap T fx k op v W) => l_no e W hW)
  have hw1 : IntKind.i64.wrap ((k : Int) + 1) = (k : Int) + 1 := IntWalk.i64_in _ (by omega)
  have hvl : ∃ a n c, v = .slice a n c ∧ n = L.length := by
    rcases HV0.out.own.2 with ⟨h1, h2⟩ | ⟨g, cap, cur, h1, _⟩
    · exact ⟨none, 0, 0, h1, h2.symm⟩
    · exact ⟨_, _, _, h1, rfl⟩
  obtain ⟨av, nv, cv, rfl, hnv⟩ := hvl
  have HNV := Lib.hid hnv
  have hnv8 : nv ≤ 2048 := by omega
  clear h hown
  have hL2 : nv ≤ 2047 := by omega
  have tf : ((nv : Int) == 2048) = false := by rw [beq_eq_false_iff_ne]; omega
  have hno := mrk_no (T := T) (k := k) (by rw [hkk]; decide)
  simp only [hno] at HIS
  obtain ⟨kd, hkd⟩ : ∃ kd : Int, ((lookP T k).kind.toNat : Int) = kd := ⟨_, rfl⟩
  obtain ⟨tb0, htb0⟩ : ∃ b : ByteArray, (⟨(lookP T k).text.toArray⟩ : ByteArray) = b := ⟨_, rfl⟩
  obtain ⟨ps, hps⟩ : ∃ ps : Int, (lookP T k).pos = ps := ⟨_, rfl⟩
  have HTX : Hid (tb0.data.toList = (lookP T k).text) := Lib.hid (by rw [← htb0])
  have HTB := Lib.hid htb0
  unfold tokW at HLK
  rw [hkd, htb0, hps] at HLK
  have hkd2 : kd = 3 := by rw [← hkd, hkk]; rfl
  subst hkd2
  clear hkd htb0 hps hkk hno hnv
  cases fx
  case' true =>
    go_enter Tryz.func91, Tryz.ntmps91
    go_wp2_with fail
    refine (HLK.out _ HV0.out.st).mono ?_; rintro x w1 ⟨rfl, hb⟩
    have HV1 := Lib.hid ((HV0.out.below hb).alloc (.cells #[.int .u8 3, .string tb0, .int .i64 ps] 72 (0, 0)))
    have HA1 : Hid ((w1.alloc (.cells #[.int .u8 3, .string tb0, .int .i64 ps] 72 (0, 0))).heap[w1.heap.size]? = some (.cells #[.int .u8 3, .string tb0, .int .i64 ps] 72 (0, 0))) := Lib.hid (heap_alloc_last _ _)
    obtain ⟨A, hA⟩ : ∃ A, w1.heap.size = A := ⟨_, rfl⟩
    rw [hA] at HA1
    have HAZ := Lib.hid hA
    clear hb
    go_wp2_with fail
    refine (HIS.out _ _ HV1.out.st).mono ?_; rintro x w2 ⟨rfl, hb⟩
    have HV2 := Lib.hid (HV1.out.below hb)
    have HA2 := Lib.hid ((hb.block A (heap_lt HA1.out)).trans HA1.out)
    clear hb
    go_wp2_with fail
    refine (HIS.out _ _ HV2.out.st).mono ?_; rintro x w4 ⟨rfl, hb⟩
    have HV4 := Lib.hid (HV2.out.below hb)
    have HA4 := Lib.hid ((hb.block A (heap_lt HA2.out)).trans HA2.out)
    clear hb
  case' false =>
    go_enter Tryz.func91, Tryz.ntmps91
    go_wp2_with fail
    refine (HLK.out _ HV0.out.st).mono ?_; rintro x w1 ⟨rfl, hb⟩
    have HV1 := Lib.hid ((HV0.out.below hb).alloc (.cells #[.int .u8 3, .string tb0, .int .i64 ps] 72 (0, 0)))
    have HA1 : Hid ((w1.alloc (.cells #[.int .u8 3, .string tb0, .int .i64 ps] 72 (0, 0))).heap[w1.heap.size]? = some (.cells #[.int .u8 3, .string tb0, .int .i64 ps] 72 (0, 0))) := Lib.hid (heap_alloc_last _ _)
    obtain ⟨A, hA⟩ : ∃ A, w1.heap.size = A := ⟨_, rfl⟩
    rw [hA] at HA1
    have HAZ := Lib.hid hA
    clear hb
    go_wp2_with fail
    refine (HIS.out _ _ HV1.out.st).mono ?_; rintro x w2 ⟨rfl, hb⟩
    have HV2 := Lib.hid (HV1.out.below hb)
    have HA2 := Lib.hid ((hb.block A (heap_lt HA1.out)).trans HA1.out)
    clear hb
    go_wp2_with fail
    refine (HIS.out _ _ HV2.out.st).mono ?_; rintro x w3 ⟨rfl, hb⟩
    have HV3 := Lib.hid (HV2.out.below hb)
    have HA3 := Lib.hid ((hb.block A (heap_lt HA2.out)).trans HA2.out)
    clear hb
    obtain ⟨c0, c1, c2, c3, c4⟩ := HV3.out.st.cells
    go_wp2_with fail
    refine (HIS.out _ _ HV3.out.st).mono ?_; rintro x w4 ⟨rfl, hb⟩
    have HV4 := Lib.hid (HV3.out.below hb)
    have HA4 := Lib.hid ((hb.block A (heap_lt HA3.out)).trans HA3.out)
    clear hb
    clear c0 c1 c2 c3 c4
  all_goals
    obtain ⟨c0, c1, c2, c3, c4⟩ := HV4.out.st.cells
    obtain ⟨a0, a1, a2⟩ := tcells HA4.out
    have hA4 : A < w4.heap.size := heap_lt HA4.out
    have hp4 : p < w4.heap.size := HV4.out.st.lt
    go_wp2_with fail
    clear c3 c4
    go_region
    obtain ⟨C, hC⟩ : ∃ C, w4.heap.size = C := ⟨_, rfl⟩
    have HV4a := Lib.hid ((HV4.out.alloc (.cells #[.int .u8 3, .string name, .string tb0, .int .i64 0, .int .i64 0] 63 (0, 0))).drewN 1)
    have HC4 : Hid ((w4.alloc (.cells #[.int .u8 3, .string name, .string tb0, .int .i64 0, .int .i64 0] 63 (0, 0))).drew.heap[C]? = some (.cells #[.int .u8 3, .string name, .string tb0, .int .i64 0, .int .i64 0] 63 (0, 0))) := Lib.hid (by rw [← hC]; exact heap_alloc_last _ _)
    rw [hC]
    obtain ⟨y4, hy4⟩ : ∃ y4, (w4.alloc (.cells #[.int .u8 3, .string name, .string tb0, .int .i64 0, .int .i64 0] 63 (0, 0))).drew = y4 := ⟨_, rfl⟩
    have hpC : p < C := by rw [← hC]; exact hp4
    rw [show (w4.alloc (.cells #[.int .u8 3, .string name, .string tb0, .int .i64 0, .int .i64 0] 63 (0, 0))).drewN 1 = y4 from hy4] at HV4a
    rw [hy4] at HC4 ⊢
    clear hy4 c0 c1 c2 a0 a1 a2 hA4 hp4 hC
    obtain ⟨c0, c1, c2, c3, c4⟩ := HV4a.out.st.cells
    have f1 := HV4a.out.st.frozen 1
    obtain ⟨y5, hy5⟩ : ∃ y5, y4.setCell ⟨p, 1, none⟩ (.int .i64 ((k : Int) + 1)) = y5 := ⟨_, rfl⟩
    have HY5 := Lib.hid (HV4a.out.go (k + 1) (by omega))
    have HC5 : Hid (y5.heap[C]? = some (.cells #[.int .u8 3, .string name, .string tb0, .int .i64 0, .int .i64 0] 63 (0, 0))) := Lib.hid (by rw [← hy5, Below.heap_setCell _ _ _ _ (by show C ≠ p; omega)]; exact HC4.out)
    rw [show y4.setCell ⟨p, 1, none⟩ (.int .i64 ((k + 1 : Nat) : Int)) = y5 from hy5] at HY5
    have HW5 := Lib.hid hy5
    clear hy5
    go_wp2_with fail
    try rw [HW5.out]
    clear c0 c1 c2 c3 c4 f1
    have hlt5 := HY5.out.st.lt
    have hC5 := heap_lt HC5.out
    obtain ⟨_, _, _, _, c4⟩ := HY5.out.st.cells
    have e4 : y5.drew.cell? ⟨p, 4, none⟩ = some (.slice av nv cv) := c4
    have e4' : ∀ o, (y5.drew.alloc o).cell? ⟨p, 4, none⟩ = some (.slice av nv cv) := fun o => by
      rw [World.cell?_alloc_lt _ _ _ (by exact hlt5)]; exact c4
    obtain ⟨q0, q1, q2, q3, q4⟩ := ccells (W := y5.drew) HC5.out
    have HCEL : Hid (celCells ⟨3, name.data.toList, (lookP T k).text, 0, 0⟩ = #[.int .u8 3, .string name, .string tb0, .int .i64 0, .int .i64 0]) := Lib.hid (by rw [← HTB.out]; rfl)
    refine wp_region_held_drew (S := fun _ => True) (by kernel_rfl) trivial (fun hHeld => ?_)
    refine tky 0 (some 160) (v := ?_) rfl (by kernel_rfl) (by kernel_rfl) (by kernel_rfl) (fun _ _ _ h => h) ?_ hHeld ?_
    rotate_left
    focus (intro w hSw; go_simp; (try with_reducible rfl); done)
    simp only [Act.put, List.setIfInBounds_toArray, List.set_cons_zero, List.set_cons_succ]
    refine tky 1 (some 161) (v := ?_) rfl (by kernel_rfl) (by kernel_rfl) (by kernel_rfl) (fun _ _ _ h => h) ?_ hHeld ?_
    rotate_left
    focus (intro w hSw; go_simp; (try with_reducible rfl); done)
    simp only [Act.put, List.setIfInBounds_toArray, List.set_cons_zero, List.set_cons_succ]
    refine tky 2 (some 162) (v := ?_) rfl (by kernel_rfl) (by kernel_rfl) (by kernel_rfl) (fun _ _ _ h => h) ?_ hHeld ?_
    rotate_left
    focus (intro w hSw; go_simp; (try with_reducible rfl); done)
    simp only [Act.put, List.setIfInBounds_toArray, List.set_cons_zero, List.set_cons_succ]
    refine tky 3 (some 163) (v := ?_) rfl (by kernel_rfl) (by kernel_rfl) (by kernel_rfl) (fun _ _ _ h => h) ?_ hHeld ?_
    rotate_left
    focus (intro w hSw; go_simp; (try with_reducible rfl); done)
    simp only [Act.put, List.setIfInBounds_toArray, List.set_cons_zero, List.set_cons_succ]
    refine wpAnyH_ready (rs := [4, 5]) (by kernel_rfl) (by simp) ?_
    refine acons 4 rfl (fun K hK => ?_) ?_
    go_simp
    refine hK.out _ _ trivial (fun _ => ?_)
    clear hK K
    (try simp only [Act.put, List.setIfInBounds_toArray, List.set_cons_zero, List.set_cons_succ])
    refine rcons 5 rfl (by kernel_rfl) (fun K hK => ?_)
    go_simp
    refine hK.out _ _ trivial (fun _ => ?_)
    clear hK K
    (try simp only [Act.put, List.setIfInBounds_toArray, List.set_cons_zero, List.set_cons_succ])
    refine rcons 6 rfl (by kernel_rfl) (fun K hK => ?_)
    go_simp
    refine hK.out _ _ trivial (fun _ => ?_)
    clear hK K
    (try simp only [Act.put, List.setIfInBounds_toArray, List.set_cons_zero, List.set_cons_succ])
    rotate_left
    refine acons 5 rfl (fun K hK => ?_) ?_
    go_simp
    refine hK.out _ _ trivial (fun _ => ?_)
    clear hK K
    (try simp only [Act.put, List.setIfInBounds_toArray, List.set_cons_zero, List.set_cons_succ])
    refine wpAnyH_ready (rs := [4, 6]) (by kernel_rfl) (by simp) ?_
    refine acons 4 rfl (fun K hK => ?_) ?_
    go_simp
    refine hK.out _ _ trivial (fun _ => ?_)
    clear hK K
    (try simp only [Act.put, List.setIfInBounds_toArray, List.set_cons_zero, List.set_cons_succ])
    refine rcons 6 rfl (by kernel_rfl) (fun K hK => ?_)
    go_simp
    refine hK.out _ _ trivial (fun _ => ?_)
    clear hK K
    (try simp only [Act.put, List.setIfInBounds_toArray, List.set_cons_zero, List.set_cons_succ])
    rotate_left
    refine acons 6 rfl (fun K hK => ?_) ?_
    go_simp
    refine hK.out _ _ trivial (fun _ => ?_)
    clear hK K
    (try simp only [Act.put, List.setIfInBounds_toArray, List.set_cons_zero, List.set_cons_succ])
    refine rcons 4 rfl (by kernel_rfl) (fun K hK => ?_)
    go_simp
    refine hK.out _ _ trivial (fun _ => ?_)
    clear hK K
    (try simp only [Act.put, List.setIfInBounds_toArray, List.set_cons_zero, List.set_cons_succ])
    rotate_left
    exact AllReadyH.nil
    exact AllReadyH.nil
    all_goals
      refine rcons 7 rfl (by kernel_rfl) (fun K hK => ?_)
      rw [if_pos]
      rotate_left
      focus kernel_rfl
      refine wp_pushL _ _ rfl (p + 1) (.slice av nv cv) L rfl (by exact ((HY5.out.drewN 1).alloc _).own) y5.heap.size 1 ⟨3, name.data.toList, (lookP T k).text, 0, 0⟩ rfl (by rw [HCEL.out]; exact heap_alloc_last y5.drew _) (by omega) (by show _ ≤ Array.size _; simp; omega) ?_
      intro v' y6 hown' hgrow hat
      obtain ⟨g6, cap6, hvg, -⟩ := hown'.form L.length (by simp)
      generalize (L ++ [(⟨3, name.data.toList, (lookP T k).text, 0, 0⟩ : Cel)]).length = n6 at hvg
      subst hvg
      obtain ⟨hst6, hy6⟩ := LV.grown ((HY5.out.drewN 1).alloc _) hown' hgrow hat rfl
      have HY6 := Lib.hid hy6
      obtain ⟨_, _, _, _, g4⟩ := hst6.cells
      have f6 := hst6.frozen 4
      clear hown' hgrow hat hst6 hy6
      (try dsimp only)
      refine hK.out _ _ trivial (fun _ => ?_)
      clear hK K
      (try simp only [Act.put, List.setIfInBounds_toArray, List.set_cons_zero, List.set_cons_succ])
      refine tky 8 (some 168) (v := ?_) rfl (by kernel_rfl) (by kernel_rfl) (by kernel_rfl) (fun _ _ _ h => h) ?_ hHeld ?_
      rotate_left
      focus (intro w hSw; go_simp; (try with_reducible rfl); done)
      simp only [Act.put, List.setIfInBounds_toArray, List.set_cons_zero, List.set_cons_succ]
      refine tky 9 (some 169) (v := ?_) rfl (by kernel_rfl) (by kernel_rfl) (by kernel_rfl) (fun _ _ _ h => h) ?_ hHeld ?_
      rotate_left
      focus (intro w hSw; go_simp; (try with_reducible rfl); done)
      simp only [Act.put, List.setIfInBounds_toArray, List.set_cons_zero, List.set_cons_succ]
      refine rcons 10 rfl (by kernel_rfl) (fun K hK => ?_)
      go_simp
      refine hK.out _ _ trivial (fun _ => ?_)
      clear hK K
      (try simp only [Act.put, List.setIfInBounds_toArray, List.set_cons_zero, List.set_cons_succ])
      refine wpAnyH_done (by kernel_rfl) ?_ _
      go_wp2_with fail
      go_end0
      exact ⟨rfl, by simp; omega, _, HY6.out⟩
end Go.Proofs.YtgaknbnhmoddcaaGreatDoor
namespace Go.Proofs.YtgaknbnhmoddcaaGreatDoor
open Go.RowKit Go.Lib
set_option maxRecDepth 100000 in
set_option maxHeartbeats 4000000 in
theorem l_value_bad {p tb off cap : Nat} {T : List Tok} {fx : Bool} {k : Nat} {op : Int} (v : Value) (L : List Cel) (name : ByteArray) (W : World) (h : LS p tb off cap T fx k op v W) (hown : OwnC (p + 1) v L W) (hL : L.length ≤ 2048) (hk : k ≤ 100000) (hb : begP fx T k = false) :
    Calls Tryz.prog 91 #[.pointer (some ⟨p, 0, none⟩), .string name] W (LVE p tb off cap T fx W v op (.error (180, k))) := by
  have HV0 : Hid (LV p tb off cap T fx W v v L k op W) := Lib.hid ⟨h, hown, VK.refl _ _ _, fun k hk => Or.inl hk⟩
  have HLK := Lib.hid (fun (W : World) (hW : LS p tb off cap T fx k op v W) => l_look W hW)
  have HIS := Lib.hid (fun (s : ByteArray) (W : World) (hW : LS p tb off cap T fx k op v W) => l_is s W hW)
  have HNO := Lib.hid (fun (e : Int) (W : World) (hW : LS p tb off cap T fx k op v W) => l_no e W hW)
  have hw1 : IntKind.i64.wrap ((k : Int) + 1) = (k : Int) + 1 := IntWalk.i64_in _ (by omega)
  have hvl : ∃ a n c, v = .slice a n c ∧ n = L.length := by
    rcases HV0.out.own.2 with ⟨h1, h2⟩ | ⟨g, cap, cur, h1, _⟩
    · exact ⟨none, 0, 0, h1, h2.symm⟩
    · exact ⟨_, _, _, h1, rfl⟩
  obtain ⟨av, nv, cv, rfl, hnv⟩ := hvl
  have HNV := Lib.hid hnv
  have hnv8 : nv ≤ 2048 := by omega
  clear h hown
  unfold begP opnP varP at hb
  simp only [Bool.or_eq_false_iff] at hb
  obtain ⟨⟨⟨⟨b1, b2⟩, b3⟩, ⟨m91, m123⟩⟩, m36⟩ := hb
  have nk : ∀ j : UInt8, ((lookP T k).kind == j) = false → ¬ ((lookP T k).kind.toNat : Int) = (j.toNat : Int) := fun j h e => by
    have : (lookP T k).kind = j := UInt8.toNat_inj.1 (by omega)
    rw [this] at h; simp at h
  have n1 : ¬ ((lookP T k).kind.toNat : Int) = 1 := nk 1 b1
  have n2 : ¬ ((lookP T k).kind.toNat : Int) = 2 := nk 2 b2
  have n3 : ¬ ((lookP T k).kind.toNat : Int) = 3 := nk 3 b3
  clear nk b1 b2 b3
  have H91 : Hid (∀ W', LS p tb off cap T fx k op (.slice av nv cv) W' → Calls Tryz.prog 82 #[.pointer (some ⟨p, 0, none⟩), .int .u8 4, .string ⟨#[91]⟩] W' fun x w' => x = .returned (.bool false) ∧ Below W'.heap.size W' w') := Lib.hid fun W' hW => by
    have := HIS.out ⟨#[91]⟩ W' hW
    rw [show (⟨#[91]⟩ : ByteArray).data.toList = [91] from rfl, m91] at this; exact this
  have H123 : Hid (∀ W', LS p tb off cap T fx k op (.slice av nv cv) W' → Calls Tryz.prog 82 #[.pointer (some ⟨p, 0, none⟩), .int .u8 4, .string ⟨#[123]⟩] W' fun x w' => x = .returned (.bool false) ∧ Below W'.heap.size W' w') := Lib.hid fun W' hW => by
    have := HIS.out ⟨#[123]⟩ W' hW
    rw [show (⟨#[123]⟩ : ByteArray).data.toList = [123] from rfl, m123] at this; exact this
  obtain ⟨kd, hkd⟩ : ∃ kd : Int, ((lookP T k).kind.toNat : Int) = kd := ⟨_, rfl⟩
  obtain ⟨tb0, htb0⟩ : ∃ b : ByteArray, (⟨(lookP T k).text.toArray⟩ : ByteArray) = b := ⟨_, rfl⟩
  obtain ⟨ps, hps⟩ : ∃ ps : Int, (lookP T k).pos = ps := ⟨_, rfl⟩
  have HTX : Hid (tb0.data.toList = (lookP T k).text) := Lib.hid (by rw [← htb0])
  have HTB := Lib.hid htb0
  unfold tokW at HLK
  rw [hkd, htb0, hps] at HLK
  rw [hkd] at n1 n2 n3
  have u1 : (kd != 1) = true := by rw [bne_iff_ne]; exact n1
  have u2 : (kd != 2) = true := by rw [bne_iff_ne]; exact n2
  have u3 : (kd != 3) = true := by rw [bne_iff_ne]; exact n3
  clear hkd htb0 hps hnv m91 m123
  cases fx
  case' true =>
    go_enter Tryz.func91, Tryz.ntmps91
    go_wp2_with fail
    refine (HLK.out _ HV0.out.st).mono ?_; rintro x w1 ⟨rfl, hb⟩
    have HV1 := Lib.hid ((HV0.out.below hb).alloc (.cells #[.int .u8 kd, .string tb0, .int .i64 ps] 72 (0, 0)))
    have HA1 : Hid ((w1.alloc (.cells #[.int .u8 kd, .string tb0, .int .i64 ps] 72 (0, 0))).heap[w1.heap.size]? = some (.cells #[.int .u8 kd, .string tb0, .int .i64 ps] 72 (0, 0))) := Lib.hid (heap_alloc_last _ _)
    obtain ⟨A, hA⟩ : ∃ A, w1.heap.size = A := ⟨_, rfl⟩
    rw [hA] at HA1
    have HAZ := Lib.hid hA
    clear hb
    go_wp2_with fail
    refine (H91.out _ HV1.out.st).mono ?_; rintro x w2 ⟨rfl, hb⟩
    have HV2 := Lib.hid (HV1.out.below hb)
    have HA2 := Lib.hid ((hb.block A (heap_lt HA1.out)).trans HA1.out)
    clear hb
    go_wp2_with fail
    refine (H123.out _ HV2.out.st).mono ?_; rintro x w4 ⟨rfl, hb⟩
    have HV4 := Lib.hid (HV2.out.below hb)
    have HA4 := Lib.hid ((hb.block A (heap_lt HA2.out)).trans HA2.out)
    clear hb
  case' false =>
    simp only [Bool.not_false, Bool.true_and] at m36
    have H36 : Hid (∀ W', LS p tb off cap T false k op (.slice av nv cv) W' → Calls Tryz.prog 82 #[.pointer (some ⟨p, 0, none⟩), .int .u8 4, .string ⟨#[36]⟩] W' fun x w' => x = .returned (.bool false) ∧ Below W'.heap.size W' w') := Lib.hid fun W' hW => by
        have := HIS.out ⟨#[36]⟩ W' hW
        rw [show (⟨#[36]⟩ : ByteArray).data.toList = [36] from rfl, m36] at this; exact this
    clear m36
    go_enter Tryz.func91, Tryz.ntmps91
    go_wp2_with fail
    refine (HLK.out _ HV0.out.st).mono ?_; rintro x w1 ⟨rfl, hb⟩
    have HV1 := Lib.hid ((HV0.out.below hb).alloc (.cells #[.int .u8 kd, .string tb0, .int .i64 ps] 72 (0, 0)))
    have HA1 : Hid ((w1.alloc (.cells #[.int .u8 kd, .string tb0, .int .i64 ps] 72 (0, 0))).heap[w1.heap.size]? = some (.cells #[.int .u8 kd, .string tb0, .int .i64 ps] 72 (0, 0))) := Lib.hid (heap_alloc_last _ _)
    obtain ⟨A, hA⟩ : ∃ A, w1.heap.size = A := ⟨_, rfl⟩
    rw [hA] at HA1
    have HAZ := Lib.hid hA
    clear hb
    go_wp2_with fail
    refine (H91.out _ HV1.out.st).mono ?_; rintro x w2 ⟨rfl, hb⟩
    have HV2 := Lib.hid (HV1.out.below hb)
    have HA2 := Lib.hid ((hb.block A (heap_lt HA1.out)).trans HA1.out)
    clear hb
    go_wp2_with fail
    refine (H123.out _ HV2.out.st).mono ?_; rintro x w3 ⟨rfl, hb⟩
    have HV3 := Lib.hid (HV2.out.below hb)
    have HA3 := Lib.hid ((hb.block A (heap_lt HA2.out)).trans HA2.out)
    clear hb
    obtain ⟨c0, c1, c2, c3, c4⟩ := HV3.out.st.cells
    go_wp2_with fail
    refine (H36.out _ HV3.out.st).mono ?_; rintro x w4 ⟨rfl, hb⟩
    have HV4 := Lib.hid (HV3.out.below hb)
    have HA4 := Lib.hid ((hb.block A (heap_lt HA3.out)).trans HA3.out)
    clear hb
    clear c0 c1 c2 c3 c4
  all_goals
    obtain ⟨c0, c1, c2, c3, c4⟩ := HV4.out.st.cells
    obtain ⟨a0, a1, a2⟩ := tcells HA4.out
    have hA4 : A < w4.heap.size := heap_lt HA4.out
    have hp4 : p < w4.heap.size := HV4.out.st.lt
    go_wp2_with fail
    have hpy : p ≤ w4.heap.size := Nat.le_of_lt hp4
    refine (HNO.out _ _ HV4.out.st).mono ?_; rintro x y4 ⟨rfl, hb⟩
    have HB9 := Lib.hid (HV4.out.vk.1.trans (hb.mono hpy))
    clear hb
    go_wp2_with fail
    exact ⟨rfl, rfl, HB9.out⟩
set_option maxRecDepth 100000 in
set_option maxHeartbeats 4000000 in
theorem l_value_full1 {p tb off cap : Nat} {T : List Tok} {fx : Bool} {k : Nat} {op : Int} (v : Value) (L : List Cel) (name : ByteArray) (W : World) (h : LS p tb off cap T fx k op v W) (hown : OwnC (p + 1) v L W) (hL : L.length ≤ 2048) (hk : k ≤ 100000) (hf : L.length = 2048) (hkk : (lookP T k).kind = 1) :
    Calls Tryz.prog 91 #[.pointer (some ⟨p, 0, none⟩), .string name] W (LVE p tb off cap T fx W v op (.error (4, k))) := by
  have HV0 : Hid (LV p tb off cap T fx W v v L k op W) := Lib.hid ⟨h, hown, VK.refl _ _ _, fun k hk => Or.inl hk⟩
  have HLK := Lib.hid (fun (W : World) (hW : LS p tb off cap T fx k op v W) => l_look W hW)
  have HIS := Lib.hid (fun (s : ByteArray) (W : World) (hW : LS p tb off cap T fx k op v W) => l_is s W hW)
  have HNO := Lib.hid (fun (e : Int) (W : World) (hW : LS p tb off cap T fx k op v W) => l_no e W hW)
  have hw1 : IntKind.i64.wrap ((k : Int) + 1) = (k : Int) + 1 := IntWalk.i64_in _ (by omega)
  have hvl : ∃ a n c, v = .slice a n c ∧ n = L.length := by
    rcases HV0.out.own.2 with ⟨h1, h2⟩ | ⟨g, cap, cur, h1, _⟩
    · exact ⟨none, 0, 0, h1, h2.symm⟩
    · exact ⟨_, _, _, h1, rfl⟩
  obtain ⟨av, nv, cv, rfl, hnv⟩ := hvl
  have HNV := Lib.hid hnv
  have hnv8 : nv ≤ 2048 := by omega
  clear h hown
  have tf : ((nv : Int) == 2048) = true := by rw [beq_iff_eq]; omega
  have hno := mrk_no (T := T) (k := k) (by rw [hkk]; decide)
  simp only [hno] at HIS
  obtain ⟨kd, hkd⟩ : ∃ kd : Int, ((lookP T k).kind.toNat : Int) = kd := ⟨_, rfl⟩
  obtain ⟨tb0, htb0⟩ : ∃ b : ByteArray, (⟨(lookP T k).text.toArray⟩ : ByteArray) = b := ⟨_, rfl⟩
  obtain ⟨ps, hps⟩ : ∃ ps : Int, (lookP T k).pos = ps := ⟨_, rfl⟩
  have HTX : Hid (tb0.data.toList = (lookP T k).text) := Lib.hid (by rw [← htb0])
  have HTB := Lib.hid htb0
  unfold tokW at HLK
  rw [hkd, htb0, hps] at HLK
  have hkd2 : kd = 1 := by rw [← hkd, hkk]; rfl
  subst hkd2
  clear hkd htb0 hps hkk hno hnv
  cases fx
  case' true =>
    go_enter Tryz.func91, Tryz.ntmps91
    go_wp2_with fail
    refine (HLK.out _ HV0.out.st).mono ?_; rintro x w1 ⟨rfl, hb⟩
    have HV1 := Lib.hid ((HV0.out.below hb).alloc (.cells #[.int .u8 1, .string tb0, .int .i64 ps] 72 (0, 0)))
    have HA1 : Hid ((w1.alloc (.cells #[.int .u8 1, .string tb0, .int .i64 ps] 72 (0, 0))).heap[w1.heap.size]? = some (.cells #[.int .u8 1, .string tb0, .int .i64 ps] 72 (0, 0))) := Lib.hid (heap_alloc_last _ _)
    obtain ⟨A, hA⟩ : ∃ A, w1.heap.size = A := ⟨_, rfl⟩
    rw [hA] at HA1
    have HAZ := Lib.hid hA
    clear hb
    go_wp2_with fail
    refine (HIS.out _ _ HV1.out.st).mono ?_; rintro x w2 ⟨rfl, hb⟩
    have HV2 := Lib.hid (HV1.out.below hb)
    have HA2 := Lib.hid ((hb.block A (heap_lt HA1.out)).trans HA1.out)
    clear hb
    go_wp2_with fail
    refine (HIS.out _ _ HV2.out.st).mono ?_; rintro x w4 ⟨rfl, hb⟩
    have HV4 := Lib.hid (HV2.out.below hb)
    have HA4 := Lib.hid ((hb.block A (heap_lt HA2.out)).trans HA2.out)
    clear hb
  case' false =>
    go_enter Tryz.func91, Tryz.ntmps91
    go_wp2_with fail
    refine (HLK.out _ HV0.out.st).mono ?_; rintro x w1 ⟨rfl, hb⟩
    have HV1 := Lib.hid ((HV0.out.below hb).alloc (.cells #[.int .u8 1, .string tb0, .int .i64 ps] 72 (0, 0)))
    have HA1 : Hid ((w1.alloc (.cells #[.int .u8 1, .string tb0, .int .i64 ps] 72 (0, 0))).heap[w1.heap.size]? = some (.cells #[.int .u8 1, .string tb0, .int .i64 ps] 72 (0, 0))) := Lib.hid (heap_alloc_last _ _)
    obtain ⟨A, hA⟩ : ∃ A, w1.heap.size = A := ⟨_, rfl⟩
    rw [hA] at HA1
    have HAZ := Lib.hid hA
    clear hb
    go_wp2_with fail
    refine (HIS.out _ _ HV1.out.st).mono ?_; rintro x w2 ⟨rfl, hb⟩
    have HV2 := Lib.hid (HV1.out.below hb)
    have HA2 := Lib.hid ((hb.block A (heap_lt HA1.out)).trans HA1.out)
    clear hb
    go_wp2_with fail
    refine (HIS.out _ _ HV2.out.st).mono ?_; rintro x w3 ⟨rfl, hb⟩
    have HV3 := Lib.hid (HV2.out.below hb)
    have HA3 := Lib.hid ((hb.block A (heap_lt HA2.out)).trans HA2.out)
    clear hb
    obtain ⟨c0, c1, c2, c3, c4⟩ := HV3.out.st.cells
    go_wp2_with fail
    refine (HIS.out _ _ HV3.out.st).mono ?_; rintro x w4 ⟨rfl, hb⟩
    have HV4 := Lib.hid (HV3.out.below hb)
    have HA4 := Lib.hid ((hb.block A (heap_lt HA3.out)).trans HA3.out)
    clear hb
    clear c0 c1 c2 c3 c4
  all_goals
    obtain ⟨c0, c1, c2, c3, c4⟩ := HV4.out.st.cells
    obtain ⟨a0, a1, a2⟩ := tcells HA4.out
    have hA4 : A < w4.heap.size := heap_lt HA4.out
    have hp4 : p < w4.heap.size := HV4.out.st.lt
    go_wp2_with fail
    have hpy : p ≤ w4.heap.size := Nat.le_of_lt hp4
    refine (HNO.out _ _ HV4.out.st).mono ?_; rintro x y4 ⟨rfl, hb⟩
    have HB9 := Lib.hid (HV4.out.vk.1.trans (hb.mono hpy))
    clear hb
    go_wp2_with fail
    exact ⟨rfl, rfl, HB9.out⟩
set_option maxRecDepth 100000 in
set_option maxHeartbeats 4000000 in
theorem l_value_full2 {p tb off cap : Nat} {T : List Tok} {fx : Bool} {k : Nat} {op : Int} (v : Value) (L : List Cel) (name : ByteArray) (W : World) (h : LS p tb off cap T fx k op v W) (hown : OwnC (p + 1) v L W) (hL : L.length ≤ 2048) (hk : k ≤ 100000) (hf : L.length = 2048) (hkk : (lookP T k).kind = 2) :
    Calls Tryz.prog 91 #[.pointer (some ⟨p, 0, none⟩), .string name] W (LVE p tb off cap T fx W v op (.error (4, k))) := by
  have HV0 : Hid (LV p tb off cap T fx W v v L k op W) := Lib.hid ⟨h, hown, VK.refl _ _ _, fun k hk => Or.inl hk⟩
  have HLK := Lib.hid (fun (W : World) (hW : LS p tb off cap T fx k op v W) => l_look W hW)
  have HIS := Lib.hid (fun (s : ByteArray) (W : World) (hW : LS p tb off cap T fx k op v W) => l_is s W hW)
  have HNO := Lib.hid (fun (e : Int) (W : World) (hW : LS p tb off cap T fx k op v W) => l_no e W hW)
  have hw1 : IntKind.i64.wrap ((k : Int) + 1) = (k : Int) + 1 := IntWalk.i64_in _ (by omega)
  have hvl : ∃ a n c, v = .slice a n c ∧ n = L.length := by
    rcases HV0.out.own.2 with ⟨h1, h2⟩ | ⟨g, cap, cur, h1, _⟩
    · exact ⟨none, 0, 0, h1, h2.symm⟩
    · exact ⟨_, _, _, h1, rfl⟩
  obtain ⟨av, nv, cv, rfl, hnv⟩ := hvl
  have HNV := Lib.hid hnv
  have hnv8 : nv ≤ 2048 := by omega
  clear h hown
  have tf : ((nv : Int) == 2048) = true := by rw [beq_iff_eq]; omega
  have hno := mrk_no (T := T) (k := k) (by rw [hkk]; decide)
  simp only [hno] at HIS
  obtain ⟨kd, hkd⟩ : ∃ kd : Int, ((lookP T k).kind.toNat : Int) = kd := ⟨_, rfl⟩
  obtain ⟨tb0, htb0⟩ : ∃ b : ByteArray, (⟨(lookP T k).text.toArray⟩ : ByteArray) = b := ⟨_, rfl⟩
  obtain ⟨ps, hps⟩ : ∃ ps : Int, (lookP T k).pos = ps := ⟨_, rfl⟩
  have HTX : Hid (tb0.data.toList = (lookP T k).text) := Lib.hid (by rw [← htb0])
  have HTB := Lib.hid htb0
  unfold tokW at HLK
  rw [hkd, htb0, hps] at HLK
  have hkd2 : kd = 2 := by rw [← hkd, hkk]; rfl
  subst hkd2
  clear hkd htb0 hps hkk hno hnv
  cases fx
  case' true =>
    go_enter Tryz.func91, Tryz.ntmps91
    go_wp2_with fail
    refine (HLK.out _ HV0.out.st).mono ?_; rintro x w1 ⟨rfl, hb⟩
    have HV1 := Lib.hid ((HV0.out.below hb).alloc (.cells #[.int .u8 2, .string tb0, .int .i64 ps] 72 (0, 0)))
    have HA1 : Hid ((w1.alloc (.cells #[.int .u8 2, .string tb0, .int .i64 ps] 72 (0, 0))).heap[w1.heap.size]? = some (.cells #[.int .u8 2, .string tb0, .int .i64 ps] 72 (0, 0))) := Lib.hid (heap_alloc_last _ _)
    obtain ⟨A, hA⟩ : ∃ A, w1.heap.size = A := ⟨_, rfl⟩
    rw [hA] at HA1
    have HAZ := Lib.hid hA
    clear hb
    go_wp2_with fail
    refine (HIS.out _ _ HV1.out.st).mono ?_; rintro x w2 ⟨rfl, hb⟩
    have HV2 := Lib.hid (HV1.out.below hb)
    have HA2 := Lib.hid ((hb.block A (heap_lt HA1.out)).trans HA1.out)
    clear hb
    go_wp2_with fail
    refine (HIS.out _ _ HV2.out.st).mono ?_; rintro x w4 ⟨rfl, hb⟩
    have HV4 := Lib.hid (HV2.out.below hb)
    have HA4 := Lib.hid ((hb.block A (heap_lt HA2.out)).trans HA2.out)
    clear hb
  case' false =>
    go_enter Tryz.func91, Tryz.ntmps91
    go_wp2_with fail
    refine (HLK.out _ HV0.out.st).mono ?_; rintro x w1 ⟨rfl, hb⟩
    have HV1 := Lib.hid ((HV0.out.below hb).alloc (.cells #[.int .u8 2, .string tb0, .int .i64 ps] 72 (0, 0)))
    have HA1 : Hid ((w1.alloc (.cells #[.int .u8 2, .string tb0, .int .i64 ps] 72 (0, 0))).heap[w1.heap.size]? = some (.cells #[.int .u8 2, .string tb0, .int .i64 ps] 72 (0, 0))) := Lib.hid (heap_alloc_last _ _)
    obtain ⟨A, hA⟩ : ∃ A, w1.heap.size = A := ⟨_, rfl⟩
    rw [hA] at HA1
    have HAZ := Lib.hid hA
    clear hb
    go_wp2_with fail
    refine (HIS.out _ _ HV1.out.st).mono ?_; rintro x w2 ⟨rfl, hb⟩
    have HV2 := Lib.hid (HV1.out.below hb)
    have HA2 := Lib.hid ((hb.block A (heap_lt HA1.out)).trans HA1.out)
    clear hb
    go_wp2_with fail
    refine (HIS.out _ _ HV2.out.st).mono ?_; rintro x w3 ⟨rfl, hb⟩
    have HV3 := Lib.hid (HV2.out.below hb)
    have HA3 := Lib.hid ((hb.block A (heap_lt HA2.out)).trans HA2.out)
    clear hb
    obtain ⟨c0, c1, c2, c3, c4⟩ := HV3.out.st.cells
    go_wp2_with fail
    refine (HIS.out _ _ HV3.out.st).mono ?_; rintro x w4 ⟨rfl, hb⟩
    have HV4 := Lib.hid (HV3.out.below hb)
    have HA4 := Lib.hid ((hb.block A (heap_lt HA3.out)).trans HA3.out)
    clear hb
    clear c0 c1 c2 c3 c4
  all_goals
    obtain ⟨c0, c1, c2, c3, c4⟩ := HV4.out.st.cells
    obtain ⟨a0, a1, a2⟩ := tcells HA4.out
    have hA4 : A < w4.heap.size := heap_lt HA4.out
    have hp4 : p < w4.heap.size := HV4.out.st.lt
    go_wp2_with fail
    have hpy : p ≤ w4.heap.size := Nat.le_of_lt hp4
    refine (HNO.out _ _ HV4.out.st).mono ?_; rintro x y4 ⟨rfl, hb⟩
    have HB9 := Lib.hid (HV4.out.vk.1.trans (hb.mono hpy))
    clear hb
    go_wp2_with fail
    exact ⟨rfl, rfl, HB9.out⟩
set_option maxRecDepth 100000 in
set_option maxHeartbeats 4000000 in
theorem l_value_full3 {p tb off cap : Nat} {T : List Tok} {fx : Bool} {k : Nat} {op : Int} (v : Value) (L : List Cel) (name : ByteArray) (W : World) (h : LS p tb off cap T fx k op v W) (hown : OwnC (p + 1) v L W) (hL : L.length ≤ 2048) (hk : k ≤ 100000) (hf : L.length = 2048) (hkk : (lookP T k).kind = 3) :
    Calls Tryz.prog 91 #[.pointer (some ⟨p, 0, none⟩), .string name] W (LVE p tb off cap T fx W v op (.error (4, k))) := by
  have HV0 : Hid (LV p tb off cap T fx W v v L k op W) := Lib.hid ⟨h, hown, VK.refl _ _ _, fun k hk => Or.inl hk⟩
  have HLK := Lib.hid (fun (W : World) (hW : LS p tb off cap T fx k op v W) => l_look W hW)
  have HIS := Lib.hid (fun (s : ByteArray) (W : World) (hW : LS p tb off cap T fx k op v W) => l_is s W hW)
  have HNO := Lib.hid (fun (e : Int) (W : World) (hW : LS p tb off cap T fx k op v W) => l_no e W hW)
  have hw1 : IntKind.i64.wrap ((k : Int) + 1) = (k : Int) + 1 := IntWalk.i64_in _ (by omega)
  have hvl : ∃ a n c, v = .slice a n c ∧ n = L.length := by
    rcases HV0.out.own.2 with ⟨h1, h2⟩ | ⟨g, cap, cur, h1, _⟩
    · exact ⟨none, 0, 0, h1, h2.symm⟩
    · exact ⟨_, _, _, h1, rfl⟩
  obtain ⟨av, nv, cv, rfl, hnv⟩ := hvl
  have HNV := Lib.hid hnv
  have hnv8 : nv ≤ 2048 := by omega
  clear h hown
  have tf : ((nv : Int) == 2048) = true := by rw [beq_iff_eq]; omega
  have hno := mrk_no (T := T) (k := k) (by rw [hkk]; decide)
  simp only [hno] at HIS
  obtain ⟨kd, hkd⟩ : ∃ kd : Int, ((lookP T k).kind.toNat : Int) = kd := ⟨_, rfl⟩
  obtain ⟨tb0, htb0⟩ : ∃ b : ByteArray, (⟨(lookP T k).text.toArray⟩ : ByteArray) = b := ⟨_, rfl⟩
  obtain ⟨ps, hps⟩ : ∃ ps : Int, (lookP T k).pos = ps := ⟨_, rfl⟩
  have HTX : Hid (tb0.data.toList = (lookP T k).text) := Lib.hid (by rw [← htb0])
  have HTB := Lib.hid htb0
  unfold tokW at HLK
  rw [hkd, htb0, hps] at HLK
  have hkd2 : kd = 3 := by rw [← hkd, hkk]; rfl
  subst hkd2
  clear hkd htb0 hps hkk hno hnv
  cases fx
  case' true =>
    go_enter Tryz.func91, Tryz.ntmps91
    go_wp2_with fail
    refine (HLK.out _ HV0.out.st).mono ?_; rintro x w1 ⟨rfl, hb⟩
    have HV1 := Lib.hid ((HV0.out.below hb).alloc (.cells #[.int .u8 3, .string tb0, .int .i64 ps] 72 (0, 0)))
    have HA1 : Hid ((w1.alloc (.cells #[.int .u8 3, .string tb0, .int .i64 ps] 72 (0, 0))).heap[w1.heap.size]? = some (.cells #[.int .u8 3, .string tb0, .int .i64 ps] 72 (0, 0))) := Lib.hid (heap_alloc_last _ _)
    obtain ⟨A, hA⟩ : ∃ A, w1.heap.size = A := ⟨_, rfl⟩
    rw [hA] at HA1
    have HAZ := Lib.hid hA
    clear hb
    go_wp2_with fail
    refine (HIS.out _ _ HV1.out.st).mono ?_; rintro x w2 ⟨rfl, hb⟩
    have HV2 := Lib.hid (HV1.out.below hb)
    have HA2 := Lib.hid ((hb.block A (heap_lt HA1.out)).trans HA1.out)
    clear hb
    go_wp2_with fail
    refine (HIS.out _ _ HV2.out.st).mono ?_; rintro x w4 ⟨rfl, hb⟩
    have HV4 := Lib.hid (HV2.out.below hb)
    have HA4 := Lib.hid ((hb.block A (heap_lt HA2.out)).trans HA2.out)
    clear hb
  case' false =>
    go_enter Tryz.func91, Tryz.ntmps91
    go_wp2_with fail
    refine (HLK.out _ HV0.out.st).mono ?_; rintro x w1 ⟨rfl, hb⟩
    have HV1 := Lib.hid ((HV0.out.below hb).alloc (.cells #[.int .u8 3, .string tb0, .int .i64 ps] 72 (0, 0)))
    have HA1 : Hid ((w1.alloc (.cells #[.int .u8 3, .string tb0, .int .i64 ps] 72 (0, 0))).heap[w1.heap.size]? = some (.cells #[.int .u8 3, .string tb0, .int .i64 ps] 72 (0, 0))) := Lib.hid (heap_alloc_last _ _)
    obtain ⟨A, hA⟩ : ∃ A, w1.heap.size = A := ⟨_, rfl⟩
    rw [hA] at HA1
    have HAZ := Lib.hid hA
    clear hb
    go_wp2_with fail
    refine (HIS.out _ _ HV1.out.st).mono ?_; rintro x w2 ⟨rfl, hb⟩
    have HV2 := Lib.hid (HV1.out.below hb)
    have HA2 := Lib.hid ((hb.block A (heap_lt HA1.out)).trans HA1.out)
    clear hb
    go_wp2_with fail
    refine (HIS.out _ _ HV2.out.st).mono ?_; rintro x w3 ⟨rfl, hb⟩
    have HV3 := Lib.hid (HV2.out.below hb)
    have HA3 := Lib.hid ((hb.block A (heap_lt HA2.out)).trans HA2.out)
    clear hb
    obtain ⟨c0, c1, c2, c3, c4⟩ := HV3.out.st.cells
    go_wp2_with fail
    refine (HIS.out _ _ HV3.out.st).mono ?_; rintro x w4 ⟨rfl, hb⟩
    have HV4 := Lib.hid (HV3.out.below hb)
    have HA4 := Lib.hid ((hb.block A (heap_lt HA3.out)).trans HA3.out)
    clear hb
    clear c0 c1 c2 c3 c4
  all_goals
    obtain ⟨c0, c1, c2, c3, c4⟩ := HV4.out.st.cells
    obtain ⟨a0, a1, a2⟩ := tcells HA4.out
    have hA4 : A < w4.heap.size := heap_lt HA4.out
    have hp4 : p < w4.heap.size := HV4.out.st.lt
    go_wp2_with fail
    have hpy : p ≤ w4.heap.size := Nat.le_of_lt hp4
    refine (HNO.out _ _ HV4.out.st).mono ?_; rintro x y4 ⟨rfl, hb⟩
    have HB9 := Lib.hid (HV4.out.vk.1.trans (hb.mono hpy))
    clear hb
    go_wp2_with fail
    exact ⟨rfl, rfl, HB9.out⟩
end Go.Proofs.YtgaknbnhmoddcaaGreatDoor
namespace Go.Proofs.YtgaknbnhmoddcaaGreatDoor
open Go.RowKit Go.Lib
set_option maxRecDepth 100000 in
set_option maxHeartbeats 4000000 in
theorem l_value_enum {p tb off cap : Nat} {T : List Tok} {fx : Bool} {k : Nat} {op : Int} (v : Value) (L : List Cel) (name : ByteArray) (W : World) (h : LS p tb off cap T fx k op v W) (hown : OwnC (p + 1) v L W) (hL : L.length ≤ 2048) (hk : k ≤ 100000) (hf : L.length ≠ 2048) (hkk : (lookP T k).kind = 1) (h110 : (lookP T k).text ≠ [110, 117, 108, 108]) (h116 : (lookP T k).text ≠ [116, 114, 117, 101]) (h102 : (lookP T k).text ≠ [102, 97, 108, 115, 101]) :
    Calls Tryz.prog 91 #[.pointer (some ⟨p, 0, none⟩), .string name] W (LVE p tb off cap T fx W v op (.ok (k + 1, L ++ [⟨4, name.data.toList, (lookP T k).text, 0, 0⟩]))) := by
  have HV0 : Hid (LV p tb off cap T fx W v v L k op W) := Lib.hid ⟨h, hown, VK.refl _ _ _, fun k hk => Or.inl hk⟩
  have HLK := Lib.hid (fun (W : World) (hW : LS p tb off cap T fx k op v W) => l_look W hW)
  have HIS := Lib.hid (fun (s : ByteArray) (W : World) (hW : LS p tb off cap T fx k op v W) => l_is s W hW)
  have HNO := Lib.hid (fun (e : Int) (W : World) (hW : LS p tb off cap T fx k op v W) => l_no e W hW)
  have hw1 : IntKind.i64.wrap ((k : Int) + 1) = (k : Int) + 1 := IntWalk.i64_in _ (by omega)
  have hvl : ∃ a n c, v = .slice a n c ∧ n = L.length := by
    rcases HV0.out.own.2 with ⟨h1, h2⟩ | ⟨g, cap, cur, h1, _⟩
    · exact ⟨none, 0, 0, h1, h2.symm⟩
    · exact ⟨_, _, _, h1, rfl⟩
  obtain ⟨av, nv, cv, rfl, hnv⟩ := hvl
  have HNV := Lib.hid hnv
  have hnv8 : nv ≤ 2048 := by omega
  clear h hown
  have hL2 : nv ≤ 2047 := by omega
  have tf : ((nv : Int) == 2048) = false := by rw [beq_eq_false_iff_ne]; omega
  have hno := mrk_no (T := T) (k := k) (by rw [hkk]; decide)
  simp only [hno] at HIS
  obtain ⟨kd, hkd⟩ : ∃ kd : Int, ((lookP T k).kind.toNat : Int) = kd := ⟨_, rfl⟩
  obtain ⟨tb0, htb0⟩ : ∃ b : ByteArray, (⟨(lookP T k).text.toArray⟩ : ByteArray) = b := ⟨_, rfl⟩
  obtain ⟨ps, hps⟩ : ∃ ps : Int, (lookP T k).pos = ps := ⟨_, rfl⟩
  have HTX : Hid (tb0.data.toList = (lookP T k).text) := Lib.hid (by rw [← htb0])
  have HTB := Lib.hid htb0
  unfold tokW at HLK
  rw [hkd, htb0, hps] at HLK
  have hkd2 : kd = 1 := by rw [← hkd, hkk]; rfl
  subst hkd2
  clear hkd htb0 hps hkk hno hnv
  have t110 : (tb0.toList == [110, 117, 108, 108]) = false := by rw [ByteArray.toList_eq, HTX.out]; simp [h110]
  have t116 : (tb0.toList == [116, 114, 117, 101]) = false := by rw [ByteArray.toList_eq, HTX.out]; simp [h116]
  have t102 : (tb0.toList == [102, 97, 108, 115, 101]) = false := by rw [ByteArray.toList_eq, HTX.out]; simp [h102]
  clear h110 h116 h102
  cases fx
  case' true =>
    go_enter Tryz.func91, Tryz.ntmps91
    go_wp2_with fail
    refine (HLK.out _ HV0.out.st).mono ?_; rintro x w1 ⟨rfl, hb⟩
    have HV1 := Lib.hid ((HV0.out.below hb).alloc (.cells #[.int .u8 1, .string tb0, .int .i64 ps] 72 (0, 0)))
    have HA1 : Hid ((w1.alloc (.cells #[.int .u8 1, .string tb0, .int .i64 ps] 72 (0, 0))).heap[w1.heap.size]? = some (.cells #[.int .u8 1, .string tb0, .int .i64 ps] 72 (0, 0))) := Lib.hid (heap_alloc_last _ _)
    obtain ⟨A, hA⟩ : ∃ A, w1.heap.size = A := ⟨_, rfl⟩
    rw [hA] at HA1
    have HAZ := Lib.hid hA
    clear hb
    go_wp2_with fail
    refine (HIS.out _ _ HV1.out.st).mono ?_; rintro x w2 ⟨rfl, hb⟩
    have HV2 := Lib.hid (HV1.out.below hb)
    have HA2 := Lib.hid ((hb.block A (heap_lt HA1.out)).trans HA1.out)
    clear hb
    go_wp2_with fail
    refine (HIS.out _ _ HV2.out.st).mono ?_; rintro x w4 ⟨rfl, hb⟩
    have HV4 := Lib.hid (HV2.out.below hb)
    have HA4 := Lib.hid ((hb.block A (heap_lt HA2.out)).trans HA2.out)
    clear hb
  case' false =>
    go_enter Tryz.func91, Tryz.ntmps91
    go_wp2_with fail
    refine (HLK.out _ HV0.out.st).mono ?_; rintro x w1 ⟨rfl, hb⟩
    have HV1 := Lib.hid ((HV0.out.below hb).alloc (.cells #[.int .u8 1, .string tb0, .int .i64 ps] 72 (0, 0)))
    have HA1 : Hid ((w1.alloc (.cells #[.int .u8 1, .string tb0, .int .i64 ps] 72 (0, 0))).heap[w1.heap.size]? = some (.cells #[.int .u8 1, .string tb0, .int .i64 ps] 72 (0, 0))) := Lib.hid (heap_alloc_last _ _)
    obtain ⟨A, hA⟩ : ∃ A, w1.heap.size = A := ⟨_, rfl⟩
    rw [hA] at HA1
    have HAZ := Lib.hid hA
    clear hb
    go_wp2_with fail
    refine (HIS.out _ _ HV1.out.st).mono ?_; rintro x w2 ⟨rfl, hb⟩
    have HV2 := Lib.hid (HV1.out.below hb)
    have HA2 := Lib.hid ((hb.block A (heap_lt HA1.out)).trans HA1.out)
    clear hb
    go_wp2_with fail
    refine (HIS.out _ _ HV2.out.st).mono ?_; rintro x w3 ⟨rfl, hb⟩
    have HV3 := Lib.hid (HV2.out.below hb)
    have HA3 := Lib.hid ((hb.block A (heap_lt HA2.out)).trans HA2.out)
    clear hb
    obtain ⟨c0, c1, c2, c3, c4⟩ := HV3.out.st.cells
    go_wp2_with fail
    refine (HIS.out _ _ HV3.out.st).mono ?_; rintro x w4 ⟨rfl, hb⟩
    have HV4 := Lib.hid (HV3.out.below hb)
    have HA4 := Lib.hid ((hb.block A (heap_lt HA3.out)).trans HA3.out)
    clear hb
    clear c0 c1 c2 c3 c4
  all_goals
    obtain ⟨c0, c1, c2, c3, c4⟩ := HV4.out.st.cells
    obtain ⟨a0, a1, a2⟩ := tcells HA4.out
    have hA4 : A < w4.heap.size := heap_lt HA4.out
    have hp4 : p < w4.heap.size := HV4.out.st.lt
    go_wp2_with fail
    clear c3 c4
    go_region
    obtain ⟨C, hC⟩ : ∃ C, w4.heap.size = C := ⟨_, rfl⟩
    have HV4a := Lib.hid ((HV4.out.alloc (.cells #[.int .u8 4, .string name, .string tb0, .int .i64 0, .int .i64 0] 63 (0, 0))).drewN 1)
    have HC4 : Hid ((w4.alloc (.cells #[.int .u8 4, .string name, .string tb0, .int .i64 0, .int .i64 0] 63 (0, 0))).drew.heap[C]? = some (.cells #[.int .u8 4, .string name, .string tb0, .int .i64 0, .int .i64 0] 63 (0, 0))) := Lib.hid (by rw [← hC]; exact heap_alloc_last _ _)
    rw [hC]
    obtain ⟨y4, hy4⟩ : ∃ y4, (w4.alloc (.cells #[.int .u8 4, .string name, .string tb0, .int .i64 0, .int .i64 0] 63 (0, 0))).drew = y4 := ⟨_, rfl⟩
    have hpC : p < C := by rw [← hC]; exact hp4
    rw [show (w4.alloc (.cells #[.int .u8 4, .string name, .string tb0, .int .i64 0, .int .i64 0] 63 (0, 0))).drewN 1 = y4 from hy4] at HV4a
    rw [hy4] at HC4 ⊢
    clear hy4 c0 c1 c2 a0 a1 a2 hA4 hp4 hC
    obtain ⟨c0, c1, c2, c3, c4⟩ := HV4a.out.st.cells
    have f1 := HV4a.out.st.frozen 1
    obtain ⟨y5, hy5⟩ : ∃ y5, y4.setCell ⟨p, 1, none⟩ (.int .i64 ((k : Int) + 1)) = y5 := ⟨_, rfl⟩
    have HY5 := Lib.hid (HV4a.out.go (k + 1) (by omega))
    have HC5 : Hid (y5.heap[C]? = some (.cells #[.int .u8 4, .string name, .string tb0, .int .i64 0, .int .i64 0] 63 (0, 0))) := Lib.hid (by rw [← hy5, Below.heap_setCell _ _ _ _ (by show C ≠ p; omega)]; exact HC4.out)
    rw [show y4.setCell ⟨p, 1, none⟩ (.int .i64 ((k + 1 : Nat) : Int)) = y5 from hy5] at HY5
    have HW5 := Lib.hid hy5
    clear hy5
    go_wp2_with fail
    try rw [HW5.out]
    clear c0 c1 c2 c3 c4 f1
    have hlt5 := HY5.out.st.lt
    have hC5 := heap_lt HC5.out
    obtain ⟨_, _, _, _, c4⟩ := HY5.out.st.cells
    have e4 : y5.drew.cell? ⟨p, 4, none⟩ = some (.slice av nv cv) := c4
    have e4' : ∀ o, (y5.drew.alloc o).cell? ⟨p, 4, none⟩ = some (.slice av nv cv) := fun o => by
      rw [World.cell?_alloc_lt _ _ _ (by exact hlt5)]; exact c4
    obtain ⟨q0, q1, q2, q3, q4⟩ := ccells (W := y5.drew) HC5.out
    have HCEL : Hid (celCells ⟨4, name.data.toList, (lookP T k).text, 0, 0⟩ = #[.int .u8 4, .string name, .string tb0, .int .i64 0, .int .i64 0]) := Lib.hid (by rw [← HTB.out]; rfl)
    refine wp_region_held_drew (S := fun _ => True) (by kernel_rfl) trivial (fun hHeld => ?_)
    refine tky 0 (some 160) (v := ?_) rfl (by kernel_rfl) (by kernel_rfl) (by kernel_rfl) (fun _ _ _ h => h) ?_ hHeld ?_
    rotate_left
    focus (intro w hSw; go_simp; (try with_reducible rfl); done)
    simp only [Act.put, List.setIfInBounds_toArray, List.set_cons_zero, List.set_cons_succ]
    refine tky 1 (some 161) (v := ?_) rfl (by kernel_rfl) (by kernel_rfl) (by kernel_rfl) (fun _ _ _ h => h) ?_ hHeld ?_
    rotate_left
    focus (intro w hSw; go_simp; (try with_reducible rfl); done)
    simp only [Act.put, List.setIfInBounds_toArray, List.set_cons_zero, List.set_cons_succ]
    refine tky 2 (some 162) (v := ?_) rfl (by kernel_rfl) (by kernel_rfl) (by kernel_rfl) (fun _ _ _ h => h) ?_ hHeld ?_
    rotate_left
    focus (intro w hSw; go_simp; (try with_reducible rfl); done)
    simp only [Act.put, List.setIfInBounds_toArray, List.set_cons_zero, List.set_cons_succ]
    refine tky 3 (some 163) (v := ?_) rfl (by kernel_rfl) (by kernel_rfl) (by kernel_rfl) (fun _ _ _ h => h) ?_ hHeld ?_
    rotate_left
    focus (intro w hSw; go_simp; (try with_reducible rfl); done)
    simp only [Act.put, List.setIfInBounds_toArray, List.set_cons_zero, List.set_cons_succ]
    refine wpAnyH_ready (rs := [4, 5]) (by kernel_rfl) (by simp) ?_
    refine acons 4 rfl (fun K hK => ?_) ?_
    go_simp
    refine hK.out _ _ trivial (fun _ => ?_)
    clear hK K
    (try simp only [Act.put, List.setIfInBounds_toArray, List.set_cons_zero, List.set_cons_succ])
    refine rcons 5 rfl (by kernel_rfl) (fun K hK => ?_)
    go_simp
    refine hK.out _ _ trivial (fun _ => ?_)
    clear hK K
    (try simp only [Act.put, List.setIfInBounds_toArray, List.set_cons_zero, List.set_cons_succ])
    refine rcons 6 rfl (by kernel_rfl) (fun K hK => ?_)
    go_simp
    refine hK.out _ _ trivial (fun _ => ?_)
    clear hK K
    (try simp only [Act.put, List.setIfInBounds_toArray, List.set_cons_zero, List.set_cons_succ])
    rotate_left
    refine acons 5 rfl (fun K hK => ?_) ?_
    go_simp
    refine hK.out _ _ trivial (fun _ => ?_)
    clear hK K
    (try simp only [Act.put, List.setIfInBounds_toArray, List.set_cons_zero, List.set_cons_succ])
    refine wpAnyH_ready (rs := [4, 6]) (by kernel_rfl) (by simp) ?_
    refine acons 4 rfl (fun K hK => ?_) ?_
    go_simp
    refine hK.out _ _ trivial (fun _ => ?_)
    clear hK K
    (try simp only [Act.put, List.setIfInBounds_toArray, List.set_cons_zero, List.set_cons_succ])
    refine rcons 6 rfl (by kernel_rfl) (fun K hK => ?_)
    go_simp
    refine hK.out _ _ trivial (fun _ => ?_)
    clear hK K
    (try simp only [Act.put, List.setIfInBounds_toArray, List.set_cons_zero, List.set_cons_succ])
    rotate_left
    refine acons 6 rfl (fun K hK => ?_) ?_
    go_simp
    refine hK.out _ _ trivial (fun _ => ?_)
    clear hK K
    (try simp only [Act.put, List.setIfInBounds_toArray, List.set_cons_zero, List.set_cons_succ])
    refine rcons 4 rfl (by kernel_rfl) (fun K hK => ?_)
    go_simp
    refine hK.out _ _ trivial (fun _ => ?_)
    clear hK K
    (try simp only [Act.put, List.setIfInBounds_toArray, List.set_cons_zero, List.set_cons_succ])
    rotate_left
    exact AllReadyH.nil
    exact AllReadyH.nil
    all_goals
      refine rcons 7 rfl (by kernel_rfl) (fun K hK => ?_)
      rw [if_pos]
      rotate_left
      focus kernel_rfl
      refine wp_pushL _ _ rfl (p + 1) (.slice av nv cv) L rfl (by exact ((HY5.out.drewN 1).alloc _).own) y5.heap.size 1 ⟨4, name.data.toList, (lookP T k).text, 0, 0⟩ rfl (by rw [HCEL.out]; exact heap_alloc_last y5.drew _) (by omega) (by show _ ≤ Array.size _; simp; omega) ?_
      intro v' y6 hown' hgrow hat
      obtain ⟨g6, cap6, hvg, -⟩ := hown'.form L.length (by simp)
      generalize (L ++ [(⟨4, name.data.toList, (lookP T k).text, 0, 0⟩ : Cel)]).length = n6 at hvg
      subst hvg
      obtain ⟨hst6, hy6⟩ := LV.grown ((HY5.out.drewN 1).alloc _) hown' hgrow hat rfl
      have HY6 := Lib.hid hy6
      obtain ⟨_, _, _, _, g4⟩ := hst6.cells
      have f6 := hst6.frozen 4
      clear hown' hgrow hat hst6 hy6
      (try dsimp only)
      refine hK.out _ _ trivial (fun _ => ?_)
      clear hK K
      (try simp only [Act.put, List.setIfInBounds_toArray, List.set_cons_zero, List.set_cons_succ])
      refine tky 8 (some 168) (v := ?_) rfl (by kernel_rfl) (by kernel_rfl) (by kernel_rfl) (fun _ _ _ h => h) ?_ hHeld ?_
      rotate_left
      focus (intro w hSw; go_simp; (try with_reducible rfl); done)
      simp only [Act.put, List.setIfInBounds_toArray, List.set_cons_zero, List.set_cons_succ]
      refine tky 9 (some 169) (v := ?_) rfl (by kernel_rfl) (by kernel_rfl) (by kernel_rfl) (fun _ _ _ h => h) ?_ hHeld ?_
      rotate_left
      focus (intro w hSw; go_simp; (try with_reducible rfl); done)
      simp only [Act.put, List.setIfInBounds_toArray, List.set_cons_zero, List.set_cons_succ]
      refine rcons 10 rfl (by kernel_rfl) (fun K hK => ?_)
      go_simp
      refine hK.out _ _ trivial (fun _ => ?_)
      clear hK K
      (try simp only [Act.put, List.setIfInBounds_toArray, List.set_cons_zero, List.set_cons_succ])
      refine wpAnyH_done (by kernel_rfl) ?_ _
      go_wp2_with fail
      go_end0
      exact ⟨rfl, by simp; omega, _, HY6.out⟩
end Go.Proofs.YtgaknbnhmoddcaaGreatDoor
namespace Go.Proofs.YtgaknbnhmoddcaaGreatDoor
open Go.RowKit Go.Lib
set_option maxRecDepth 100000 in
set_option maxHeartbeats 4000000 in
theorem l_value_null {p tb off cap : Nat} {T : List Tok} {fx : Bool} {k : Nat} {op : Int} (v : Value) (L : List Cel) (name : ByteArray) (W : World) (h : LS p tb off cap T fx k op v W) (hown : OwnC (p + 1) v L W) (hL : L.length ≤ 2048) (hk : k ≤ 100000) (hf : L.length ≠ 2048) (hkk : (lookP T k).kind = 1) (hx : (lookP T k).text = [110, 117, 108, 108]) :
    Calls Tryz.prog 91 #[.pointer (some ⟨p, 0, none⟩), .string name] W (LVE p tb off cap T fx W v op (.ok (k + 1, L ++ [⟨0, name.data.toList, [], 0, 0⟩]))) := by
  have HV0 : Hid (LV p tb off cap T fx W v v L k op W) := Lib.hid ⟨h, hown, VK.refl _ _ _, fun k hk => Or.inl hk⟩
  have HLK := Lib.hid (fun (W : World) (hW : LS p tb off cap T fx k op v W) => l_look W hW)
  have HIS := Lib.hid (fun (s : ByteArray) (W : World) (hW : LS p tb off cap T fx k op v W) => l_is s W hW)
  have HNO := Lib.hid (fun (e : Int) (W : World) (hW : LS p tb off cap T fx k op v W) => l_no e W hW)
  have hw1 : IntKind.i64.wrap ((k : Int) + 1) = (k : Int) + 1 := IntWalk.i64_in _ (by omega)
  have hvl : ∃ a n c, v = .slice a n c ∧ n = L.length := by
    rcases HV0.out.own.2 with ⟨h1, h2⟩ | ⟨g, cap, cur, h1, _⟩
    · exact ⟨none, 0, 0, h1, h2.symm⟩
    · exact ⟨_, _, _, h1, rfl⟩
  obtain ⟨av, nv, cv, rfl, hnv⟩ := hvl
  have HNV := Lib.hid hnv
  have hnv8 : nv ≤ 2048 := by omega
  clear h hown
  have hL2 : nv ≤ 2047 := by omega
  have tf : ((nv : Int) == 2048) = false := by rw [beq_eq_false_iff_ne]; omega
  have hno := mrk_no (T := T) (k := k) (by rw [hkk]; decide)
  simp only [hno] at HIS
  obtain ⟨kd, hkd⟩ : ∃ kd : Int, ((lookP T k).kind.toNat : Int) = kd := ⟨_, rfl⟩
  obtain ⟨tb0, htb0⟩ : ∃ b : ByteArray, (⟨(lookP T k).text.toArray⟩ : ByteArray) = b := ⟨_, rfl⟩
  obtain ⟨ps, hps⟩ : ∃ ps : Int, (lookP T k).pos = ps := ⟨_, rfl⟩
  have HTX : Hid (tb0.data.toList = (lookP T k).text) := Lib.hid (by rw [← htb0])
  have HTB := Lib.hid htb0
  unfold tokW at HLK
  rw [hkd, htb0, hps] at HLK
  have hkd2 : kd = 1 := by rw [← hkd, hkk]; rfl
  subst hkd2
  clear hkd htb0 hps hkk hno hnv
  have t110 : (tb0.toList == [110, 117, 108, 108]) = true := by rw [ByteArray.toList_eq, HTX.out, hx]; decide
  have t116 : (tb0.toList == [116, 114, 117, 101]) = false := by rw [ByteArray.toList_eq, HTX.out, hx]; decide
  have t102 : (tb0.toList == [102, 97, 108, 115, 101]) = false := by rw [ByteArray.toList_eq, HTX.out, hx]; decide
  clear hx
  cases fx
  case' true =>
    go_enter Tryz.func91, Tryz.ntmps91
    go_wp2_with fail
    refine (HLK.out _ HV0.out.st).mono ?_; rintro x w1 ⟨rfl, hb⟩
    have HV1 := Lib.hid ((HV0.out.below hb).alloc (.cells #[.int .u8 1, .string tb0, .int .i64 ps] 72 (0, 0)))
    have HA1 : Hid ((w1.alloc (.cells #[.int .u8 1, .string tb0, .int .i64 ps] 72 (0, 0))).heap[w1.heap.size]? = some (.cells #[.int .u8 1, .string tb0, .int .i64 ps] 72 (0, 0))) := Lib.hid (heap_alloc_last _ _)
    obtain ⟨A, hA⟩ : ∃ A, w1.heap.size = A := ⟨_, rfl⟩
    rw [hA] at HA1
    have HAZ := Lib.hid hA
    clear hb
    go_wp2_with fail
    refine (HIS.out _ _ HV1.out.st).mono ?_; rintro x w2 ⟨rfl, hb⟩
    have HV2 := Lib.hid (HV1.out.below hb)
    have HA2 := Lib.hid ((hb.block A (heap_lt HA1.out)).trans HA1.out)
    clear hb
    go_wp2_with fail
    refine (HIS.out _ _ HV2.out.st).mono ?_; rintro x w4 ⟨rfl, hb⟩
    have HV4 := Lib.hid (HV2.out.below hb)
    have HA4 := Lib.hid ((hb.block A (heap_lt HA2.out)).trans HA2.out)
    clear hb
  case' false =>
    go_enter Tryz.func91, Tryz.ntmps91
    go_wp2_with fail
    refine (HLK.out _ HV0.out.st).mono ?_; rintro x w1 ⟨rfl, hb⟩
    have HV1 := Lib.hid ((HV0.out.below hb).alloc (.cells #[.int .u8 1, .string tb0, .int .i64 ps] 72 (0, 0)))
    have HA1 : Hid ((w1.alloc (.cells #[.int .u8 1, .string tb0, .int .i64 ps] 72 (0, 0))).heap[w1.heap.size]? = some (.cells #[.int .u8 1, .string tb0, .int .i64 ps] 72 (0, 0))) := Lib.hid (heap_alloc_last _ _)
    obtain ⟨A, hA⟩ : ∃ A, w1.heap.size = A := ⟨_, rfl⟩
    rw [hA] at HA1
    have HAZ := Lib.hid hA
    clear hb
    go_wp2_with fail
    refine (HIS.out _ _ HV1.out.st).mono ?_; rintro x w2 ⟨rfl, hb⟩
    have HV2 := Lib.hid (HV1.out.below hb)
    have HA2 := Lib.hid ((hb.block A (heap_lt HA1.out)).trans HA1.out)
    clear hb
    go_wp2_with fail
    refine (HIS.out _ _ HV2.out.st).mono ?_; rintro x w3 ⟨rfl, hb⟩
    have HV3 := Lib.hid (HV2.out.below hb)
    have HA3 := Lib.hid ((hb.block A (heap_lt HA2.out)).trans HA2.out)
    clear hb
    obtain ⟨c0, c1, c2, c3, c4⟩ := HV3.out.st.cells
    go_wp2_with fail
    refine (HIS.out _ _ HV3.out.st).mono ?_; rintro x w4 ⟨rfl, hb⟩
    have HV4 := Lib.hid (HV3.out.below hb)
    have HA4 := Lib.hid ((hb.block A (heap_lt HA3.out)).trans HA3.out)
    clear hb
    clear c0 c1 c2 c3 c4
  all_goals
    obtain ⟨c0, c1, c2, c3, c4⟩ := HV4.out.st.cells
    obtain ⟨a0, a1, a2⟩ := tcells HA4.out
    have hA4 : A < w4.heap.size := heap_lt HA4.out
    have hp4 : p < w4.heap.size := HV4.out.st.lt
    have f1 := HV4.out.st.frozen 1
    go_wp2_with fail
    obtain ⟨C, hC⟩ : ∃ C, w4.heap.size = C := ⟨_, rfl⟩
    obtain ⟨y5, hy5⟩ : ∃ y5, (w4.setCell ⟨p, 1, none⟩ (.int .i64 ((k : Int) + 1))).alloc (.cells #[.int .u8 0, .string name, .string ⟨#[]⟩, .int .i64 0, .int .i64 0] 63 (0, 0)) = y5 := ⟨_, rfl⟩
    have HY5 := Lib.hid ((HV4.out.go (k + 1) (by omega)).alloc (.cells #[.int .u8 0, .string name, .string ⟨#[]⟩, .int .i64 0, .int .i64 0] 63 (0, 0)))
    have HC5 : Hid (y5.heap[C]? = some (.cells #[.int .u8 0, .string name, .string ⟨#[]⟩, .int .i64 0, .int .i64 0] 63 (0, 0))) := Lib.hid (by
      have := heap_alloc_last (w4.setCell ⟨p, 1, none⟩ (.int .i64 ((k : Int) + 1))) (.cells #[.int .u8 0, .string name, .string ⟨#[]⟩, .int .i64 0, .int .i64 0] 63 (0, 0))
      simp only [World.size_setCell] at this
      rw [← hy5, ← hC]; exact this)
    rw [show (w4.setCell ⟨p, 1, none⟩ (.int .i64 ((k + 1 : Nat) : Int))).alloc (.cells #[.int .u8 0, .string name, .string ⟨#[]⟩, .int .i64 0, .int .i64 0] 63 (0, 0)) = y5 from hy5] at HY5
    rw [hC, hy5]
    clear hy5 c0 c1 c2 c3 c4 a0 a1 a2 hA4 hp4 hC f1
    have hlt5 := HY5.out.st.lt
    have hC5 := heap_lt HC5.out
    obtain ⟨_, _, _, _, c4⟩ := HY5.out.st.cells
    have e4 : y5.drew.cell? ⟨p, 4, none⟩ = some (.slice av nv cv) := c4
    have e4' : ∀ o, (y5.drew.alloc o).cell? ⟨p, 4, none⟩ = some (.slice av nv cv) := fun o => by
      rw [World.cell?_alloc_lt _ _ _ (by exact hlt5)]; exact c4
    obtain ⟨q0, q1, q2, q3, q4⟩ := ccells (W := y5.drew) HC5.out
    have HCEL : Hid (celCells ⟨0, name.data.toList, [], 0, 0⟩ = #[.int .u8 0, .string name, .string ⟨#[]⟩, .int .i64 0, .int .i64 0]) := Lib.hid (by rfl)
    refine wp_region_held_drew (S := fun _ => True) (by kernel_rfl) trivial (fun hHeld => ?_)
    refine tky 0 (some 160) (v := ?_) rfl (by kernel_rfl) (by kernel_rfl) (by kernel_rfl) (fun _ _ _ h => h) ?_ hHeld ?_
    rotate_left
    focus (intro w hSw; go_simp; (try with_reducible rfl); done)
    simp only [Act.put, List.setIfInBounds_toArray, List.set_cons_zero, List.set_cons_succ]
    refine tky 1 (some 161) (v := ?_) rfl (by kernel_rfl) (by kernel_rfl) (by kernel_rfl) (fun _ _ _ h => h) ?_ hHeld ?_
    rotate_left
    focus (intro w hSw; go_simp; (try with_reducible rfl); done)
    simp only [Act.put, List.setIfInBounds_toArray, List.set_cons_zero, List.set_cons_succ]
    refine tky 2 (some 162) (v := ?_) rfl (by kernel_rfl) (by kernel_rfl) (by kernel_rfl) (fun _ _ _ h => h) ?_ hHeld ?_
    rotate_left
    focus (intro w hSw; go_simp; (try with_reducible rfl); done)
    simp only [Act.put, List.setIfInBounds_toArray, List.set_cons_zero, List.set_cons_succ]
    refine tky 3 (some 163) (v := ?_) rfl (by kernel_rfl) (by kernel_rfl) (by kernel_rfl) (fun _ _ _ h => h) ?_ hHeld ?_
    rotate_left
    focus (intro w hSw; go_simp; (try with_reducible rfl); done)
    simp only [Act.put, List.setIfInBounds_toArray, List.set_cons_zero, List.set_cons_succ]
    refine wpAnyH_ready (rs := [4, 5]) (by kernel_rfl) (by simp) ?_
    refine acons 4 rfl (fun K hK => ?_) ?_
    go_simp
    refine hK.out _ _ trivial (fun _ => ?_)
    clear hK K
    (try simp only [Act.put, List.setIfInBounds_toArray, List.set_cons_zero, List.set_cons_succ])
    refine rcons 5 rfl (by kernel_rfl) (fun K hK => ?_)
    go_simp
    refine hK.out _ _ trivial (fun _ => ?_)
    clear hK K
    (try simp only [Act.put, List.setIfInBounds_toArray, List.set_cons_zero, List.set_cons_succ])
    refine rcons 6 rfl (by kernel_rfl) (fun K hK => ?_)
    go_simp
    refine hK.out _ _ trivial (fun _ => ?_)
    clear hK K
    (try simp only [Act.put, List.setIfInBounds_toArray, List.set_cons_zero, List.set_cons_succ])
    rotate_left
    refine acons 5 rfl (fun K hK => ?_) ?_
    go_simp
    refine hK.out _ _ trivial (fun _ => ?_)
    clear hK K
    (try simp only [Act.put, List.setIfInBounds_toArray, List.set_cons_zero, List.set_cons_succ])
    refine wpAnyH_ready (rs := [4, 6]) (by kernel_rfl) (by simp) ?_
    refine acons 4 rfl (fun K hK => ?_) ?_
    go_simp
    refine hK.out _ _ trivial (fun _ => ?_)
    clear hK K
    (try simp only [Act.put, List.setIfInBounds_toArray, List.set_cons_zero, List.set_cons_succ])
    refine rcons 6 rfl (by kernel_rfl) (fun K hK => ?_)
    go_simp
    refine hK.out _ _ trivial (fun _ => ?_)
    clear hK K
    (try simp only [Act.put, List.setIfInBounds_toArray, List.set_cons_zero, List.set_cons_succ])
    rotate_left
    refine acons 6 rfl (fun K hK => ?_) ?_
    go_simp
    refine hK.out _ _ trivial (fun _ => ?_)
    clear hK K
    (try simp only [Act.put, List.setIfInBounds_toArray, List.set_cons_zero, List.set_cons_succ])
    refine rcons 4 rfl (by kernel_rfl) (fun K hK => ?_)
    go_simp
    refine hK.out _ _ trivial (fun _ => ?_)
    clear hK K
    (try simp only [Act.put, List.setIfInBounds_toArray, List.set_cons_zero, List.set_cons_succ])
    rotate_left
    exact AllReadyH.nil
    exact AllReadyH.nil
    all_goals
      refine rcons 7 rfl (by kernel_rfl) (fun K hK => ?_)
      rw [if_pos]
      rotate_left
      focus kernel_rfl
      refine wp_pushL _ _ rfl (p + 1) (.slice av nv cv) L rfl (by exact ((HY5.out.drewN 1).alloc _).own) y5.heap.size 1 ⟨0, name.data.toList, [], 0, 0⟩ rfl (by rw [HCEL.out]; exact heap_alloc_last y5.drew _) (by omega) (by show _ ≤ Array.size _; simp; omega) ?_
      intro v' y6 hown' hgrow hat
      obtain ⟨g6, cap6, hvg, -⟩ := hown'.form L.length (by simp)
      generalize (L ++ [(⟨0, name.data.toList, [], 0, 0⟩ : Cel)]).length = n6 at hvg
      subst hvg
      obtain ⟨hst6, hy6⟩ := LV.grown ((HY5.out.drewN 1).alloc _) hown' hgrow hat rfl
      have HY6 := Lib.hid hy6
      obtain ⟨_, _, _, _, g4⟩ := hst6.cells
      have f6 := hst6.frozen 4
      clear hown' hgrow hat hst6 hy6
      (try dsimp only)
      refine hK.out _ _ trivial (fun _ => ?_)
      clear hK K
      (try simp only [Act.put, List.setIfInBounds_toArray, List.set_cons_zero, List.set_cons_succ])
      refine tky 8 (some 168) (v := ?_) rfl (by kernel_rfl) (by kernel_rfl) (by kernel_rfl) (fun _ _ _ h => h) ?_ hHeld ?_
      rotate_left
      focus (intro w hSw; go_simp; (try with_reducible rfl); done)
      simp only [Act.put, List.setIfInBounds_toArray, List.set_cons_zero, List.set_cons_succ]
      refine tky 9 (some 169) (v := ?_) rfl (by kernel_rfl) (by kernel_rfl) (by kernel_rfl) (fun _ _ _ h => h) ?_ hHeld ?_
      rotate_left
      focus (intro w hSw; go_simp; (try with_reducible rfl); done)
      simp only [Act.put, List.setIfInBounds_toArray, List.set_cons_zero, List.set_cons_succ]
      refine rcons 10 rfl (by kernel_rfl) (fun K hK => ?_)
      go_simp
      refine hK.out _ _ trivial (fun _ => ?_)
      clear hK K
      (try simp only [Act.put, List.setIfInBounds_toArray, List.set_cons_zero, List.set_cons_succ])
      refine wpAnyH_done (by kernel_rfl) ?_ _
      go_wp2_with fail
      go_end0
      exact ⟨rfl, by simp; omega, _, HY6.out⟩
end Go.Proofs.YtgaknbnhmoddcaaGreatDoor
namespace Go.Proofs.YtgaknbnhmoddcaaGreatDoor
open Go.RowKit Go.Lib
set_option maxRecDepth 100000 in
set_option maxHeartbeats 4000000 in
theorem l_value_true {p tb off cap : Nat} {T : List Tok} {fx : Bool} {k : Nat} {op : Int} (v : Value) (L : List Cel) (name : ByteArray) (W : World) (h : LS p tb off cap T fx k op v W) (hown : OwnC (p + 1) v L W) (hL : L.length ≤ 2048) (hk : k ≤ 100000) (hf : L.length ≠ 2048) (hkk : (lookP T k).kind = 1) (hx : (lookP T k).text = [116, 114, 117, 101]) :
    Calls Tryz.prog 91 #[.pointer (some ⟨p, 0, none⟩), .string name] W (LVE p tb off cap T fx W v op (.ok (k + 1, L ++ [⟨1, name.data.toList, [], 1, 0⟩]))) := by
  have HV0 : Hid (LV p tb off cap T fx W v v L k op W) := Lib.hid ⟨h, hown, VK.refl _ _ _, fun k hk => Or.inl hk⟩
  have HLK := Lib.hid (fun (W : World) (hW : LS p tb off cap T fx k op v W) => l_look W hW)
  have HIS := Lib.hid (fun (s : ByteArray) (W : World) (hW : LS p tb off cap T fx k op v W) => l_is s W hW)
  have HNO := Lib.hid (fun (e : Int) (W : World) (hW : LS p tb off cap T fx k op v W) => l_no e W hW)
  have hw1 : IntKind.i64.wrap ((k : Int) + 1) = (k : Int) + 1 := IntWalk.i64_in _ (by omega)
  have hvl : ∃ a n c, v = .slice a n c ∧ n = L.length := by
    rcases HV0.out.own.2 with ⟨h1, h2⟩ | ⟨g, cap, cur, h1, _⟩
    · exact ⟨none, 0, 0, h1, h2.symm⟩
    · exact ⟨_, _, _, h1, rfl⟩
  obtain ⟨av, nv, cv, rfl, hnv⟩ := hvl
  have HNV := Lib.hid hnv
  have hnv8 : nv ≤ 2048 := by omega
  clear h hown
  have hL2 : nv ≤ 2047 := by omega
  have tf : ((nv : Int) == 2048) = false := by rw [beq_eq_false_iff_ne]; omega
  have hno := mrk_no (T := T) (k := k) (by rw [hkk]; decide)
  simp only [hno] at HIS
  obtain ⟨kd, hkd⟩ : ∃ kd : Int, ((lookP T k).kind.toNat : Int) = kd := ⟨_, rfl⟩
  obtain ⟨tb0, htb0⟩ : ∃ b : ByteArray, (⟨(lookP T k).text.toArray⟩ : ByteArray) = b := ⟨_, rfl⟩
  obtain ⟨ps, hps⟩ : ∃ ps : Int, (lookP T k).pos = ps := ⟨_, rfl⟩
  have HTX : Hid (tb0.data.toList = (lookP T k).text) := Lib.hid (by rw [← htb0])
  have HTB := Lib.hid htb0
  unfold tokW at HLK
  rw [hkd, htb0, hps] at HLK
  have hkd2 : kd = 1 := by rw [← hkd, hkk]; rfl
  subst hkd2
  clear hkd htb0 hps hkk hno hnv
  have t110 : (tb0.toList == [110, 117, 108, 108]) = false := by rw [ByteArray.toList_eq, HTX.out, hx]; decide
  have t116 : (tb0.toList == [116, 114, 117, 101]) = true := by rw [ByteArray.toList_eq, HTX.out, hx]; decide
  have t102 : (tb0.toList == [102, 97, 108, 115, 101]) = false := by rw [ByteArray.toList_eq, HTX.out, hx]; decide
  clear hx
  cases fx
  case' true =>
    go_enter Tryz.func91, Tryz.ntmps91
    go_wp2_with fail
    refine (HLK.out _ HV0.out.st).mono ?_; rintro x w1 ⟨rfl, hb⟩
    have HV1 := Lib.hid ((HV0.out.below hb).alloc (.cells #[.int .u8 1, .string tb0, .int .i64 ps] 72 (0, 0)))
    have HA1 : Hid ((w1.alloc (.cells #[.int .u8 1, .string tb0, .int .i64 ps] 72 (0, 0))).heap[w1.heap.size]? = some (.cells #[.int .u8 1, .string tb0, .int .i64 ps] 72 (0, 0))) := Lib.hid (heap_alloc_last _ _)
    obtain ⟨A, hA⟩ : ∃ A, w1.heap.size = A := ⟨_, rfl⟩
    rw [hA] at HA1
    have HAZ := Lib.hid hA
    clear hb
    go_wp2_with fail
    refine (HIS.out _ _ HV1.out.st).mono ?_; rintro x w2 ⟨rfl, hb⟩
    have HV2 := Lib.hid (HV1.out.below hb)
    have HA2 := Lib.hid ((hb.block A (heap_lt HA1.out)).trans HA1.out)
    clear hb
    go_wp2_with fail
    refine (HIS.out _ _ HV2.out.st).mono ?_; rintro x w4 ⟨rfl, hb⟩
    have HV4 := Lib.hid (HV2.out.below hb)
    have HA4 := Lib.hid ((hb.block A (heap_lt HA2.out)).trans HA2.out)
    clear hb
  case' false =>
    go_enter Tryz.func91, Tryz.ntmps91
    go_wp2_with fail
    refine (HLK.out _ HV0.out.st).mono ?_; rintro x w1 ⟨rfl, hb⟩
    have HV1 := Lib.hid ((HV0.out.below hb).alloc (.cells #[.int .u8 1, .string tb0, .int .i64 ps] 72 (0, 0)))
    have HA1 : Hid ((w1.alloc (.cells #[.int .u8 1, .string tb0, .int .i64 ps] 72 (0, 0))).heap[w1.heap.size]? = some (.cells #[.int .u8 1, .string tb0, .int .i64 ps] 72 (0, 0))) := Lib.hid (heap_alloc_last _ _)
    obtain ⟨A, hA⟩ : ∃ A, w1.heap.size = A := ⟨_, rfl⟩
    rw [hA] at HA1
    have HAZ := Lib.hid hA
    clear hb
    go_wp2_with fail
    refine (HIS.out _ _ HV1.out.st).mono ?_; rintro x w2 ⟨rfl, hb⟩
    have HV2 := Lib.hid (HV1.out.below hb)
    have HA2 := Lib.hid ((hb.block A (heap_lt HA1.out)).trans HA1.out)
    clear hb
    go_wp2_with fail
    refine (HIS.out _ _ HV2.out.st).mono ?_; rintro x w3 ⟨rfl, hb⟩
    have HV3 := Lib.hid (HV2.out.below hb)
    have HA3 := Lib.hid ((hb.block A (heap_lt HA2.out)).trans HA2.out)
    clear hb
    obtain ⟨c0, c1, c2, c3, c4⟩ := HV3.out.st.cells
    go_wp2_with fail
    refine (HIS.out _ _ HV3.out.st).mono ?_; rintro x w4 ⟨rfl, hb⟩
    have HV4 := Lib.hid (HV3.out.below hb)
    have HA4 := Lib.hid ((hb.block A (heap_lt HA3.out)).trans HA3.out)
    clear hb
    clear c0 c1 c2 c3 c4
  all_goals
    obtain ⟨c0, c1, c2, c3, c4⟩ := HV4.out.st.cells
    obtain ⟨a0, a1, a2⟩ := tcells HA4.out
    have hA4 : A < w4.heap.size := heap_lt HA4.out
    have hp4 : p < w4.heap.size := HV4.out.st.lt
    have f1 := HV4.out.st.frozen 1
    go_wp2_with fail
    obtain ⟨C, hC⟩ : ∃ C, w4.heap.size = C := ⟨_, rfl⟩
    obtain ⟨y5, hy5⟩ : ∃ y5, (w4.setCell ⟨p, 1, none⟩ (.int .i64 ((k : Int) + 1))).alloc (.cells #[.int .u8 1, .string name, .string ⟨#[]⟩, .int .i64 1, .int .i64 0] 63 (0, 0)) = y5 := ⟨_, rfl⟩
    have HY5 := Lib.hid ((HV4.out.go (k + 1) (by omega)).alloc (.cells #[.int .u8 1, .string name, .string ⟨#[]⟩, .int .i64 1, .int .i64 0] 63 (0, 0)))
    have HC5 : Hid (y5.heap[C]? = some (.cells #[.int .u8 1, .string name, .string ⟨#[]⟩, .int .i64 1, .int .i64 0] 63 (0, 0))) := Lib.hid (by
      have := heap_alloc_last (w4.setCell ⟨p, 1, none⟩ (.int .i64 ((k : Int) + 1))) (.cells #[.int .u8 1, .string name, .string ⟨#[]⟩, .int .i64 1, .int .i64 0] 63 (0, 0))
      simp only [World.size_setCell] at this
      rw [← hy5, ← hC]; exact this)
    rw [show (w4.setCell ⟨p, 1, none⟩ (.int .i64 ((k + 1 : Nat) : Int))).alloc (.cells #[.int .u8 1, .string name, .string ⟨#[]⟩, .int .i64 1, .int .i64 0] 63 (0, 0)) = y5 from hy5] at HY5
    rw [hC, hy5]
    clear hy5 c0 c1 c2 c3 c4 a0 a1 a2 hA4 hp4 hC f1
    have hlt5 := HY5.out.st.lt
    have hC5 := heap_lt HC5.out
    obtain ⟨_, _, _, _, c4⟩ := HY5.out.st.cells
    have e4 : y5.drew.cell? ⟨p, 4, none⟩ = some (.slice av nv cv) := c4
    have e4' : ∀ o, (y5.drew.alloc o).cell? ⟨p, 4, none⟩ = some (.slice av nv cv) := fun o => by
      rw [World.cell?_alloc_lt _ _ _ (by exact hlt5)]; exact c4
    obtain ⟨q0, q1, q2, q3, q4⟩ := ccells (W := y5.drew) HC5.out
    have HCEL : Hid (celCells ⟨1, name.data.toList, [], 1, 0⟩ = #[.int .u8 1, .string name, .string ⟨#[]⟩, .int .i64 1, .int .i64 0]) := Lib.hid (by rfl)
    refine wp_region_held_drew (S := fun _ => True) (by kernel_rfl) trivial (fun hHeld => ?_)
    refine tky 0 (some 160) (v := ?_) rfl (by kernel_rfl) (by kernel_rfl) (by kernel_rfl) (fun _ _ _ h => h) ?_ hHeld ?_
    rotate_left
    focus (intro w hSw; go_simp; (try with_reducible rfl); done)
    simp only [Act.put, List.setIfInBounds_toArray, List.set_cons_zero, List.set_cons_succ]
    refine tky 1 (some 161) (v := ?_) rfl (by kernel_rfl) (by kernel_rfl) (by kernel_rfl) (fun _ _ _ h => h) ?_ hHeld ?_
    rotate_left
    focus (intro w hSw; go_simp; (try with_reducible rfl); done)
    simp only [Act.put, List.setIfInBounds_toArray, List.set_cons_zero, List.set_cons_succ]
    refine tky 2 (some 162) (v := ?_) rfl (by kernel_rfl) (by kernel_rfl) (by kernel_rfl) (fun _ _ _ h => h) ?_ hHeld ?_
    rotate_left
    focus (intro w hSw; go_simp; (try with_reducible rfl); done)
    simp only [Act.put, List.setIfInBounds_toArray, List.set_cons_zero, List.set_cons_succ]
    refine tky 3 (some 163) (v := ?_) rfl (by kernel_rfl) (by kernel_rfl) (by kernel_rfl) (fun _ _ _ h => h) ?_ hHeld ?_
    rotate_left
    focus (intro w hSw; go_simp; (try with_reducible rfl); done)
    simp only [Act.put, List.setIfInBounds_toArray, List.set_cons_zero, List.set_cons_succ]
    refine wpAnyH_ready (rs := [4, 5]) (by kernel_rfl) (by simp) ?_
    refine acons 4 rfl (fun K hK => ?_) ?_
    go_simp
    refine hK.out _ _ trivial (fun _ => ?_)
    clear hK K
    (try simp only [Act.put, List.setIfInBounds_toArray, List.set_cons_zero, List.set_cons_succ])
    refine rcons 5 rfl (by kernel_rfl) (fun K hK => ?_)
    go_simp
    refine hK.out _ _ trivial (fun _ => ?_)
    clear hK K
    (try simp only [Act.put, List.setIfInBounds_toArray, List.set_cons_zero, List.set_cons_succ])
    refine rcons 6 rfl (by kernel_rfl) (fun K hK => ?_)
    go_simp
    refine hK.out _ _ trivial (fun _ => ?_)
    clear hK K
    (try simp only [Act.put, List.setIfInBounds_toArray, List.set_cons_zero, List.set_cons_succ])
    rotate_left
    refine acons 5 rfl (fun K hK => ?_) ?_
    go_simp
    refine hK.out _ _ trivial (fun _ => ?_)
    clear hK K
    (try simp only [Act.put, List.setIfInBounds_toArray, List.set_cons_zero, List.set_cons_succ])
    refine wpAnyH_ready (rs := [4, 6]) (by kernel_rfl) (by simp) ?_
    refine acons 4 rfl (fun K hK => ?_) ?_
    go_simp
    refine hK.out _ _ trivial (fun _ => ?_)
    clear hK K
    (try simp only [Act.put, List.setIfInBounds_toArray, List.set_cons_zero, List.set_cons_succ])
    refine rcons 6 rfl (by kernel_rfl) (fun K hK => ?_)
    go_simp
    refine hK.out _ _ trivial (fun _ => ?_)
    clear hK K
    (try simp only [Act.put, List.setIfInBounds_toArray, List.set_cons_zero, List.set_cons_succ])
    rotate_left
    refine acons 6 rfl (fun K hK => ?_) ?_
    go_simp
    refine hK.out _ _ trivial (fun _ => ?_)
    clear hK K
    (try simp only [Act.put, List.setIfInBounds_toArray, List.set_cons_zero, List.set_cons_succ])
    refine rcons 4 rfl (by kernel_rfl) (fun K hK => ?_)
    go_simp
    refine hK.out _ _ trivial (fun _ => ?_)
    clear hK K
    (try simp only [Act.put, List.setIfInBounds_toArray, List.set_cons_zero, List.set_cons_succ])
    rotate_left
    exact AllReadyH.nil
    exact AllReadyH.nil
    all_goals
      refine rcons 7 rfl (by kernel_rfl) (fun K hK => ?_)
      rw [if_pos]
      rotate_left
      focus kernel_rfl
      refine wp_pushL _ _ rfl (p + 1) (.slice av nv cv) L rfl (by exact ((HY5.out.drewN 1).alloc _).own) y5.heap.size 1 ⟨1, name.data.toList, [], 1, 0⟩ rfl (by rw [HCEL.out]; exact heap_alloc_last y5.drew _) (by omega) (by show _ ≤ Array.size _; simp; omega) ?_
      intro v' y6 hown' hgrow hat
      obtain ⟨g6, cap6, hvg, -⟩ := hown'.form L.length (by simp)
      generalize (L ++ [(⟨1, name.data.toList, [], 1, 0⟩ : Cel)]).length = n6 at hvg
      subst hvg
      obtain ⟨hst6, hy6⟩ := LV.grown ((HY5.out.drewN 1).alloc _) hown' hgrow hat rfl
      have HY6 := Lib.hid hy6
      obtain ⟨_, _, _, _, g4⟩ := hst6.cells
      have f6 := hst6.frozen 4
      clear hown' hgrow hat hst6 hy6
      (try dsimp only)
      refine hK.out _ _ trivial (fun _ => ?_)
      clear hK K
      (try simp only [Act.put, List.setIfInBounds_toArray, List.set_cons_zero, List.set_cons_succ])
      refine tky 8 (some 168) (v := ?_) rfl (by kernel_rfl) (by kernel_rfl) (by kernel_rfl) (fun _ _ _ h => h) ?_ hHeld ?_
      rotate_left
      focus (intro w hSw; go_simp; (try with_reducible rfl); done)
      simp only [Act.put, List.setIfInBounds_toArray, List.set_cons_zero, List.set_cons_succ]
      refine tky 9 (some 169) (v := ?_) rfl (by kernel_rfl) (by kernel_rfl) (by kernel_rfl) (fun _ _ _ h => h) ?_ hHeld ?_
      rotate_left
      focus (intro w hSw; go_simp; (try with_reducible rfl); done)
      simp only [Act.put, List.setIfInBounds_toArray, List.set_cons_zero, List.set_cons_succ]
      refine rcons 10 rfl (by kernel_rfl) (fun K hK => ?_)
      go_simp
      refine hK.out _ _ trivial (fun _ => ?_)
      clear hK K
      (try simp only [Act.put, List.setIfInBounds_toArray, List.set_cons_zero, List.set_cons_succ])
      refine wpAnyH_done (by kernel_rfl) ?_ _
      go_wp2_with fail
      go_end0
      exact ⟨rfl, by simp; omega, _, HY6.out⟩
end Go.Proofs.YtgaknbnhmoddcaaGreatDoor
namespace Go.Proofs.YtgaknbnhmoddcaaGreatDoor
open Go.RowKit Go.Lib
set_option maxRecDepth 100000 in
set_option maxHeartbeats 4000000 in
theorem l_value_false {p tb off cap : Nat} {T : List Tok} {fx : Bool} {k : Nat} {op : Int} (v : Value) (L : List Cel) (name : ByteArray) (W : World) (h : LS p tb off cap T fx k op v W) (hown : OwnC (p + 1) v L W) (hL : L.length ≤ 2048) (hk : k ≤ 100000) (hf : L.length ≠ 2048) (hkk : (lookP T k).kind = 1) (hx : (lookP T k).text = [102, 97, 108, 115, 101]) :
    Calls Tryz.prog 91 #[.pointer (some ⟨p, 0, none⟩), .string name] W (LVE p tb off cap T fx W v op (.ok (k + 1, L ++ [⟨1, name.data.toList, [], 0, 0⟩]))) := by
  have HV0 : Hid (LV p tb off cap T fx W v v L k op W) := Lib.hid ⟨h, hown, VK.refl _ _ _, fun k hk => Or.inl hk⟩
  have HLK := Lib.hid (fun (W : World) (hW : LS p tb off cap T fx k op v W) => l_look W hW)
  have HIS := Lib.hid (fun (s : ByteArray) (W : World) (hW : LS p tb off cap T fx k op v W) => l_is s W hW)
  have HNO := Lib.hid (fun (e : Int) (W : World) (hW : LS p tb off cap T fx k op v W) => l_no e W hW)
  have hw1 : IntKind.i64.wrap ((k : Int) + 1) = (k : Int) + 1 := IntWalk.i64_in _ (by omega)
  have hvl : ∃ a n c, v = .slice a n c ∧ n = L.length := by
    rcases HV0.out.own.2 with ⟨h1, h2⟩ | ⟨g, cap, cur, h1, _⟩
    · exact ⟨none, 0, 0, h1, h2.symm⟩
    · exact ⟨_, _, _, h1, rfl⟩
  obtain ⟨av, nv, cv, rfl, hnv⟩ := hvl
  have HNV := Lib.hid hnv
  have hnv8 : nv ≤ 2048 := by omega
  clear h hown
  have hL2 : nv ≤ 2047 := by omega
  have tf : ((nv : Int) == 2048) = false := by rw [beq_eq_false_iff_ne]; omega
  have hno := mrk_no (T := T) (k := k) (by rw [hkk]; decide)
  simp only [hno] at HIS
  obtain ⟨kd, hkd⟩ : ∃ kd : Int, ((lookP T k).kind.toNat : Int) = kd := ⟨_, rfl⟩
  obtain ⟨tb0, htb0⟩ : ∃ b : ByteArray, (⟨(lookP T k).text.toArray⟩ : ByteArray) = b := ⟨_, rfl⟩
  obtain ⟨ps, hps⟩ : ∃ ps : Int, (lookP T k).pos = ps := ⟨_, rfl⟩
  have HTX : Hid (tb0.data.toList = (lookP T k).text) := Lib.hid (by rw [← htb0])
  have HTB := Lib.hid htb0
  unfold tokW at HLK
  rw [hkd, htb0, hps] at HLK
  have hkd2 : kd = 1 := by rw [← hkd, hkk]; rfl
  subst hkd2
  clear hkd htb0 hps hkk hno hnv
  have t110 : (tb0.toList == [110, 117, 108, 108]) = false := by rw [ByteArray.toList_eq, HTX.out, hx]; decide
  have t116 : (tb0.toList == [116, 114, 117, 101]) = false := by rw [ByteArray.toList_eq, HTX.out, hx]; decide
  have t102 : (tb0.toList == [102, 97, 108, 115, 101]) = true := by rw [ByteArray.toList_eq, HTX.out, hx]; decide
  clear hx
  cases fx
  case' true =>
    go_enter Tryz.func91, Tryz.ntmps91
    go_wp2_with fail
    refine (HLK.out _ HV0.out.st).mono ?_; rintro x w1 ⟨rfl, hb⟩
    have HV1 := Lib.hid ((HV0.out.below hb).alloc (.cells #[.int .u8 1, .string tb0, .int .i64 ps] 72 (0, 0)))
    have HA1 : Hid ((w1.alloc (.cells #[.int .u8 1, .string tb0, .int .i64 ps] 72 (0, 0))).heap[w1.heap.size]? = some (.cells #[.int .u8 1, .string tb0, .int .i64 ps] 72 (0, 0))) := Lib.hid (heap_alloc_last _ _)
    obtain ⟨A, hA⟩ : ∃ A, w1.heap.size = A := ⟨_, rfl⟩
    rw [hA] at HA1
    have HAZ := Lib.hid hA
    clear hb
    go_wp2_with fail
    refine (HIS.out _ _ HV1.out.st).mono ?_; rintro x w2 ⟨rfl, hb⟩
    have HV2 := Lib.hid (HV1.out.below hb)
    have HA2 := Lib.hid ((hb.block A (heap_lt HA1.out)).trans HA1.out)
    clear hb
    go_wp2_with fail
    refine (HIS.out _ _ HV2.out.st).mono ?_; rintro x w4 ⟨rfl, hb⟩
    have HV4 := Lib.hid (HV2.out.below hb)
    have HA4 := Lib.hid ((hb.block A (heap_lt HA2.out)).trans HA2.out)
    clear hb
  case' false =>
    go_enter Tryz.func91, Tryz.ntmps91
    go_wp2_with fail
    refine (HLK.out _ HV0.out.st).mono ?_; rintro x w1 ⟨rfl, hb⟩
    have HV1 := Lib.hid ((HV0.out.below hb).alloc (.cells #[.int .u8 1, .string tb0, .int .i64 ps] 72 (0, 0)))
    have HA1 : Hid ((w1.alloc (.cells #[.int .u8 1, .string tb0, .int .i64 ps] 72 (0, 0))).heap[w1.heap.size]? = some (.cells #[.int .u8 1, .string tb0, .int .i64 ps] 72 (0, 0))) := Lib.hid (heap_alloc_last _ _)
    obtain ⟨A, hA⟩ : ∃ A, w1.heap.size = A := ⟨_, rfl⟩
    rw [hA] at HA1
    have HAZ := Lib.hid hA
    clear hb
    go_wp2_with fail
    refine (HIS.out _ _ HV1.out.st).mono ?_; rintro x w2 ⟨rfl, hb⟩
    have HV2 := Lib.hid (HV1.out.below hb)
    have HA2 := Lib.hid ((hb.block A (heap_lt HA1.out)).trans HA1.out)
    clear hb
    go_wp2_with fail
    refine (HIS.out _ _ HV2.out.st).mono ?_; rintro x w3 ⟨rfl, hb⟩
    have HV3 := Lib.hid (HV2.out.below hb)
    have HA3 := Lib.hid ((hb.block A (heap_lt HA2.out)).trans HA2.out)
    clear hb
    obtain ⟨c0, c1, c2, c3, c4⟩ := HV3.out.st.cells
    go_wp2_with fail
    refine (HIS.out _ _ HV3.out.st).mono ?_; rintro x w4 ⟨rfl, hb⟩
    have HV4 := Lib.hid (HV3.out.below hb)
    have HA4 := Lib.hid ((hb.block A (heap_lt HA3.out)).trans HA3.out)
    clear hb
    clear c0 c1 c2 c3 c4
  all_goals
    obtain ⟨c0, c1, c2, c3, c4⟩ := HV4.out.st.cells
    obtain ⟨a0, a1, a2⟩ := tcells HA4.out
    have hA4 : A < w4.heap.size := heap_lt HA4.out
    have hp4 : p < w4.heap.size := HV4.out.st.lt
    have f1 := HV4.out.st.frozen 1
    go_wp2_with fail
    obtain ⟨C, hC⟩ : ∃ C, w4.heap.size = C := ⟨_, rfl⟩
    obtain ⟨y5, hy5⟩ : ∃ y5, (w4.setCell ⟨p, 1, none⟩ (.int .i64 ((k : Int) + 1))).alloc (.cells #[.int .u8 1, .string name, .string ⟨#[]⟩, .int .i64 0, .int .i64 0] 63 (0, 0)) = y5 := ⟨_, rfl⟩
    have HY5 := Lib.hid ((HV4.out.go (k + 1) (by omega)).alloc (.cells #[.int .u8 1, .string name, .string ⟨#[]⟩, .int .i64 0, .int .i64 0] 63 (0, 0)))
    have HC5 : Hid (y5.heap[C]? = some (.cells #[.int .u8 1, .string name, .string ⟨#[]⟩, .int .i64 0, .int .i64 0] 63 (0, 0))) := Lib.hid (by
      have := heap_alloc_last (w4.setCell ⟨p, 1, none⟩ (.int .i64 ((k : Int) + 1))) (.cells #[.int .u8 1, .string name, .string ⟨#[]⟩, .int .i64 0, .int .i64 0] 63 (0, 0))
      simp only [World.size_setCell] at this
      rw [← hy5, ← hC]; exact this)
    rw [show (w4.setCell ⟨p, 1, none⟩ (.int .i64 ((k + 1 : Nat) : Int))).alloc (.cells #[.int .u8 1, .string name, .string ⟨#[]⟩, .int .i64 0, .int .i64 0] 63 (0, 0)) = y5 from hy5] at HY5
    rw [hC, hy5]
    clear hy5 c0 c1 c2 c3 c4 a0 a1 a2 hA4 hp4 hC f1
    have hlt5 := HY5.out.st.lt
    have hC5 := heap_lt HC5.out
    obtain ⟨_, _, _, _, c4⟩ := HY5.out.st.cells
    have e4 : y5.drew.cell? ⟨p, 4, none⟩ = some (.slice av nv cv) := c4
    have e4' : ∀ o, (y5.drew.alloc o).cell? ⟨p, 4, none⟩ = some (.slice av nv cv) := fun o => by
      rw [World.cell?_alloc_lt _ _ _ (by exact hlt5)]; exact c4
    obtain ⟨q0, q1, q2, q3, q4⟩ := ccells (W := y5.drew) HC5.out
    have HCEL : Hid (celCells ⟨1, name.data.toList, [], 0, 0⟩ = #[.int .u8 1, .string name, .string ⟨#[]⟩, .int .i64 0, .int .i64 0]) := Lib.hid (by rfl)
    refine wp_region_held_drew (S := fun _ => True) (by kernel_rfl) trivial (fun hHeld => ?_)
    refine tky 0 (some 160) (v := ?_) rfl (by kernel_rfl) (by kernel_rfl) (by kernel_rfl) (fun _ _ _ h => h) ?_ hHeld ?_
    rotate_left
    focus (intro w hSw; go_simp; (try with_reducible rfl); done)
    simp only [Act.put, List.setIfInBounds_toArray, List.set_cons_zero, List.set_cons_succ]
    refine tky 1 (some 161) (v := ?_) rfl (by kernel_rfl) (by kernel_rfl) (by kernel_rfl) (fun _ _ _ h => h) ?_ hHeld ?_
    rotate_left
    focus (intro w hSw; go_simp; (try with_reducible rfl); done)
    simp only [Act.put, List.setIfInBounds_toArray, List.set_cons_zero, List.set_cons_succ]
    refine tky 2 (some 162) (v := ?_) rfl (by kernel_rfl) (by kernel_rfl) (by kernel_rfl) (fun _ _ _ h => h) ?_ hHeld ?_
    rotate_left
    focus (intro w hSw; go_simp; (try with_reducible rfl); done)
    simp only [Act.put, List.setIfInBounds_toArray, List.set_cons_zero, List.set_cons_succ]
    refine tky 3 (some 163) (v := ?_) rfl (by kernel_rfl) (by kernel_rfl) (by kernel_rfl) (fun _ _ _ h => h) ?_ hHeld ?_
    rotate_left
    focus (intro w hSw; go_simp; (try with_reducible rfl); done)
    simp only [Act.put, List.setIfInBounds_toArray, List.set_cons_zero, List.set_cons_succ]
    refine wpAnyH_ready (rs := [4, 5]) (by kernel_rfl) (by simp) ?_
    refine acons 4 rfl (fun K hK => ?_) ?_
    go_simp
    refine hK.out _ _ trivial (fun _ => ?_)
    clear hK K
    (try simp only [Act.put, List.setIfInBounds_toArray, List.set_cons_zero, List.set_cons_succ])
    refine rcons 5 rfl (by kernel_rfl) (fun K hK => ?_)
    go_simp
    refine hK.out _ _ trivial (fun _ => ?_)
    clear hK K
    (try simp only [Act.put, List.setIfInBounds_toArray, List.set_cons_zero, List.set_cons_succ])
    refine rcons 6 rfl (by kernel_rfl) (fun K hK => ?_)
    go_simp
    refine hK.out _ _ trivial (fun _ => ?_)
    clear hK K
    (try simp only [Act.put, List.setIfInBounds_toArray, List.set_cons_zero, List.set_cons_succ])
    rotate_left
    refine acons 5 rfl (fun K hK => ?_) ?_
    go_simp
    refine hK.out _ _ trivial (fun _ => ?_)
    clear hK K
    (try simp only [Act.put, List.setIfInBounds_toArray, List.set_cons_zero, List.set_cons_succ])
    refine wpAnyH_ready (rs := [4, 6]) (by kernel_rfl) (by simp) ?_
    refine acons 4 rfl (fun K hK => ?_) ?_
    go_simp
    refine hK.out _ _ trivial (fun _ => ?_)
    clear hK K
    (try simp only [Act.put, List.setIfInBounds_toArray, List.set_cons_zero, List.set_cons_succ])
    refine rcons 6 rfl (by kernel_rfl) (fun K hK => ?_)
    go_simp
    refine hK.out _ _ trivial (fun _ => ?_)
    clear hK K
    (try simp only [Act.put, List.setIfInBounds_toArray, List.set_cons_zero, List.set_cons_succ])
    rotate_left
    refine acons 6 rfl (fun K hK => ?_) ?_
    go_simp
    refine hK.out _ _ trivial (fun _ => ?_)
    clear hK K
    (try simp only [Act.put, List.setIfInBounds_toArray, List.set_cons_zero, List.set_cons_succ])
    refine rcons 4 rfl (by kernel_rfl) (fun K hK => ?_)
    go_simp
    refine hK.out _ _ trivial (fun _ => ?_)
    clear hK K
    (try simp only [Act.put, List.setIfInBounds_toArray, List.set_cons_zero, List.set_cons_succ])
    rotate_left
    exact AllReadyH.nil
    exact AllReadyH.nil
    all_goals
      refine rcons 7 rfl (by kernel_rfl) (fun K hK => ?_)
      rw [if_pos]
      rotate_left
      focus kernel_rfl
      refine wp_pushL _ _ rfl (p + 1) (.slice av nv cv) L rfl (by exact ((HY5.out.drewN 1).alloc _).own) y5.heap.size 1 ⟨1, name.data.toList, [], 0, 0⟩ rfl (by rw [HCEL.out]; exact heap_alloc_last y5.drew _) (by omega) (by show _ ≤ Array.size _; simp; omega) ?_
      intro v' y6 hown' hgrow hat
      obtain ⟨g6, cap6, hvg, -⟩ := hown'.form L.length (by simp)
      generalize (L ++ [(⟨1, name.data.toList, [], 0, 0⟩ : Cel)]).length = n6 at hvg
      subst hvg
      obtain ⟨hst6, hy6⟩ := LV.grown ((HY5.out.drewN 1).alloc _) hown' hgrow hat rfl
      have HY6 := Lib.hid hy6
      obtain ⟨_, _, _, _, g4⟩ := hst6.cells
      have f6 := hst6.frozen 4
      clear hown' hgrow hat hst6 hy6
      (try dsimp only)
      refine hK.out _ _ trivial (fun _ => ?_)
      clear hK K
      (try simp only [Act.put, List.setIfInBounds_toArray, List.set_cons_zero, List.set_cons_succ])
      refine tky 8 (some 168) (v := ?_) rfl (by kernel_rfl) (by kernel_rfl) (by kernel_rfl) (fun _ _ _ h => h) ?_ hHeld ?_
      rotate_left
      focus (intro w hSw; go_simp; (try with_reducible rfl); done)
      simp only [Act.put, List.setIfInBounds_toArray, List.set_cons_zero, List.set_cons_succ]
      refine tky 9 (some 169) (v := ?_) rfl (by kernel_rfl) (by kernel_rfl) (by kernel_rfl) (fun _ _ _ h => h) ?_ hHeld ?_
      rotate_left
      focus (intro w hSw; go_simp; (try with_reducible rfl); done)
      simp only [Act.put, List.setIfInBounds_toArray, List.set_cons_zero, List.set_cons_succ]
      refine rcons 10 rfl (by kernel_rfl) (fun K hK => ?_)
      go_simp
      refine hK.out _ _ trivial (fun _ => ?_)
      clear hK K
      (try simp only [Act.put, List.setIfInBounds_toArray, List.set_cons_zero, List.set_cons_succ])
      refine wpAnyH_done (by kernel_rfl) ?_ _
      go_wp2_with fail
      go_end0
      exact ⟨rfl, by simp; omega, _, HY6.out⟩
end Go.Proofs.YtgaknbnhmoddcaaGreatDoor
namespace Go.Proofs.YtgaknbnhmoddcaaGreatDoor
open Go.RowKit Go.Lib
theorem mrk_one {T : List Tok} {k : Nat} {s : List UInt8} (h : mrkP T k s = true) : (lookP T k).kind = 4 ∧ (lookP T k).text = s := by
  unfold mrkP at h
  simpa using h
theorem mrk_ne {T : List Tok} {k : Nat} {s u : List UInt8} (h : mrkP T k s = true) (hne : s ≠ u) : mrkP T k u = false := by
  unfold mrkP
  rw [(mrk_one h).2, beq_eq_false_iff_ne.2 hne, Bool.and_false]
set_option maxRecDepth 100000 in
set_option maxHeartbeats 4000000 in
theorem l_value_full_list {p tb off cap : Nat} {T : List Tok} {fx : Bool} {k : Nat} {op : Int} (v : Value) (L : List Cel) (name : ByteArray) (W : World) (h : LS p tb off cap T fx k op v W) (hown : OwnC (p + 1) v L W) (hL : L.length ≤ 2048) (hk : k ≤ 100000) (hf : L.length = 2048) (mm : mrkP T k [91] = true) :
    Calls Tryz.prog 91 #[.pointer (some ⟨p, 0, none⟩), .string name] W (LVE p tb off cap T fx W v op (.error (4, k))) := by
  have HV0 : Hid (LV p tb off cap T fx W v v L k op W) := Lib.hid ⟨h, hown, VK.refl _ _ _, fun k hk => Or.inl hk⟩
  have HLK := Lib.hid (fun (W : World) (hW : LS p tb off cap T fx k op v W) => l_look W hW)
  have HIS := Lib.hid (fun (s : ByteArray) (W : World) (hW : LS p tb off cap T fx k op v W) => l_is s W hW)
  have HNO := Lib.hid (fun (e : Int) (W : World) (hW : LS p tb off cap T fx k op v W) => l_no e W hW)
  have hw1 : IntKind.i64.wrap ((k : Int) + 1) = (k : Int) + 1 := IntWalk.i64_in _ (by omega)
  have hvl : ∃ a n c, v = .slice a n c ∧ n = L.length := by
    rcases HV0.out.own.2 with ⟨h1, h2⟩ | ⟨g, cap, cur, h1, _⟩
    · exact ⟨none, 0, 0, h1, h2.symm⟩
    · exact ⟨_, _, _, h1, rfl⟩
  obtain ⟨av, nv, cv, rfl, hnv⟩ := hvl
  have HNV := Lib.hid hnv
  have hnv8 : nv ≤ 2048 := by omega
  clear h hown
  have tf : ((nv : Int) == 2048) = true := by rw [beq_iff_eq]; omega
  have hkk := (mrk_one mm).1
  have m91 : mrkP T k [91] = true := mm
  have m123 : mrkP T k [123] = false := mrk_ne mm (by decide)
  have m36 : mrkP T k [36] = false := mrk_ne mm (by decide)
  have H91 : Hid (∀ W', LS p tb off cap T fx k op (.slice av nv cv) W' → Calls Tryz.prog 82 #[.pointer (some ⟨p, 0, none⟩), .int .u8 4, .string ⟨#[91]⟩] W' fun x w' => x = .returned (.bool true) ∧ Below W'.heap.size W' w') := Lib.hid fun W' hW => by
    have := HIS.out ⟨#[91]⟩ W' hW
    rw [show (⟨#[91]⟩ : ByteArray).data.toList = [91] from rfl, m91] at this; exact this
  have H123 : Hid (∀ W', LS p tb off cap T fx k op (.slice av nv cv) W' → Calls Tryz.prog 82 #[.pointer (some ⟨p, 0, none⟩), .int .u8 4, .string ⟨#[123]⟩] W' fun x w' => x = .returned (.bool false) ∧ Below W'.heap.size W' w') := Lib.hid fun W' hW => by
    have := HIS.out ⟨#[123]⟩ W' hW
    rw [show (⟨#[123]⟩ : ByteArray).data.toList = [123] from rfl, m123] at this; exact this
  have H36 : Hid (∀ W', LS p tb off cap T fx k op (.slice av nv cv) W' → Calls Tryz.prog 82 #[.pointer (some ⟨p, 0, none⟩), .int .u8 4, .string ⟨#[36]⟩] W' fun x w' => x = .returned (.bool false) ∧ Below W'.heap.size W' w') := Lib.hid fun W' hW => by
    have := HIS.out ⟨#[36]⟩ W' hW
    rw [show (⟨#[36]⟩ : ByteArray).data.toList = [36] from rfl, m36] at this; exact this
  obtain ⟨kd, hkd⟩ : ∃ kd : Int, ((lookP T k).kind.toNat : Int) = kd := ⟨_, rfl⟩
  obtain ⟨tb0, htb0⟩ : ∃ b : ByteArray, (⟨(lookP T k).text.toArray⟩ : ByteArray) = b := ⟨_, rfl⟩
  obtain ⟨ps, hps⟩ : ∃ ps : Int, (lookP T k).pos = ps := ⟨_, rfl⟩
  have HTX : Hid (tb0.data.toList = (lookP T k).text) := Lib.hid (by rw [← htb0])
  have HTB := Lib.hid htb0
  unfold tokW at HLK
  rw [hkd, htb0, hps] at HLK
  have hkd2 : kd = 4 := by rw [← hkd, hkk]; rfl
  subst hkd2
  clear hkd htb0 hps hkk hnv mm m91 m123 m36
  cases fx
  case' true =>
    go_enter Tryz.func91, Tryz.ntmps91
    go_wp2_with fail
    refine (HLK.out _ HV0.out.st).mono ?_; rintro x w1 ⟨rfl, hb⟩
    have HV1 := Lib.hid ((HV0.out.below hb).alloc (.cells #[.int .u8 4, .string tb0, .int .i64 ps] 72 (0, 0)))
    have HA1 : Hid ((w1.alloc (.cells #[.int .u8 4, .string tb0, .int .i64 ps] 72 (0, 0))).heap[w1.heap.size]? = some (.cells #[.int .u8 4, .string tb0, .int .i64 ps] 72 (0, 0))) := Lib.hid (heap_alloc_last _ _)
    obtain ⟨A, hA⟩ : ∃ A, w1.heap.size = A := ⟨_, rfl⟩
    rw [hA] at HA1
    have HAZ := Lib.hid hA
    clear hb
    go_wp2_with fail
    refine (H91.out _ HV1.out.st).mono ?_; rintro x w3 ⟨rfl, hb⟩
    have HV3 := Lib.hid (HV1.out.below hb)
    have HA3 := Lib.hid ((hb.block A (heap_lt HA1.out)).trans HA1.out)
    clear hb
  case' false =>
    go_enter Tryz.func91, Tryz.ntmps91
    go_wp2_with fail
    refine (HLK.out _ HV0.out.st).mono ?_; rintro x w1 ⟨rfl, hb⟩
    have HV1 := Lib.hid ((HV0.out.below hb).alloc (.cells #[.int .u8 4, .string tb0, .int .i64 ps] 72 (0, 0)))
    have HA1 : Hid ((w1.alloc (.cells #[.int .u8 4, .string tb0, .int .i64 ps] 72 (0, 0))).heap[w1.heap.size]? = some (.cells #[.int .u8 4, .string tb0, .int .i64 ps] 72 (0, 0))) := Lib.hid (heap_alloc_last _ _)
    obtain ⟨A, hA⟩ : ∃ A, w1.heap.size = A := ⟨_, rfl⟩
    rw [hA] at HA1
    have HAZ := Lib.hid hA
    clear hb
    go_wp2_with fail
    refine (H91.out _ HV1.out.st).mono ?_; rintro x w2 ⟨rfl, hb⟩
    have HV2 := Lib.hid (HV1.out.below hb)
    have HA2 := Lib.hid ((hb.block A (heap_lt HA1.out)).trans HA1.out)
    clear hb
    obtain ⟨c0, c1, c2, c3, c4⟩ := HV2.out.st.cells
    go_wp2_with fail
    refine (H36.out _ HV2.out.st).mono ?_; rintro x w3 ⟨rfl, hb⟩
    have HV3 := Lib.hid (HV2.out.below hb)
    have HA3 := Lib.hid ((hb.block A (heap_lt HA2.out)).trans HA2.out)
    clear hb
    clear c0 c1 c2 c3 c4
  all_goals
    obtain ⟨c0, c1, c2, c3, c4⟩ := HV3.out.st.cells
    obtain ⟨a0, a1, a2⟩ := tcells HA3.out
    have hA3 : A < w3.heap.size := heap_lt HA3.out
    have hp3 : p < w3.heap.size := HV3.out.st.lt
    go_wp2_with fail
    have hpy : p ≤ w3.heap.size := Nat.le_of_lt hp3
    refine (HNO.out _ _ HV3.out.st).mono ?_; rintro x y4 ⟨rfl, hb⟩
    have HB9 := Lib.hid (HV3.out.vk.1.trans (hb.mono hpy))
    clear hb
    go_wp2_with fail
    exact ⟨rfl, rfl, HB9.out⟩
set_option maxRecDepth 100000 in
set_option maxHeartbeats 4000000 in
theorem l_value_full_obj {p tb off cap : Nat} {T : List Tok} {fx : Bool} {k : Nat} {op : Int} (v : Value) (L : List Cel) (name : ByteArray) (W : World) (h : LS p tb off cap T fx k op v W) (hown : OwnC (p + 1) v L W) (hL : L.length ≤ 2048) (hk : k ≤ 100000) (hf : L.length = 2048) (mm : mrkP T k [123] = true) :
    Calls Tryz.prog 91 #[.pointer (some ⟨p, 0, none⟩), .string name] W (LVE p tb off cap T fx W v op (.error (4, k))) := by
  have HV0 : Hid (LV p tb off cap T fx W v v L k op W) := Lib.hid ⟨h, hown, VK.refl _ _ _, fun k hk => Or.inl hk⟩
  have HLK := Lib.hid (fun (W : World) (hW : LS p tb off cap T fx k op v W) => l_look W hW)
  have HIS := Lib.hid (fun (s : ByteArray) (W : World) (hW : LS p tb off cap T fx k op v W) => l_is s W hW)
  have HNO := Lib.hid (fun (e : Int) (W : World) (hW : LS p tb off cap T fx k op v W) => l_no e W hW)
  have hw1 : IntKind.i64.wrap ((k : Int) + 1) = (k : Int) + 1 := IntWalk.i64_in _ (by omega)
  have hvl : ∃ a n c, v = .slice a n c ∧ n = L.length := by
    rcases HV0.out.own.2 with ⟨h1, h2⟩ | ⟨g, cap, cur, h1, _⟩
    · exact ⟨none, 0, 0, h1, h2.symm⟩
    · exact ⟨_, _, _, h1, rfl⟩
  obtain ⟨av, nv, cv, rfl, hnv⟩ := hvl
  have HNV := Lib.hid hnv
  have hnv8 : nv ≤ 2048 := by omega
  clear h hown
  have tf : ((nv : Int) == 2048) = true := by rw [beq_iff_eq]; omega
  have hkk := (mrk_one mm).1
  have m91 : mrkP T k [91] = false := mrk_ne mm (by decide)
  have m123 : mrkP T k [123] = true := mm
  have m36 : mrkP T k [36] = false := mrk_ne mm (by decide)
  have H91 : Hid (∀ W', LS p tb off cap T fx k op (.slice av nv cv) W' → Calls Tryz.prog 82 #[.pointer (some ⟨p, 0, none⟩), .int .u8 4, .string ⟨#[91]⟩] W' fun x w' => x = .returned (.bool false) ∧ Below W'.heap.size W' w') := Lib.hid fun W' hW => by
    have := HIS.out ⟨#[91]⟩ W' hW
    rw [show (⟨#[91]⟩ : ByteArray).data.toList = [91] from rfl, m91] at this; exact this
  have H123 : Hid (∀ W', LS p tb off cap T fx k op (.slice av nv cv) W' → Calls Tryz.prog 82 #[.pointer (some ⟨p, 0, none⟩), .int .u8 4, .string ⟨#[123]⟩] W' fun x w' => x = .returned (.bool true) ∧ Below W'.heap.size W' w') := Lib.hid fun W' hW => by
    have := HIS.out ⟨#[123]⟩ W' hW
    rw [show (⟨#[123]⟩ : ByteArray).data.toList = [123] from rfl, m123] at this; exact this
  have H36 : Hid (∀ W', LS p tb off cap T fx k op (.slice av nv cv) W' → Calls Tryz.prog 82 #[.pointer (some ⟨p, 0, none⟩), .int .u8 4, .string ⟨#[36]⟩] W' fun x w' => x = .returned (.bool false) ∧ Below W'.heap.size W' w') := Lib.hid fun W' hW => by
    have := HIS.out ⟨#[36]⟩ W' hW
    rw [show (⟨#[36]⟩ : ByteArray).data.toList = [36] from rfl, m36] at this; exact this
  obtain ⟨kd, hkd⟩ : ∃ kd : Int, ((lookP T k).kind.toNat : Int) = kd := ⟨_, rfl⟩
  obtain ⟨tb0, htb0⟩ : ∃ b : ByteArray, (⟨(lookP T k).text.toArray⟩ : ByteArray) = b := ⟨_, rfl⟩
  obtain ⟨ps, hps⟩ : ∃ ps : Int, (lookP T k).pos = ps := ⟨_, rfl⟩
  have HTX : Hid (tb0.data.toList = (lookP T k).text) := Lib.hid (by rw [← htb0])
  have HTB := Lib.hid htb0
  unfold tokW at HLK
  rw [hkd, htb0, hps] at HLK
  have hkd2 : kd = 4 := by rw [← hkd, hkk]; rfl
  subst hkd2
  clear hkd htb0 hps hkk hnv mm m91 m123 m36
  cases fx
  case' true =>
    go_enter Tryz.func91, Tryz.ntmps91
    go_wp2_with fail
    refine (HLK.out _ HV0.out.st).mono ?_; rintro x w1 ⟨rfl, hb⟩
    have HV1 := Lib.hid ((HV0.out.below hb).alloc (.cells #[.int .u8 4, .string tb0, .int .i64 ps] 72 (0, 0)))
    have HA1 : Hid ((w1.alloc (.cells #[.int .u8 4, .string tb0, .int .i64 ps] 72 (0, 0))).heap[w1.heap.size]? = some (.cells #[.int .u8 4, .string tb0, .int .i64 ps] 72 (0, 0))) := Lib.hid (heap_alloc_last _ _)
    obtain ⟨A, hA⟩ : ∃ A, w1.heap.size = A := ⟨_, rfl⟩
    rw [hA] at HA1
    have HAZ := Lib.hid hA
    clear hb
    go_wp2_with fail
    refine (H91.out _ HV1.out.st).mono ?_; rintro x w2 ⟨rfl, hb⟩
    have HV2 := Lib.hid (HV1.out.below hb)
    have HA2 := Lib.hid ((hb.block A (heap_lt HA1.out)).trans HA1.out)
    clear hb
    go_wp2_with fail
    refine (H123.out _ HV2.out.st).mono ?_; rintro x w4 ⟨rfl, hb⟩
    have HV4 := Lib.hid (HV2.out.below hb)
    have HA4 := Lib.hid ((hb.block A (heap_lt HA2.out)).trans HA2.out)
    clear hb
  case' false =>
    go_enter Tryz.func91, Tryz.ntmps91
    go_wp2_with fail
    refine (HLK.out _ HV0.out.st).mono ?_; rintro x w1 ⟨rfl, hb⟩
    have HV1 := Lib.hid ((HV0.out.below hb).alloc (.cells #[.int .u8 4, .string tb0, .int .i64 ps] 72 (0, 0)))
    have HA1 : Hid ((w1.alloc (.cells #[.int .u8 4, .string tb0, .int .i64 ps] 72 (0, 0))).heap[w1.heap.size]? = some (.cells #[.int .u8 4, .string tb0, .int .i64 ps] 72 (0, 0))) := Lib.hid (heap_alloc_last _ _)
    obtain ⟨A, hA⟩ : ∃ A, w1.heap.size = A := ⟨_, rfl⟩
    rw [hA] at HA1
    have HAZ := Lib.hid hA
    clear hb
    go_wp2_with fail
    refine (H91.out _ HV1.out.st).mono ?_; rintro x w2 ⟨rfl, hb⟩
    have HV2 := Lib.hid (HV1.out.below hb)
    have HA2 := Lib.hid ((hb.block A (heap_lt HA1.out)).trans HA1.out)
    clear hb
    go_wp2_with fail
    refine (H123.out _ HV2.out.st).mono ?_; rintro x w3 ⟨rfl, hb⟩
    have HV3 := Lib.hid (HV2.out.below hb)
    have HA3 := Lib.hid ((hb.block A (heap_lt HA2.out)).trans HA2.out)
    clear hb
    obtain ⟨c0, c1, c2, c3, c4⟩ := HV3.out.st.cells
    go_wp2_with fail
    refine (H36.out _ HV3.out.st).mono ?_; rintro x w4 ⟨rfl, hb⟩
    have HV4 := Lib.hid (HV3.out.below hb)
    have HA4 := Lib.hid ((hb.block A (heap_lt HA3.out)).trans HA3.out)
    clear hb
    clear c0 c1 c2 c3 c4
  all_goals
    obtain ⟨c0, c1, c2, c3, c4⟩ := HV4.out.st.cells
    obtain ⟨a0, a1, a2⟩ := tcells HA4.out
    have hA4 : A < w4.heap.size := heap_lt HA4.out
    have hp4 : p < w4.heap.size := HV4.out.st.lt
    go_wp2_with fail
    have hpy : p ≤ w4.heap.size := Nat.le_of_lt hp4
    refine (HNO.out _ _ HV4.out.st).mono ?_; rintro x y4 ⟨rfl, hb⟩
    have HB9 := Lib.hid (HV4.out.vk.1.trans (hb.mono hpy))
    clear hb
    go_wp2_with fail
    exact ⟨rfl, rfl, HB9.out⟩
set_option maxRecDepth 100000 in
set_option maxHeartbeats 4000000 in
theorem l_value_full_var {p tb off cap : Nat} {T : List Tok} {fx : Bool} {k : Nat} {op : Int} (v : Value) (L : List Cel) (name : ByteArray) (W : World) (h : LS p tb off cap T fx k op v W) (hown : OwnC (p + 1) v L W) (hL : L.length ≤ 2048) (hk : k ≤ 100000) (hf : L.length = 2048) (hfx : fx = false) (mm : mrkP T k [36] = true) :
    Calls Tryz.prog 91 #[.pointer (some ⟨p, 0, none⟩), .string name] W (LVE p tb off cap T fx W v op (.error (4, k))) := by
  have HV0 : Hid (LV p tb off cap T fx W v v L k op W) := Lib.hid ⟨h, hown, VK.refl _ _ _, fun k hk => Or.inl hk⟩
  have HLK := Lib.hid (fun (W : World) (hW : LS p tb off cap T fx k op v W) => l_look W hW)
  have HIS := Lib.hid (fun (s : ByteArray) (W : World) (hW : LS p tb off cap T fx k op v W) => l_is s W hW)
  have HNO := Lib.hid (fun (e : Int) (W : World) (hW : LS p tb off cap T fx k op v W) => l_no e W hW)
  have hw1 : IntKind.i64.wrap ((k : Int) + 1) = (k : Int) + 1 := IntWalk.i64_in _ (by omega)
  have hvl : ∃ a n c, v = .slice a n c ∧ n = L.length := by
    rcases HV0.out.own.2 with ⟨h1, h2⟩ | ⟨g, cap, cur, h1, _⟩
    · exact ⟨none, 0, 0, h1, h2.symm⟩
    · exact ⟨_, _, _, h1, rfl⟩
  obtain ⟨av, nv, cv, rfl, hnv⟩ := hvl
  have HNV := Lib.hid hnv
  have hnv8 : nv ≤ 2048 := by omega
  clear h hown
  subst hfx
  have tf : ((nv : Int) == 2048) = true := by rw [beq_iff_eq]; omega
  have hkk := (mrk_one mm).1
  have m91 : mrkP T k [91] = false := mrk_ne mm (by decide)
  have m123 : mrkP T k [123] = false := mrk_ne mm (by decide)
  have m36 : mrkP T k [36] = true := mm
  have H91 : Hid (∀ W', LS p tb off cap T false k op (.slice av nv cv) W' → Calls Tryz.prog 82 #[.pointer (some ⟨p, 0, none⟩), .int .u8 4, .string ⟨#[91]⟩] W' fun x w' => x = .returned (.bool false) ∧ Below W'.heap.size W' w') := Lib.hid fun W' hW => by
    have := HIS.out ⟨#[91]⟩ W' hW
    rw [show (⟨#[91]⟩ : ByteArray).data.toList = [91] from rfl, m91] at this; exact this
  have H123 : Hid (∀ W', LS p tb off cap T false k op (.slice av nv cv) W' → Calls Tryz.prog 82 #[.pointer (some ⟨p, 0, none⟩), .int .u8 4, .string ⟨#[123]⟩] W' fun x w' => x = .returned (.bool false) ∧ Below W'.heap.size W' w') := Lib.hid fun W' hW => by
    have := HIS.out ⟨#[123]⟩ W' hW
    rw [show (⟨#[123]⟩ : ByteArray).data.toList = [123] from rfl, m123] at this; exact this
  have H36 : Hid (∀ W', LS p tb off cap T false k op (.slice av nv cv) W' → Calls Tryz.prog 82 #[.pointer (some ⟨p, 0, none⟩), .int .u8 4, .string ⟨#[36]⟩] W' fun x w' => x = .returned (.bool true) ∧ Below W'.heap.size W' w') := Lib.hid fun W' hW => by
    have := HIS.out ⟨#[36]⟩ W' hW
    rw [show (⟨#[36]⟩ : ByteArray).data.toList = [36] from rfl, m36] at this; exact this
  obtain ⟨kd, hkd⟩ : ∃ kd : Int, ((lookP T k).kind.toNat : Int) = kd := ⟨_, rfl⟩
  obtain ⟨tb0, htb0⟩ : ∃ b : ByteArray, (⟨(lookP T k).text.toArray⟩ : ByteArray) = b := ⟨_, rfl⟩
  obtain ⟨ps, hps⟩ : ∃ ps : Int, (lookP T k).pos = ps := ⟨_, rfl⟩
  have HTX : Hid (tb0.data.toList = (lookP T k).text) := Lib.hid (by rw [← htb0])
  have HTB := Lib.hid htb0
  unfold tokW at HLK
  rw [hkd, htb0, hps] at HLK
  have hkd2 : kd = 4 := by rw [← hkd, hkk]; rfl
  subst hkd2
  clear hkd htb0 hps hkk hnv mm m91 m123 m36
  go_enter Tryz.func91, Tryz.ntmps91
  go_wp2_with fail
  refine (HLK.out _ HV0.out.st).mono ?_; rintro x w1 ⟨rfl, hb⟩
  have HV1 := Lib.hid ((HV0.out.below hb).alloc (.cells #[.int .u8 4, .string tb0, .int .i64 ps] 72 (0, 0)))
  have HA1 : Hid ((w1.alloc (.cells #[.int .u8 4, .string tb0, .int .i64 ps] 72 (0, 0))).heap[w1.heap.size]? = some (.cells #[.int .u8 4, .string tb0, .int .i64 ps] 72 (0, 0))) := Lib.hid (heap_alloc_last _ _)
  obtain ⟨A, hA⟩ : ∃ A, w1.heap.size = A := ⟨_, rfl⟩
  rw [hA] at HA1
  have HAZ := Lib.hid hA
  clear hb
  go_wp2_with fail
  refine (H91.out _ HV1.out.st).mono ?_; rintro x w2 ⟨rfl, hb⟩
  have HV2 := Lib.hid (HV1.out.below hb)
  have HA2 := Lib.hid ((hb.block A (heap_lt HA1.out)).trans HA1.out)
  clear hb
  go_wp2_with fail
  refine (H123.out _ HV2.out.st).mono ?_; rintro x w3 ⟨rfl, hb⟩
  have HV3 := Lib.hid (HV2.out.below hb)
  have HA3 := Lib.hid ((hb.block A (heap_lt HA2.out)).trans HA2.out)
  clear hb
  obtain ⟨c0, c1, c2, c3, c4⟩ := HV3.out.st.cells
  go_wp2_with fail
  refine (H36.out _ HV3.out.st).mono ?_; rintro x w4 ⟨rfl, hb⟩
  have HV4 := Lib.hid (HV3.out.below hb)
  have HA4 := Lib.hid ((hb.block A (heap_lt HA3.out)).trans HA3.out)
  clear hb
  clear c0 c1 c2 c3 c4
  obtain ⟨c0, c1, c2, c3, c4⟩ := HV4.out.st.cells
  obtain ⟨a0, a1, a2⟩ := tcells HA4.out
  have hA4 : A < w4.heap.size := heap_lt HA4.out
  have hp4 : p < w4.heap.size := HV4.out.st.lt
  go_wp2_with fail
  have hpy : p ≤ w4.heap.size := Nat.le_of_lt hp4
  refine (HNO.out _ _ HV4.out.st).mono ?_; rintro x y4 ⟨rfl, hb⟩
  have HB9 := Lib.hid (HV4.out.vk.1.trans (hb.mono hpy))
  clear hb
  go_wp2_with fail
  exact ⟨rfl, rfl, HB9.out⟩
end Go.Proofs.YtgaknbnhmoddcaaGreatDoor
namespace Go.Proofs.YtgaknbnhmoddcaaGreatDoor
open Go.RowKit Go.Lib
set_option maxRecDepth 100000 in
set_option maxHeartbeats 4000000 in
theorem l_value_var_no {p tb off cap : Nat} {T : List Tok} {fx : Bool} {k : Nat} {op : Int} (v : Value) (L : List Cel) (name : ByteArray) (W : World) (h : LS p tb off cap T fx k op v W) (hown : OwnC (p + 1) v L W) (hL : L.length ≤ 2048) (hk : k ≤ 100000) (hf : L.length ≠ 2048) (hfx : fx = false) (mm : mrkP T k [36] = true) (e : ErrP) (hnm : namP [] T (k + 1) = .error e) :
    Calls Tryz.prog 91 #[.pointer (some ⟨p, 0, none⟩), .string name] W (LVE p tb off cap T fx W v op (.error e)) := by
  have HV0 : Hid (LV p tb off cap T fx W v v L k op W) := Lib.hid ⟨h, hown, VK.refl _ _ _, fun k hk => Or.inl hk⟩
  have HLK := Lib.hid (fun (W : World) (hW : LS p tb off cap T fx k op v W) => l_look W hW)
  have HIS := Lib.hid (fun (s : ByteArray) (W : World) (hW : LS p tb off cap T fx k op v W) => l_is s W hW)
  have HNO := Lib.hid (fun (e : Int) (W : World) (hW : LS p tb off cap T fx k op v W) => l_no e W hW)
  have hw1 : IntKind.i64.wrap ((k : Int) + 1) = (k : Int) + 1 := IntWalk.i64_in _ (by omega)
  have hvl : ∃ a n c, v = .slice a n c ∧ n = L.length := by
    rcases HV0.out.own.2 with ⟨h1, h2⟩ | ⟨g, cap, cur, h1, _⟩
    · exact ⟨none, 0, 0, h1, h2.symm⟩
    · exact ⟨_, _, _, h1, rfl⟩
  obtain ⟨av, nv, cv, rfl, hnv⟩ := hvl
  have HNV := Lib.hid hnv
  have hnv8 : nv ≤ 2048 := by omega
  clear h hown
  subst hfx
  have hL2 : nv ≤ 2047 := by omega
  have tf : ((nv : Int) == 2048) = false := by rw [beq_eq_false_iff_ne]; omega
  have hkT : k < T.length := by
    rcases Nat.lt_or_ge k T.length with h | h
    · exact h
    · have := (mrk_one mm).1
      rw [lookP_out (by omega)] at this; cases this
  have hk9 : k + 1 ≤ 100000 := by have := HV0.out.st.2.2.2.1.1; omega
  have HNM : Hid (∀ W', LS p tb off cap T false (k + 1) op (.slice av nv cv) W' → Calls Tryz.prog 86 #[.pointer (some ⟨p, 0, none⟩), .map none] W' fun x w' => x = .panicked (stopP e) ∧ Below p W' w') := Lib.hid fun W' hW => by
    have := l_name0 W' hW hk9
    rw [hnm] at this; exact this
  clear hkT hnm
  have hkk := (mrk_one mm).1
  have m91 : mrkP T k [91] = false := mrk_ne mm (by decide)
  have m123 : mrkP T k [123] = false := mrk_ne mm (by decide)
  have m36 : mrkP T k [36] = true := mm
  have H91 : Hid (∀ W', LS p tb off cap T false k op (.slice av nv cv) W' → Calls Tryz.prog 82 #[.pointer (some ⟨p, 0, none⟩), .int .u8 4, .string ⟨#[91]⟩] W' fun x w' => x = .returned (.bool false) ∧ Below W'.heap.size W' w') := Lib.hid fun W' hW => by
    have := HIS.out ⟨#[91]⟩ W' hW
    rw [show (⟨#[91]⟩ : ByteArray).data.toList = [91] from rfl, m91] at this; exact this
  have H123 : Hid (∀ W', LS p tb off cap T false k op (.slice av nv cv) W' → Calls Tryz.prog 82 #[.pointer (some ⟨p, 0, none⟩), .int .u8 4, .string ⟨#[123]⟩] W' fun x w' => x = .returned (.bool false) ∧ Below W'.heap.size W' w') := Lib.hid fun W' hW => by
    have := HIS.out ⟨#[123]⟩ W' hW
    rw [show (⟨#[123]⟩ : ByteArray).data.toList = [123] from rfl, m123] at this; exact this
  have H36 : Hid (∀ W', LS p tb off cap T false k op (.slice av nv cv) W' → Calls Tryz.prog 82 #[.pointer (some ⟨p, 0, none⟩), .int .u8 4, .string ⟨#[36]⟩] W' fun x w' => x = .returned (.bool true) ∧ Below W'.heap.size W' w') := Lib.hid fun W' hW => by
    have := HIS.out ⟨#[36]⟩ W' hW
    rw [show (⟨#[36]⟩ : ByteArray).data.toList = [36] from rfl, m36] at this; exact this
  obtain ⟨kd, hkd⟩ : ∃ kd : Int, ((lookP T k).kind.toNat : Int) = kd := ⟨_, rfl⟩
  obtain ⟨tb0, htb0⟩ : ∃ b : ByteArray, (⟨(lookP T k).text.toArray⟩ : ByteArray) = b := ⟨_, rfl⟩
  obtain ⟨ps, hps⟩ : ∃ ps : Int, (lookP T k).pos = ps := ⟨_, rfl⟩
  have HTX : Hid (tb0.data.toList = (lookP T k).text) := Lib.hid (by rw [← htb0])
  have HTB := Lib.hid htb0
  unfold tokW at HLK
  rw [hkd, htb0, hps] at HLK
  have hkd2 : kd = 4 := by rw [← hkd, hkk]; rfl
  subst hkd2
  clear hkd htb0 hps hkk hnv mm m91 m123 m36
  go_enter Tryz.func91, Tryz.ntmps91
  go_wp2_with fail
  refine (HLK.out _ HV0.out.st).mono ?_; rintro x w1 ⟨rfl, hb⟩
  have HV1 := Lib.hid ((HV0.out.below hb).alloc (.cells #[.int .u8 4, .string tb0, .int .i64 ps] 72 (0, 0)))
  have HA1 : Hid ((w1.alloc (.cells #[.int .u8 4, .string tb0, .int .i64 ps] 72 (0, 0))).heap[w1.heap.size]? = some (.cells #[.int .u8 4, .string tb0, .int .i64 ps] 72 (0, 0))) := Lib.hid (heap_alloc_last _ _)
  obtain ⟨A, hA⟩ : ∃ A, w1.heap.size = A := ⟨_, rfl⟩
  rw [hA] at HA1
  have HAZ := Lib.hid hA
  clear hb
  go_wp2_with fail
  refine (H91.out _ HV1.out.st).mono ?_; rintro x w2 ⟨rfl, hb⟩
  have HV2 := Lib.hid (HV1.out.below hb)
  have HA2 := Lib.hid ((hb.block A (heap_lt HA1.out)).trans HA1.out)
  clear hb
  go_wp2_with fail
  refine (H123.out _ HV2.out.st).mono ?_; rintro x w3 ⟨rfl, hb⟩
  have HV3 := Lib.hid (HV2.out.below hb)
  have HA3 := Lib.hid ((hb.block A (heap_lt HA2.out)).trans HA2.out)
  clear hb
  obtain ⟨c0, c1, c2, c3, c4⟩ := HV3.out.st.cells
  go_wp2_with fail
  refine (H36.out _ HV3.out.st).mono ?_; rintro x w4 ⟨rfl, hb⟩
  have HV4 := Lib.hid (HV3.out.below hb)
  have HA4 := Lib.hid ((hb.block A (heap_lt HA3.out)).trans HA3.out)
  clear hb
  clear c0 c1 c2 c3 c4
  obtain ⟨c0, c1, c2, c3, c4⟩ := HV4.out.st.cells
  obtain ⟨a0, a1, a2⟩ := tcells HA4.out
  have hA4 : A < w4.heap.size := heap_lt HA4.out
  have hp4 : p < w4.heap.size := HV4.out.st.lt
  have f1 := HV4.out.st.frozen 1
  go_wp2_with fail
  have HV8 := Lib.hid ((HV4.out.go (k + 1) (by omega)).alloc (.cells #[.int .u8 5, .string name, .string ⟨#[]⟩, .int .i64 0, .int .i64 0] 63 (0, 0)))
  refine (HNM.out _ HV8.out.st).mono ?_; rintro x y4 ⟨rfl, hb⟩
  have HB9 := Lib.hid (HV8.out.vk.1.trans hb)
  clear hb
  go_wp2_with fail
  exact ⟨rfl, rfl, HB9.out⟩
end Go.Proofs.YtgaknbnhmoddcaaGreatDoor
namespace Go.Proofs.YtgaknbnhmoddcaaGreatDoor
open Go.RowKit Go.Lib
theorem LV.other {p tb off cap : Nat} {T : List Tok} {fx : Bool} {w : World} {v0 v : Value} {out : List Cel} {k : Nat} {op : Int} {W : World} (h : LV p tb off cap T fx w v0 v out k op W) (C i : Nat) (u : Value) (hC : w.heap.size ≤ C) (hp : p < C) (hv : v.ownBlock ≠ some C) : LV p tb off cap T fx w v0 v out k op (W.setCell ⟨C, i, none⟩ u) := by
  have htb := h.st.2.2.1
  refine ⟨h.st.same ?_ ?_, h.own.mk (m := C) ⟨(Below.refl p W).setCell (p := ⟨C, i, none⟩) (Nat.le_of_lt hp) u, fun k o hk h1 h2 => ?_⟩ (Nat.lt_succ_self p) hv, ⟨h.vk.1.setCell (p := ⟨C, i, none⟩) (Nat.le_of_lt hp) u, fun k o hk h1 h2 => ?_⟩, h.ob⟩
  · exact Below.heap_setCell _ _ _ _ (by show p ≠ C; omega)
  · exact Below.heap_setCell _ _ _ _ (by show tb ≠ C; omega)
  · rw [Below.heap_setCell _ _ _ _ (by show k ≠ C; exact h2)]; exact hk
  · rw [Below.heap_setCell _ _ _ _ (by show k ≠ C; have := heap_lt hk; omega)]; exact h.vk.2 k o hk h1 h2
set_option maxRecDepth 100000 in
set_option maxHeartbeats 4000000 in
theorem l_value_int {p tb off cap : Nat} {T : List Tok} {fx : Bool} {k : Nat} {op : Int} (v : Value) (L : List Cel) (name : ByteArray) (W : World) (h : LS p tb off cap T fx k op v W) (hown : OwnC (p + 1) v L W) (hL : L.length ≤ 2048) (hk : k ≤ 100000) (hE : ∀ W', Below p W W' → Env W') (hf : L.length ≠ 2048) (hkk : (lookP T k).kind = 2) (hre : rdE (lookP T k).text = 0) :
    Calls Tryz.prog 91 #[.pointer (some ⟨p, 0, none⟩), .string name] W (LVE p tb off cap T fx W v op (.ok (k + 1, L ++ [⟨2, name.data.toList, [], rdV (lookP T k).text, 0⟩]))) := by
  have HV0 : Hid (LV p tb off cap T fx W v v L k op W) := Lib.hid ⟨h, hown, VK.refl _ _ _, fun k hk => Or.inl hk⟩
  have HLK := Lib.hid (fun (W : World) (hW : LS p tb off cap T fx k op v W) => l_look W hW)
  have HIS := Lib.hid (fun (s : ByteArray) (W : World) (hW : LS p tb off cap T fx k op v W) => l_is s W hW)
  have HNO := Lib.hid (fun (e : Int) (W : World) (hW : LS p tb off cap T fx k op v W) => l_no e W hW)
  have hw1 : IntKind.i64.wrap ((k : Int) + 1) = (k : Int) + 1 := IntWalk.i64_in _ (by omega)
  have hvl : ∃ a n c, v = .slice a n c ∧ n = L.length := by
    rcases HV0.out.own.2 with ⟨h1, h2⟩ | ⟨g, cap, cur, h1, _⟩
    · exact ⟨none, 0, 0, h1, h2.symm⟩
    · exact ⟨_, _, _, h1, rfl⟩
  obtain ⟨av, nv, cv, rfl, hnv⟩ := hvl
  have HNV := Lib.hid hnv
  have hnv8 : nv ≤ 2048 := by omega
  clear h hown
  have hz := lookP_small (HV0.out.st.2.2.2.1.2) k
  have HEE := Lib.hid hE
  clear hE
  have hL2 : nv ≤ 2047 := by omega
  have tf : ((nv : Int) == 2048) = false := by rw [beq_eq_false_iff_ne]; omega
  have hno := mrk_no (T := T) (k := k) (by rw [hkk]; decide)
  simp only [hno] at HIS
  obtain ⟨kd, hkd⟩ : ∃ kd : Int, ((lookP T k).kind.toNat : Int) = kd := ⟨_, rfl⟩
  obtain ⟨tb0, htb0⟩ : ∃ b : ByteArray, (⟨(lookP T k).text.toArray⟩ : ByteArray) = b := ⟨_, rfl⟩
  obtain ⟨ps, hps⟩ : ∃ ps : Int, (lookP T k).pos = ps := ⟨_, rfl⟩
  have HTX : Hid (tb0.data.toList = (lookP T k).text) := Lib.hid (by rw [← htb0])
  have HTB := Lib.hid htb0
  unfold tokW at HLK
  rw [hkd, htb0, hps] at HLK
  have hkd2 : kd = 2 := by rw [← hkd, hkk]; rfl
  subst hkd2
  clear hkd htb0 hps hkk hno hnv
  obtain ⟨nn, hnn⟩ : ∃ n : Int, rdV (lookP T k).text = n := ⟨_, rfl⟩
  obtain ⟨ee, hee⟩ : ∃ e : Int, rdE (lookP T k).text = e := ⟨_, rfl⟩
  have HRD : Hid (∀ W', Env W' → Calls Tryz.prog 111 #[.string tb0] W' fun x w' => x = .returned (.tuple #[.int .i64 nn, .int .i64 ee]) ∧ Below W'.heap.size W' w') := Lib.hid fun W' he => by
    have := read_any tb0 (by rw [← bsz, HTX.out]; omega) W' he
    rw [HTX.out, hnn, hee] at this; exact this
  rw [hee] at hre
  clear hz hee
  subst hre
  rw [hnn]
  clear hnn
  cases fx
  case' true =>
    go_enter Tryz.func91, Tryz.ntmps91
    go_wp2_with fail
    refine (HLK.out _ HV0.out.st).mono ?_; rintro x w1 ⟨rfl, hb⟩
    have HV1 := Lib.hid ((HV0.out.below hb).alloc (.cells #[.int .u8 2, .string tb0, .int .i64 ps] 72 (0, 0)))
    have HA1 : Hid ((w1.alloc (.cells #[.int .u8 2, .string tb0, .int .i64 ps] 72 (0, 0))).heap[w1.heap.size]? = some (.cells #[.int .u8 2, .string tb0, .int .i64 ps] 72 (0, 0))) := Lib.hid (heap_alloc_last _ _)
    obtain ⟨A, hA⟩ : ∃ A, w1.heap.size = A := ⟨_, rfl⟩
    rw [hA] at HA1
    have HAZ := Lib.hid hA
    clear hb
    go_wp2_with fail
    refine (HIS.out _ _ HV1.out.st).mono ?_; rintro x w2 ⟨rfl, hb⟩
    have HV2 := Lib.hid (HV1.out.below hb)
    have HA2 := Lib.hid ((hb.block A (heap_lt HA1.out)).trans HA1.out)
    clear hb
    go_wp2_with fail
    refine (HIS.out _ _ HV2.out.st).mono ?_; rintro x w4 ⟨rfl, hb⟩
    have HV4 := Lib.hid (HV2.out.below hb)
    have HA4 := Lib.hid ((hb.block A (heap_lt HA2.out)).trans HA2.out)
    clear hb
  case' false =>
    go_enter Tryz.func91, Tryz.ntmps91
    go_wp2_with fail
    refine (HLK.out _ HV0.out.st).mono ?_; rintro x w1 ⟨rfl, hb⟩
    have HV1 := Lib.hid ((HV0.out.below hb).alloc (.cells #[.int .u8 2, .string tb0, .int .i64 ps] 72 (0, 0)))
    have HA1 : Hid ((w1.alloc (.cells #[.int .u8 2, .string tb0, .int .i64 ps] 72 (0, 0))).heap[w1.heap.size]? = some (.cells #[.int .u8 2, .string tb0, .int .i64 ps] 72 (0, 0))) := Lib.hid (heap_alloc_last _ _)
    obtain ⟨A, hA⟩ : ∃ A, w1.heap.size = A := ⟨_, rfl⟩
    rw [hA] at HA1
    have HAZ := Lib.hid hA
    clear hb
    go_wp2_with fail
    refine (HIS.out _ _ HV1.out.st).mono ?_; rintro x w2 ⟨rfl, hb⟩
    have HV2 := Lib.hid (HV1.out.below hb)
    have HA2 := Lib.hid ((hb.block A (heap_lt HA1.out)).trans HA1.out)
    clear hb
    go_wp2_with fail
    refine (HIS.out _ _ HV2.out.st).mono ?_; rintro x w3 ⟨rfl, hb⟩
    have HV3 := Lib.hid (HV2.out.below hb)
    have HA3 := Lib.hid ((hb.block A (heap_lt HA2.out)).trans HA2.out)
    clear hb
    obtain ⟨c0, c1, c2, c3, c4⟩ := HV3.out.st.cells
    go_wp2_with fail
    refine (HIS.out _ _ HV3.out.st).mono ?_; rintro x w4 ⟨rfl, hb⟩
    have HV4 := Lib.hid (HV3.out.below hb)
    have HA4 := Lib.hid ((hb.block A (heap_lt HA3.out)).trans HA3.out)
    clear hb
    clear c0 c1 c2 c3 c4
  all_goals
    obtain ⟨c0, c1, c2, c3, c4⟩ := HV4.out.st.cells
    obtain ⟨a0, a1, a2⟩ := tcells HA4.out
    have hA4 : A < w4.heap.size := heap_lt HA4.out
    have hp4 : p < w4.heap.size := HV4.out.st.lt
    go_wp2_with fail
    obtain ⟨C, hC⟩ : ∃ C, w4.heap.size = C := ⟨_, rfl⟩
    have HVc := Lib.hid (HV4.out.alloc (.cells #[.int .u8 0, .string name, .string ⟨#[]⟩, .int .i64 0, .int .i64 0] 63 (0, 0)))
    have HCc : Hid ((w4.alloc (.cells #[.int .u8 0, .string name, .string ⟨#[]⟩, .int .i64 0, .int .i64 0] 63 (0, 0))).heap[C]? = some (.cells #[.int .u8 0, .string name, .string ⟨#[]⟩, .int .i64 0, .int .i64 0] 63 (0, 0))) := Lib.hid (by rw [← hC]; exact heap_alloc_last _ _)
    have hov : (Value.slice av nv cv).ownBlock ≠ some C := fun e => by have := (World.ownsRow.lt HV4.out.own C e).2; omega
    have hpC : p < C := by rw [← hC]; exact hp4
    have hWC : W.heap.size ≤ C := by rw [← hC]; exact HV4.out.size
    refine (HRD.out _ (HEE.out _ HVc.out.vk.1)).mono ?_; rintro x y3 ⟨rfl, hb⟩
    have HV9 := Lib.hid (HVc.out.below hb)
    have HC9 := Lib.hid ((hb.block C (heap_lt HCc.out)).trans HCc.out)
    rw [hC]
    clear hb c0 c1 c2 c3 c4 a0 a1 a2 hA4 hp4
    have hcn : C ≠ p := by omega
    obtain ⟨c0, c1, c2, c3, c4⟩ := HV9.out.st.cells
    obtain ⟨q0, q1, q2, q3, q4⟩ := ccells HC9.out
    have f1 := HV9.out.st.frozen 1
    have g0 := Lib.frozen_of_heap HC9.out 0
    have g3 := Lib.frozen_of_heap HC9.out 3
    obtain ⟨y5, hy5⟩ : ∃ y5, ((y3.setCell ⟨C, 0, none⟩ (.int .u8 2)).setCell ⟨C, 3, none⟩ (.int .i64 nn)).setCell ⟨p, 1, none⟩ (.int .i64 ((k : Int) + 1)) = y5 := ⟨_, rfl⟩
    have HY5 := Lib.hid (((HV9.out.other C 0 (.int .u8 2) hWC hpC hov).other C 3 (.int .i64 nn) hWC hpC hov).go (k + 1) (by omega))
    have HC5 : Hid (y5.heap[C]? = some (.cells #[.int .u8 2, .string name, .string ⟨#[]⟩, .int .i64 nn, .int .i64 0] 63 (0, 0))) := Lib.hid (by rw [← hy5, Below.heap_setCell _ _ _ _ (by show C ≠ p; omega)]; exact pset (pset HC9.out _ rfl) _ rfl)
    rw [show ((y3.setCell ⟨C, 0, none⟩ (.int .u8 2)).setCell ⟨C, 3, none⟩ (.int .i64 nn)).setCell ⟨p, 1, none⟩ (.int .i64 ((k + 1 : Nat) : Int)) = y5 from hy5] at HY5
    have HW5 := Lib.hid hy5
    clear hy5 hC
    go_wp2_with fail
    try rw [HW5.out]
    clear c0 c1 c2 c3 c4 f1 q0 q1 q2 q3 q4 g0 g3
    have hlt5 := HY5.out.st.lt
    have hC5 := heap_lt HC5.out
    obtain ⟨_, _, _, _, c4⟩ := HY5.out.st.cells
    have e4 : y5.drew.cell? ⟨p, 4, none⟩ = some (.slice av nv cv) := c4
    have e4' : ∀ o, (y5.drew.alloc o).cell? ⟨p, 4, none⟩ = some (.slice av nv cv) := fun o => by
      rw [World.cell?_alloc_lt _ _ _ (by exact hlt5)]; exact c4
    obtain ⟨q0, q1, q2, q3, q4⟩ := ccells (W := y5.drew) HC5.out
    have HCEL : Hid (celCells ⟨2, name.data.toList, [], nn, 0⟩ = #[.int .u8 2, .string name, .string ⟨#[]⟩, .int .i64 nn, .int .i64 0]) := Lib.hid (by rfl)
    refine wp_region_held_drew (S := fun _ => True) (by kernel_rfl) trivial (fun hHeld => ?_)
    refine tky 0 (some 160) (v := ?_) rfl (by kernel_rfl) (by kernel_rfl) (by kernel_rfl) (fun _ _ _ h => h) ?_ hHeld ?_
    rotate_left
    focus (intro w hSw; go_simp; (try with_reducible rfl); done)
    simp only [Act.put, List.setIfInBounds_toArray, List.set_cons_zero, List.set_cons_succ]
    refine tky 1 (some 161) (v := ?_) rfl (by kernel_rfl) (by kernel_rfl) (by kernel_rfl) (fun _ _ _ h => h) ?_ hHeld ?_
    rotate_left
    focus (intro w hSw; go_simp; (try with_reducible rfl); done)
    simp only [Act.put, List.setIfInBounds_toArray, List.set_cons_zero, List.set_cons_succ]
    refine tky 2 (some 162) (v := ?_) rfl (by kernel_rfl) (by kernel_rfl) (by kernel_rfl) (fun _ _ _ h => h) ?_ hHeld ?_
    rotate_left
    focus (intro w hSw; go_simp; (try with_reducible rfl); done)
    simp only [Act.put, List.setIfInBounds_toArray, List.set_cons_zero, List.set_cons_succ]
    refine tky 3 (some 163) (v := ?_) rfl (by kernel_rfl) (by kernel_rfl) (by kernel_rfl) (fun _ _ _ h => h) ?_ hHeld ?_
    rotate_left
    focus (intro w hSw; go_simp; (try with_reducible rfl); done)
    simp only [Act.put, List.setIfInBounds_toArray, List.set_cons_zero, List.set_cons_succ]
    refine wpAnyH_ready (rs := [4, 5]) (by kernel_rfl) (by simp) ?_
    refine acons 4 rfl (fun K hK => ?_) ?_
    go_simp
    refine hK.out _ _ trivial (fun _ => ?_)
    clear hK K
    (try simp only [Act.put, List.setIfInBounds_toArray, List.set_cons_zero, List.set_cons_succ])
    refine rcons 5 rfl (by kernel_rfl) (fun K hK => ?_)
    go_simp
    refine hK.out _ _ trivial (fun _ => ?_)
    clear hK K
    (try simp only [Act.put, List.setIfInBounds_toArray, List.set_cons_zero, List.set_cons_succ])
    refine rcons 6 rfl (by kernel_rfl) (fun K hK => ?_)
    go_simp
    refine hK.out _ _ trivial (fun _ => ?_)
    clear hK K
    (try simp only [Act.put, List.setIfInBounds_toArray, List.set_cons_zero, List.set_cons_succ])
    rotate_left
    refine acons 5 rfl (fun K hK => ?_) ?_
    go_simp
    refine hK.out _ _ trivial (fun _ => ?_)
    clear hK K
    (try simp only [Act.put, List.setIfInBounds_toArray, List.set_cons_zero, List.set_cons_succ])
    refine wpAnyH_ready (rs := [4, 6]) (by kernel_rfl) (by simp) ?_
    refine acons 4 rfl (fun K hK => ?_) ?_
    go_simp
    refine hK.out _ _ trivial (fun _ => ?_)
    clear hK K
    (try simp only [Act.put, List.setIfInBounds_toArray, List.set_cons_zero, List.set_cons_succ])
    refine rcons 6 rfl (by kernel_rfl) (fun K hK => ?_)
    go_simp
    refine hK.out _ _ trivial (fun _ => ?_)
    clear hK K
    (try simp only [Act.put, List.setIfInBounds_toArray, List.set_cons_zero, List.set_cons_succ])
    rotate_left
    refine acons 6 rfl (fun K hK => ?_) ?_
    go_simp
    refine hK.out _ _ trivial (fun _ => ?_)
    clear hK K
    (try simp only [Act.put, List.setIfInBounds_toArray, List.set_cons_zero, List.set_cons_succ])
    refine rcons 4 rfl (by kernel_rfl) (fun K hK => ?_)
    go_simp
    refine hK.out _ _ trivial (fun _ => ?_)
    clear hK K
    (try simp only [Act.put, List.setIfInBounds_toArray, List.set_cons_zero, List.set_cons_succ])
    rotate_left
    exact AllReadyH.nil
    exact AllReadyH.nil
    all_goals
      refine rcons 7 rfl (by kernel_rfl) (fun K hK => ?_)
      rw [if_pos]
      rotate_left
      focus kernel_rfl
      refine wp_pushL _ _ rfl (p + 1) (.slice av nv cv) L rfl (by exact ((HY5.out.drewN 1).alloc _).own) y5.heap.size 1 ⟨2, name.data.toList, [], nn, 0⟩ rfl (by rw [HCEL.out]; exact heap_alloc_last y5.drew _) (by omega) (by show _ ≤ Array.size _; simp; omega) ?_
      intro v' y6 hown' hgrow hat
      obtain ⟨g6, cap6, hvg, -⟩ := hown'.form L.length (by simp)
      generalize (L ++ [(⟨2, name.data.toList, [], nn, 0⟩ : Cel)]).length = n6 at hvg
      subst hvg
      obtain ⟨hst6, hy6⟩ := LV.grown ((HY5.out.drewN 1).alloc _) hown' hgrow hat rfl
      have HY6 := Lib.hid hy6
      obtain ⟨_, _, _, _, g4⟩ := hst6.cells
      have f6 := hst6.frozen 4
      clear hown' hgrow hat hst6 hy6
      (try dsimp only)
      refine hK.out _ _ trivial (fun _ => ?_)
      clear hK K
      (try simp only [Act.put, List.setIfInBounds_toArray, List.set_cons_zero, List.set_cons_succ])
      refine tky 8 (some 168) (v := ?_) rfl (by kernel_rfl) (by kernel_rfl) (by kernel_rfl) (fun _ _ _ h => h) ?_ hHeld ?_
      rotate_left
      focus (intro w hSw; go_simp; (try with_reducible rfl); done)
      simp only [Act.put, List.setIfInBounds_toArray, List.set_cons_zero, List.set_cons_succ]
      refine tky 9 (some 169) (v := ?_) rfl (by kernel_rfl) (by kernel_rfl) (by kernel_rfl) (fun _ _ _ h => h) ?_ hHeld ?_
      rotate_left
      focus (intro w hSw; go_simp; (try with_reducible rfl); done)
      simp only [Act.put, List.setIfInBounds_toArray, List.set_cons_zero, List.set_cons_succ]
      refine rcons 10 rfl (by kernel_rfl) (fun K hK => ?_)
      go_simp
      refine hK.out _ _ trivial (fun _ => ?_)
      clear hK K
      (try simp only [Act.put, List.setIfInBounds_toArray, List.set_cons_zero, List.set_cons_succ])
      refine wpAnyH_done (by kernel_rfl) ?_ _
      go_wp2_with fail
      go_end0
      exact ⟨rfl, by simp; omega, _, HY6.out⟩
set_option maxRecDepth 100000 in
set_option maxHeartbeats 4000000 in
theorem l_value_int_no {p tb off cap : Nat} {T : List Tok} {fx : Bool} {k : Nat} {op : Int} (v : Value) (L : List Cel) (name : ByteArray) (W : World) (h : LS p tb off cap T fx k op v W) (hown : OwnC (p + 1) v L W) (hL : L.length ≤ 2048) (hk : k ≤ 100000) (hE : ∀ W', Below p W W' → Env W') (hf : L.length ≠ 2048) (hkk : (lookP T k).kind = 2) (hre : rdE (lookP T k).text ≠ 0) :
    Calls Tryz.prog 91 #[.pointer (some ⟨p, 0, none⟩), .string name] W (LVE p tb off cap T fx W v op (.error (41, k))) := by
  have HV0 : Hid (LV p tb off cap T fx W v v L k op W) := Lib.hid ⟨h, hown, VK.refl _ _ _, fun k hk => Or.inl hk⟩
  have HLK := Lib.hid (fun (W : World) (hW : LS p tb off cap T fx k op v W) => l_look W hW)
  have HIS := Lib.hid (fun (s : ByteArray) (W : World) (hW : LS p tb off cap T fx k op v W) => l_is s W hW)
  have HNO := Lib.hid (fun (e : Int) (W : World) (hW : LS p tb off cap T fx k op v W) => l_no e W hW)
  have hw1 : IntKind.i64.wrap ((k : Int) + 1) = (k : Int) + 1 := IntWalk.i64_in _ (by omega)
  have hvl : ∃ a n c, v = .slice a n c ∧ n = L.length := by
    rcases HV0.out.own.2 with ⟨h1, h2⟩ | ⟨g, cap, cur, h1, _⟩
    · exact ⟨none, 0, 0, h1, h2.symm⟩
    · exact ⟨_, _, _, h1, rfl⟩
  obtain ⟨av, nv, cv, rfl, hnv⟩ := hvl
  have HNV := Lib.hid hnv
  have hnv8 : nv ≤ 2048 := by omega
  clear h hown
  have hz := lookP_small (HV0.out.st.2.2.2.1.2) k
  have HEE := Lib.hid hE
  clear hE
  have hL2 : nv ≤ 2047 := by omega
  have tf : ((nv : Int) == 2048) = false := by rw [beq_eq_false_iff_ne]; omega
  have hno := mrk_no (T := T) (k := k) (by rw [hkk]; decide)
  simp only [hno] at HIS
  obtain ⟨kd, hkd⟩ : ∃ kd : Int, ((lookP T k).kind.toNat : Int) = kd := ⟨_, rfl⟩
  obtain ⟨tb0, htb0⟩ : ∃ b : ByteArray, (⟨(lookP T k).text.toArray⟩ : ByteArray) = b := ⟨_, rfl⟩
  obtain ⟨ps, hps⟩ : ∃ ps : Int, (lookP T k).pos = ps := ⟨_, rfl⟩
  have HTX : Hid (tb0.data.toList = (lookP T k).text) := Lib.hid (by rw [← htb0])
  have HTB := Lib.hid htb0
  unfold tokW at HLK
  rw [hkd, htb0, hps] at HLK
  have hkd2 : kd = 2 := by rw [← hkd, hkk]; rfl
  subst hkd2
  clear hkd htb0 hps hkk hno hnv
  obtain ⟨nn, hnn⟩ : ∃ n : Int, rdV (lookP T k).text = n := ⟨_, rfl⟩
  obtain ⟨ee, hee⟩ : ∃ e : Int, rdE (lookP T k).text = e := ⟨_, rfl⟩
  have HRD : Hid (∀ W', Env W' → Calls Tryz.prog 111 #[.string tb0] W' fun x w' => x = .returned (.tuple #[.int .i64 nn, .int .i64 ee]) ∧ Below W'.heap.size W' w') := Lib.hid fun W' he => by
    have := read_any tb0 (by rw [← bsz, HTX.out]; omega) W' he
    rw [HTX.out, hnn, hee] at this; exact this
  rw [hee] at hre
  clear hz hee
  have te : (ee == 0) = false := by rw [beq_eq_false_iff_ne]; exact hre
  clear hnn
  cases fx
  case' true =>
    go_enter Tryz.func91, Tryz.ntmps91
    go_wp2_with fail
    refine (HLK.out _ HV0.out.st).mono ?_; rintro x w1 ⟨rfl, hb⟩
    have HV1 := Lib.hid ((HV0.out.below hb).alloc (.cells #[.int .u8 2, .string tb0, .int .i64 ps] 72 (0, 0)))
    have HA1 : Hid ((w1.alloc (.cells #[.int .u8 2, .string tb0, .int .i64 ps] 72 (0, 0))).heap[w1.heap.size]? = some (.cells #[.int .u8 2, .string tb0, .int .i64 ps] 72 (0, 0))) := Lib.hid (heap_alloc_last _ _)
    obtain ⟨A, hA⟩ : ∃ A, w1.heap.size = A := ⟨_, rfl⟩
    rw [hA] at HA1
    have HAZ := Lib.hid hA
    clear hb
    go_wp2_with fail
    refine (HIS.out _ _ HV1.out.st).mono ?_; rintro x w2 ⟨rfl, hb⟩
    have HV2 := Lib.hid (HV1.out.below hb)
    have HA2 := Lib.hid ((hb.block A (heap_lt HA1.out)).trans HA1.out)
    clear hb
    go_wp2_with fail
    refine (HIS.out _ _ HV2.out.st).mono ?_; rintro x w4 ⟨rfl, hb⟩
    have HV4 := Lib.hid (HV2.out.below hb)
    have HA4 := Lib.hid ((hb.block A (heap_lt HA2.out)).trans HA2.out)
    clear hb
  case' false =>
    go_enter Tryz.func91, Tryz.ntmps91
    go_wp2_with fail
    refine (HLK.out _ HV0.out.st).mono ?_; rintro x w1 ⟨rfl, hb⟩
    have HV1 := Lib.hid ((HV0.out.below hb).alloc (.cells #[.int .u8 2, .string tb0, .int .i64 ps] 72 (0, 0)))
    have HA1 : Hid ((w1.alloc (.cells #[.int .u8 2, .string tb0, .int .i64 ps] 72 (0, 0))).heap[w1.heap.size]? = some (.cells #[.int .u8 2, .string tb0, .int .i64 ps] 72 (0, 0))) := Lib.hid (heap_alloc_last _ _)
    obtain ⟨A, hA⟩ : ∃ A, w1.heap.size = A := ⟨_, rfl⟩
    rw [hA] at HA1
    have HAZ := Lib.hid hA
    clear hb
    go_wp2_with fail
    refine (HIS.out _ _ HV1.out.st).mono ?_; rintro x w2 ⟨rfl, hb⟩
    have HV2 := Lib.hid (HV1.out.below hb)
    have HA2 := Lib.hid ((hb.block A (heap_lt HA1.out)).trans HA1.out)
    clear hb
    go_wp2_with fail
    refine (HIS.out _ _ HV2.out.st).mono ?_; rintro x w3 ⟨rfl, hb⟩
    have HV3 := Lib.hid (HV2.out.below hb)
    have HA3 := Lib.hid ((hb.block A (heap_lt HA2.out)).trans HA2.out)
    clear hb
    obtain ⟨c0, c1, c2, c3, c4⟩ := HV3.out.st.cells
    go_wp2_with fail
    refine (HIS.out _ _ HV3.out.st).mono ?_; rintro x w4 ⟨rfl, hb⟩
    have HV4 := Lib.hid (HV3.out.below hb)
    have HA4 := Lib.hid ((hb.block A (heap_lt HA3.out)).trans HA3.out)
    clear hb
    clear c0 c1 c2 c3 c4
  all_goals
    obtain ⟨c0, c1, c2, c3, c4⟩ := HV4.out.st.cells
    obtain ⟨a0, a1, a2⟩ := tcells HA4.out
    have hA4 : A < w4.heap.size := heap_lt HA4.out
    have hp4 : p < w4.heap.size := HV4.out.st.lt
    go_wp2_with fail
    obtain ⟨C, hC⟩ : ∃ C, w4.heap.size = C := ⟨_, rfl⟩
    have HVc := Lib.hid (HV4.out.alloc (.cells #[.int .u8 0, .string name, .string ⟨#[]⟩, .int .i64 0, .int .i64 0] 63 (0, 0)))
    have HCc : Hid ((w4.alloc (.cells #[.int .u8 0, .string name, .string ⟨#[]⟩, .int .i64 0, .int .i64 0] 63 (0, 0))).heap[C]? = some (.cells #[.int .u8 0, .string name, .string ⟨#[]⟩, .int .i64 0, .int .i64 0] 63 (0, 0))) := Lib.hid (by rw [← hC]; exact heap_alloc_last _ _)
    have hov : (Value.slice av nv cv).ownBlock ≠ some C := fun e => by have := (World.ownsRow.lt HV4.out.own C e).2; omega
    have hpC : p < C := by rw [← hC]; exact hp4
    have hWC : W.heap.size ≤ C := by rw [← hC]; exact HV4.out.size
    refine (HRD.out _ (HEE.out _ HVc.out.vk.1)).mono ?_; rintro x y3 ⟨rfl, hb⟩
    have HV9 := Lib.hid (HVc.out.below hb)
    have HC9 := Lib.hid ((hb.block C (heap_lt HCc.out)).trans HCc.out)
    rw [hC]
    clear hb c0 c1 c2 c3 c4 a0 a1 a2 hA4 hp4
    have hpy : p ≤ y3.heap.size := Nat.le_of_lt HV9.out.st.lt
    go_wp2_with fail
    refine (HNO.out _ _ HV9.out.st).mono ?_; rintro x y4 ⟨rfl, hb⟩
    have HB9 := Lib.hid (HV9.out.vk.1.trans (hb.mono hpy))
    clear hb
    go_wp2_with fail
    exact ⟨rfl, rfl, HB9.out⟩
end Go.Proofs.YtgaknbnhmoddcaaGreatDoor
namespace Go.Proofs.YtgaknbnhmoddcaaGreatDoor
open Go.RowKit Go.Lib
set_option maxRecDepth 100000 in
set_option maxHeartbeats 4000000 in
theorem l_value_var {p tb off cap : Nat} {T : List Tok} {fx : Bool} {k : Nat} {op : Int} (v : Value) (L : List Cel) (name : ByteArray) (W : World) (h : LS p tb off cap T fx k op v W) (hown : OwnC (p + 1) v L W) (hL : L.length ≤ 2048) (hk : k ≤ 100000) (hf : L.length ≠ 2048) (hfx : fx = false) (mm : mrkP T k [36] = true) (sn : List UInt8) (hnm : namP [] T (k + 1) = .ok sn) :
    Calls Tryz.prog 91 #[.pointer (some ⟨p, 0, none⟩), .string name] W (LVE p tb off cap T fx W v op (.ok (k + 2, L ++ [⟨5, name.data.toList, sn, 0, 0⟩]))) := by
  have HV0 : Hid (LV p tb off cap T fx W v v L k op W) := Lib.hid ⟨h, hown, VK.refl _ _ _, fun k hk => Or.inl hk⟩
  have HLK := Lib.hid (fun (W : World) (hW : LS p tb off cap T fx k op v W) => l_look W hW)
  have HIS := Lib.hid (fun (s : ByteArray) (W : World) (hW : LS p tb off cap T fx k op v W) => l_is s W hW)
  have HNO := Lib.hid (fun (e : Int) (W : World) (hW : LS p tb off cap T fx k op v W) => l_no e W hW)
  have hw1 : IntKind.i64.wrap ((k : Int) + 1) = (k : Int) + 1 := IntWalk.i64_in _ (by omega)
  have hvl : ∃ a n c, v = .slice a n c ∧ n = L.length := by
    rcases HV0.out.own.2 with ⟨h1, h2⟩ | ⟨g, cap, cur, h1, _⟩
    · exact ⟨none, 0, 0, h1, h2.symm⟩
    · exact ⟨_, _, _, h1, rfl⟩
  obtain ⟨av, nv, cv, rfl, hnv⟩ := hvl
  have HNV := Lib.hid hnv
  have hnv8 : nv ≤ 2048 := by omega
  clear h hown
  subst hfx
  have hL2 : nv ≤ 2047 := by omega
  have tf : ((nv : Int) == 2048) = false := by rw [beq_eq_false_iff_ne]; omega
  have hkT : k < T.length := by
    rcases Nat.lt_or_ge k T.length with h | h
    · exact h
    · have := (mrk_one mm).1
      rw [lookP_out (by omega)] at this; cases this
  have hk9 : k + 1 ≤ 100000 := by have := HV0.out.st.2.2.2.1.1; omega
  obtain ⟨sb, hsb⟩ : ∃ b : ByteArray, (⟨sn.toArray⟩ : ByteArray) = b := ⟨_, rfl⟩
  have HSB := Lib.hid hsb
  have HNM : Hid (∀ W', LS p tb off cap T false (k + 1) op (.slice av nv cv) W' → Calls Tryz.prog 86 #[.pointer (some ⟨p, 0, none⟩), .map none] W' fun x w' => x = .returned (.string sb) ∧ LS p tb off cap T false (k + 2) op (.slice av nv cv) w' ∧ RK p W' w') := Lib.hid fun W' hW => by
    have := l_name0 W' hW hk9
    rw [hnm] at this
    simp only [naV, hsb] at this
    exact this
  clear hkT hnm hsb
  have hkk := (mrk_one mm).1
  have m91 : mrkP T k [91] = false := mrk_ne mm (by decide)
  have m123 : mrkP T k [123] = false := mrk_ne mm (by decide)
  have m36 : mrkP T k [36] = true := mm
  have H91 : Hid (∀ W', LS p tb off cap T false k op (.slice av nv cv) W' → Calls Tryz.prog 82 #[.pointer (some ⟨p, 0, none⟩), .int .u8 4, .string ⟨#[91]⟩] W' fun x w' => x = .returned (.bool false) ∧ Below W'.heap.size W' w') := Lib.hid fun W' hW => by
    have := HIS.out ⟨#[91]⟩ W' hW
    rw [show (⟨#[91]⟩ : ByteArray).data.toList = [91] from rfl, m91] at this; exact this
  have H123 : Hid (∀ W', LS p tb off cap T false k op (.slice av nv cv) W' → Calls Tryz.prog 82 #[.pointer (some ⟨p, 0, none⟩), .int .u8 4, .string ⟨#[123]⟩] W' fun x w' => x = .returned (.bool false) ∧ Below W'.heap.size W' w') := Lib.hid fun W' hW => by
    have := HIS.out ⟨#[123]⟩ W' hW
    rw [show (⟨#[123]⟩ : ByteArray).data.toList = [123] from rfl, m123] at this; exact this
  have H36 : Hid (∀ W', LS p tb off cap T false k op (.slice av nv cv) W' → Calls Tryz.prog 82 #[.pointer (some ⟨p, 0, none⟩), .int .u8 4, .string ⟨#[36]⟩] W' fun x w' => x = .returned (.bool true) ∧ Below W'.heap.size W' w') := Lib.hid fun W' hW => by
    have := HIS.out ⟨#[36]⟩ W' hW
    rw [show (⟨#[36]⟩ : ByteArray).data.toList = [36] from rfl, m36] at this; exact this
  obtain ⟨kd, hkd⟩ : ∃ kd : Int, ((lookP T k).kind.toNat : Int) = kd := ⟨_, rfl⟩
  obtain ⟨tb0, htb0⟩ : ∃ b : ByteArray, (⟨(lookP T k).text.toArray⟩ : ByteArray) = b := ⟨_, rfl⟩
  obtain ⟨ps, hps⟩ : ∃ ps : Int, (lookP T k).pos = ps := ⟨_, rfl⟩
  have HTX : Hid (tb0.data.toList = (lookP T k).text) := Lib.hid (by rw [← htb0])
  have HTB := Lib.hid htb0
  unfold tokW at HLK
  rw [hkd, htb0, hps] at HLK
  have hkd2 : kd = 4 := by rw [← hkd, hkk]; rfl
  subst hkd2
  clear hkd htb0 hps hkk hnv mm m91 m123 m36
  go_enter Tryz.func91, Tryz.ntmps91
  go_wp2_with fail
  refine (HLK.out _ HV0.out.st).mono ?_; rintro x w1 ⟨rfl, hb⟩
  have HV1 := Lib.hid ((HV0.out.below hb).alloc (.cells #[.int .u8 4, .string tb0, .int .i64 ps] 72 (0, 0)))
  have HA1 : Hid ((w1.alloc (.cells #[.int .u8 4, .string tb0, .int .i64 ps] 72 (0, 0))).heap[w1.heap.size]? = some (.cells #[.int .u8 4, .string tb0, .int .i64 ps] 72 (0, 0))) := Lib.hid (heap_alloc_last _ _)
  obtain ⟨A, hA⟩ : ∃ A, w1.heap.size = A := ⟨_, rfl⟩
  rw [hA] at HA1
  have HAZ := Lib.hid hA
  clear hb
  go_wp2_with fail
  refine (H91.out _ HV1.out.st).mono ?_; rintro x w2 ⟨rfl, hb⟩
  have HV2 := Lib.hid (HV1.out.below hb)
  have HA2 := Lib.hid ((hb.block A (heap_lt HA1.out)).trans HA1.out)
  clear hb
  go_wp2_with fail
  refine (H123.out _ HV2.out.st).mono ?_; rintro x w3 ⟨rfl, hb⟩
  have HV3 := Lib.hid (HV2.out.below hb)
  have HA3 := Lib.hid ((hb.block A (heap_lt HA2.out)).trans HA2.out)
  clear hb
  obtain ⟨c0, c1, c2, c3, c4⟩ := HV3.out.st.cells
  go_wp2_with fail
  refine (H36.out _ HV3.out.st).mono ?_; rintro x w4 ⟨rfl, hb⟩
  have HV4 := Lib.hid (HV3.out.below hb)
  have HA4 := Lib.hid ((hb.block A (heap_lt HA3.out)).trans HA3.out)
  clear hb
  clear c0 c1 c2 c3 c4
  obtain ⟨c0, c1, c2, c3, c4⟩ := HV4.out.st.cells
  obtain ⟨a0, a1, a2⟩ := tcells HA4.out
  have hA4 : A < w4.heap.size := heap_lt HA4.out
  have hp4 : p < w4.heap.size := HV4.out.st.lt
  have f1 := HV4.out.st.frozen 1
  go_wp2_with fail
  obtain ⟨C, hC⟩ : ∃ C, w4.heap.size = C := ⟨_, rfl⟩
  have HV8 := Lib.hid ((HV4.out.go (k + 1) (by omega)).alloc (.cells #[.int .u8 5, .string name, .string ⟨#[]⟩, .int .i64 0, .int .i64 0] 63 (0, 0)))
  have hov : (Value.slice av nv cv).ownBlock ≠ some C := fun e => by have := (World.ownsRow.lt HV4.out.own C e).2; omega
  have hpC : p < C := by rw [← hC]; exact hp4
  have hWC : W.heap.size ≤ C := by rw [← hC]; exact HV4.out.size
  have HC8 : Hid (((w4.setCell ⟨p, 1, none⟩ (.int .i64 ((k + 1 : Nat) : Int))).alloc (.cells #[.int .u8 5, .string name, .string ⟨#[]⟩, .int .i64 0, .int .i64 0] 63 (0, 0))).heap[C]? = some (.cells #[.int .u8 5, .string name, .string ⟨#[]⟩, .int .i64 0, .int .i64 0] 63 (0, 0))) := Lib.hid (by
    have := heap_alloc_last (w4.setCell ⟨p, 1, none⟩ (.int .i64 ((k + 1 : Nat) : Int))) (.cells #[.int .u8 5, .string name, .string ⟨#[]⟩, .int .i64 0, .int .i64 0] 63 (0, 0))
    simp only [World.size_setCell] at this
    rw [← hC]; exact this)
  refine (HNM.out _ HV8.out.st).mono ?_; rintro x y3 ⟨rfl, hl, hk⟩
  have HV9 := Lib.hid (HV8.out.rk hl hk)
  have HC9 := Lib.hid (hk.2 C _ HC8.out (by omega))
  rw [hC]
  clear hl hk c0 c1 c2 c3 c4 a0 a1 a2 hA4 hp4 f1
  have hcn : C ≠ p := by omega
  obtain ⟨c0, c1, c2, c3, c4⟩ := HV9.out.st.cells
  rw [show ((k + 2 : Nat) : Int) = (k : Int) + 2 by omega] at c1
  obtain ⟨q0, q1, q2, q3, q4⟩ := ccells HC9.out
  have f1 := HV9.out.st.frozen 1
  have g2 := Lib.frozen_of_heap HC9.out 2
  have e1 : (k : Int) + 2 - 1 = (k : Int) + 1 := by omega
  have e2 : (k : Int) + 1 + 1 = (k : Int) + 2 := by omega
  have hw2 : IntKind.i64.wrap ((k : Int) + 2) = (k : Int) + 2 := IntWalk.i64_in _ (by omega)
  have hw3 : IntKind.i64.wrap ((k : Int) + 2 - 1) = (k : Int) + 1 := by rw [e1]; exact hw1
  have hw4 : IntKind.i64.wrap ((k : Int) + 1 + 1) = (k : Int) + 2 := by rw [e2]; exact hw2
  clear hC e1 e2
  go_wp2_with fail
  obtain ⟨y5, hy5⟩ : ∃ y5, ((y3.setCell ⟨C, 2, none⟩ (.string sb)).setCell ⟨p, 1, none⟩ (.int .i64 ((k : Int) + 1))).setCell ⟨p, 1, none⟩ (.int .i64 ((k : Int) + 2)) = y5 := ⟨_, rfl⟩
  have HY5 := Lib.hid (((HV9.out.other C 2 (.string sb) hWC hpC hov).go (k + 1) (by omega)).go (k + 2) (by omega))
  have HC5 : Hid (y5.heap[C]? = some (.cells #[.int .u8 5, .string name, .string sb, .int .i64 0, .int .i64 0] 63 (0, 0))) := Lib.hid (by rw [← hy5, Below.heap_setCell _ _ _ _ (by show C ≠ p; omega), Below.heap_setCell _ _ _ _ (by show C ≠ p; omega)]; exact pset HC9.out _ rfl)
  rw [show ((y3.setCell ⟨C, 2, none⟩ (.string sb)).setCell ⟨p, 1, none⟩ (.int .i64 ((k + 1 : Nat) : Int))).setCell ⟨p, 1, none⟩ (.int .i64 ((k + 2 : Nat) : Int)) = y5 from hy5] at HY5
  rw [hy5]
  clear hy5 c0 c1 c2 c3 c4 f1 q0 q1 q2 q3 q4 g2 HTB
  have HTB := HSB
  have hlt5 := HY5.out.st.lt
  have hC5 := heap_lt HC5.out
  obtain ⟨_, _, _, _, c4⟩ := HY5.out.st.cells
  have e4 : y5.drew.cell? ⟨p, 4, none⟩ = some (.slice av nv cv) := c4
  have e4' : ∀ o, (y5.drew.alloc o).cell? ⟨p, 4, none⟩ = some (.slice av nv cv) := fun o => by
    rw [World.cell?_alloc_lt _ _ _ (by exact hlt5)]; exact c4
  obtain ⟨q0, q1, q2, q3, q4⟩ := ccells (W := y5.drew) HC5.out
  have HCEL : Hid (celCells ⟨5, name.data.toList, sn, 0, 0⟩ = #[.int .u8 5, .string name, .string sb, .int .i64 0, .int .i64 0]) := Lib.hid (by rw [← HTB.out]; rfl)
  refine wp_region_held_drew (S := fun _ => True) (by kernel_rfl) trivial (fun hHeld => ?_)
  refine tky 0 (some 160) (v := ?_) rfl (by kernel_rfl) (by kernel_rfl) (by kernel_rfl) (fun _ _ _ h => h) ?_ hHeld ?_
  rotate_left
  focus (intro w hSw; go_simp; (try with_reducible rfl); done)
  simp only [Act.put, List.setIfInBounds_toArray, List.set_cons_zero, List.set_cons_succ]
  refine tky 1 (some 161) (v := ?_) rfl (by kernel_rfl) (by kernel_rfl) (by kernel_rfl) (fun _ _ _ h => h) ?_ hHeld ?_
  rotate_left
  focus (intro w hSw; go_simp; (try with_reducible rfl); done)
  simp only [Act.put, List.setIfInBounds_toArray, List.set_cons_zero, List.set_cons_succ]
  refine tky 2 (some 162) (v := ?_) rfl (by kernel_rfl) (by kernel_rfl) (by kernel_rfl) (fun _ _ _ h => h) ?_ hHeld ?_
  rotate_left
  focus (intro w hSw; go_simp; (try with_reducible rfl); done)
  simp only [Act.put, List.setIfInBounds_toArray, List.set_cons_zero, List.set_cons_succ]
  refine tky 3 (some 163) (v := ?_) rfl (by kernel_rfl) (by kernel_rfl) (by kernel_rfl) (fun _ _ _ h => h) ?_ hHeld ?_
  rotate_left
  focus (intro w hSw; go_simp; (try with_reducible rfl); done)
  simp only [Act.put, List.setIfInBounds_toArray, List.set_cons_zero, List.set_cons_succ]
  refine wpAnyH_ready (rs := [4, 5]) (by kernel_rfl) (by simp) ?_
  refine acons 4 rfl (fun K hK => ?_) ?_
  go_simp
  refine hK.out _ _ trivial (fun _ => ?_)
  clear hK K
  (try simp only [Act.put, List.setIfInBounds_toArray, List.set_cons_zero, List.set_cons_succ])
  refine rcons 5 rfl (by kernel_rfl) (fun K hK => ?_)
  go_simp
  refine hK.out _ _ trivial (fun _ => ?_)
  clear hK K
  (try simp only [Act.put, List.setIfInBounds_toArray, List.set_cons_zero, List.set_cons_succ])
  refine rcons 6 rfl (by kernel_rfl) (fun K hK => ?_)
  go_simp
  refine hK.out _ _ trivial (fun _ => ?_)
  clear hK K
  (try simp only [Act.put, List.setIfInBounds_toArray, List.set_cons_zero, List.set_cons_succ])
  rotate_left
  refine acons 5 rfl (fun K hK => ?_) ?_
  go_simp
  refine hK.out _ _ trivial (fun _ => ?_)
  clear hK K
  (try simp only [Act.put, List.setIfInBounds_toArray, List.set_cons_zero, List.set_cons_succ])
  refine wpAnyH_ready (rs := [4, 6]) (by kernel_rfl) (by simp) ?_
  refine acons 4 rfl (fun K hK => ?_) ?_
  go_simp
  refine hK.out _ _ trivial (fun _ => ?_)
  clear hK K
  (try simp only [Act.put, List.setIfInBounds_toArray, List.set_cons_zero, List.set_cons_succ])
  refine rcons 6 rfl (by kernel_rfl) (fun K hK => ?_)
  go_simp
  refine hK.out _ _ trivial (fun _ => ?_)
  clear hK K
  (try simp only [Act.put, List.setIfInBounds_toArray, List.set_cons_zero, List.set_cons_succ])
  rotate_left
  refine acons 6 rfl (fun K hK => ?_) ?_
  go_simp
  refine hK.out _ _ trivial (fun _ => ?_)
  clear hK K
  (try simp only [Act.put, List.setIfInBounds_toArray, List.set_cons_zero, List.set_cons_succ])
  refine rcons 4 rfl (by kernel_rfl) (fun K hK => ?_)
  go_simp
  refine hK.out _ _ trivial (fun _ => ?_)
  clear hK K
  (try simp only [Act.put, List.setIfInBounds_toArray, List.set_cons_zero, List.set_cons_succ])
  rotate_left
  exact AllReadyH.nil
  exact AllReadyH.nil
  all_goals
    refine rcons 7 rfl (by kernel_rfl) (fun K hK => ?_)
    rw [if_pos]
    rotate_left
    focus kernel_rfl
    refine wp_pushL _ _ rfl (p + 1) (.slice av nv cv) L rfl (by exact ((HY5.out.drewN 1).alloc _).own) y5.heap.size 1 ⟨5, name.data.toList, sn, 0, 0⟩ rfl (by rw [HCEL.out]; exact heap_alloc_last y5.drew _) (by omega) (by show _ ≤ Array.size _; simp; omega) ?_
    intro v' y6 hown' hgrow hat
    obtain ⟨g6, cap6, hvg, -⟩ := hown'.form L.length (by simp)
    generalize (L ++ [(⟨5, name.data.toList, sn, 0, 0⟩ : Cel)]).length = n6 at hvg
    subst hvg
    obtain ⟨hst6, hy6⟩ := LV.grown ((HY5.out.drewN 1).alloc _) hown' hgrow hat rfl
    have HY6 := Lib.hid hy6
    obtain ⟨_, _, _, _, g4⟩ := hst6.cells
    have f6 := hst6.frozen 4
    clear hown' hgrow hat hst6 hy6
    (try dsimp only)
    refine hK.out _ _ trivial (fun _ => ?_)
    clear hK K
    (try simp only [Act.put, List.setIfInBounds_toArray, List.set_cons_zero, List.set_cons_succ])
    refine tky 8 (some 168) (v := ?_) rfl (by kernel_rfl) (by kernel_rfl) (by kernel_rfl) (fun _ _ _ h => h) ?_ hHeld ?_
    rotate_left
    focus (intro w hSw; go_simp; (try with_reducible rfl); done)
    simp only [Act.put, List.setIfInBounds_toArray, List.set_cons_zero, List.set_cons_succ]
    refine tky 9 (some 169) (v := ?_) rfl (by kernel_rfl) (by kernel_rfl) (by kernel_rfl) (fun _ _ _ h => h) ?_ hHeld ?_
    rotate_left
    focus (intro w hSw; go_simp; (try with_reducible rfl); done)
    simp only [Act.put, List.setIfInBounds_toArray, List.set_cons_zero, List.set_cons_succ]
    refine rcons 10 rfl (by kernel_rfl) (fun K hK => ?_)
    go_simp
    refine hK.out _ _ trivial (fun _ => ?_)
    clear hK K
    (try simp only [Act.put, List.setIfInBounds_toArray, List.set_cons_zero, List.set_cons_succ])
    refine wpAnyH_done (by kernel_rfl) ?_ _
    go_wp2_with fail
    go_end0
    exact ⟨rfl, by simp; omega, _, HY6.out⟩
  
end Go.Proofs.YtgaknbnhmoddcaaGreatDoor
namespace Go.Proofs.YtgaknbnhmoddcaaGreatDoor
open Go.RowKit Go.Lib
theorem l_value_leaf {p tb off cap : Nat} {T : List Tok} {fx : Bool} {k : Nat} {op : Int} (v : Value) (L : List Cel) (name : ByteArray) (W : World) (h : LS p tb off cap T fx k op v W) (hown : OwnC (p + 1) v L W) (hL : L.length ≤ 2048) (hk : k ≤ 100000)
    (hE : ∀ W', Below p W W' → Env W') (hf : L.length ≠ 2048) (hb : begP fx T k = true) (ho : opnP T k = false) :
    Calls Tryz.prog 91 #[.pointer (some ⟨p, 0, none⟩), .string name] W (LVE p tb off cap T fx W v op (leafP fx T name.data.toList k L)) := by
  unfold leafP
  cases hv : varP fx T k with
  | true =>
    have hv2 := hv
    unfold varP at hv2
    simp only [Bool.and_eq_true, Bool.not_eq_true'] at hv2
    rw [if_pos rfl]
    cases hn : namP [] T (k + 1) with
    | error e => exact l_value_var_no v L name W h hown hL hk hf hv2.1 hv2.2 e hn
    | ok s => exact l_value_var v L name W h hown hL hk hf hv2.1 hv2.2 s hn
  | false =>
    rw [if_neg (by simp)]
    by_cases h3 : (lookP T k).kind = 3
    · rw [if_pos h3]; exact l_value_text v L name W h hown hL hk hf h3
    · rw [if_neg h3]
      by_cases h2 : (lookP T k).kind = 2
      · rw [if_pos h2]
        by_cases hre : rdE (lookP T k).text = 0
        · rw [if_neg (by simp [hre])]; exact l_value_int v L name W h hown hL hk hE hf h2 hre
        · rw [if_pos (by simpa using hre)]; exact l_value_int_no v L name W h hown hL hk hE hf h2 hre
      · rw [if_neg h2]
        have h1 : (lookP T k).kind = 1 := by
          unfold begP at hb
          rw [ho, hv] at hb
          simpa [h2, h3] using hb
        unfold wordP
        by_cases hx : (lookP T k).text = [110, 117, 108, 108]
        · rw [if_pos hx]; exact l_value_null v L name W h hown hL hk hf h1 hx
        · rw [if_neg hx]
          by_cases hy : (lookP T k).text = [116, 114, 117, 101]
          · rw [if_pos hy]; exact l_value_true v L name W h hown hL hk hf h1 hy
          · rw [if_neg hy]
            by_cases hz : (lookP T k).text = [102, 97, 108, 115, 101]
            · rw [if_pos hz]; exact l_value_false v L name W h hown hL hk hf h1 hz
            · rw [if_neg hz]; exact l_value_enum v L name W h hown hL hk hf h1 hx hy hz
end Go.Proofs.YtgaknbnhmoddcaaGreatDoor
namespace Go.Proofs.YtgaknbnhmoddcaaGreatDoor
open Go.Lib
theorem look_in {T : List Tok} {a : Nat} (h : (lookP T a).kind ≠ 0) : a < T.length := by
  rcases Nat.lt_or_ge a T.length with h1 | h1
  · exact h1
  · exfalso; apply h
    unfold lookP
    rw [List.getD_eq_getElem?_getD, List.getElem?_eq_none h1]; rfl
theorem mrk_lt {T : List Tok} {a : Nat} {s : List UInt8} (h : mrkP T a s = true) : a < T.length := by
  unfold mrkP at h
  simp only [Bool.and_eq_true, beq_iff_eq] at h
  exact look_in (by rw [h.1]; decide)
theorem nam_lt {nm : List (List UInt8)} {T : List Tok} {a : Nat} {s : List UInt8} (h : namP nm T a = .ok s) : a < T.length ∧ (lookP T a).text = s := by
  unfold namP at h
  split at h
  · cases h
  · rename_i h1
    split at h
    · cases h
    · injection h with h
      refine ⟨look_in ?_, h⟩
      simp only [bne_iff_ne, ne_eq, Decidable.not_not] at h1
      rw [h1]; decide
theorem mem_lt {nm : List (List UInt8)} {T : List Tok} {a a1 : Nat} {s : List UInt8} (h : memP nm T a = .ok (s, a1)) : a1 = a + 2 ∧ a1 ≤ T.length ∧ namP nm T a = .ok s := by
  unfold memP at h
  split at h
  · cases h
  · rename_i s1 hn
    split at h
    · rename_i hm
      injection h with h
      injection h with h1 h2
      have := mrk_lt hm
      exact ⟨h2.symm, by omega, by rw [hn, h1]⟩
    · cases h
theorem beg_lt {fixed : Bool} {T : List Tok} {a : Nat} (h : begP fixed T a = true) : a < T.length := by
  refine look_in fun h0 => ?_
  have hm : ∀ s, mrkP T a s = false := fun s => by
    unfold mrkP; rw [h0]; rfl
  unfold begP opnP varP at h
  rw [h0, hm, hm, hm, Bool.and_false] at h
  cases h
theorem itmP_end {val : List UInt8 → Nat → List Cel → Except ErrP (Nat × List Cel)} {isO : Bool} {T : List Tok} {f n : Nat} {nm : List (List UInt8)} {a : Nat} {out : List Cel} (h : mrkP T a (if isO then [125] else [93]) = true) : itmP val isO T (f + 1) n nm a out = .ok (n, a + 1, out) := by
  unfold itmP
  rw [if_pos h]
theorem itmP_go {val : List UInt8 → Nat → List Cel → Except ErrP (Nat × List Cel)} {isO : Bool} {T : List Tok} {f n : Nat} {nm : List (List UInt8)} {a : Nat} {out : List Cel} (h : mrkP T a (if isO then [125] else [93]) = false) : itmP val isO T (f + 1) n nm a out = match (if isO then memP nm T a else .ok ([], a)) with
    | .error e => .error e
    | .ok (s, a1) => match val s a1 out with
      | .error e => .error e
      | .ok (a2, out2) => itmP val isO T f (n + 1) (if isO then s :: nm else nm) a2 out2 := by
  conv => lhs; unfold itmP
  rw [if_neg (by rw [h]; simp)]
  rfl
theorem many_app (k n : Nat) (out : List Cel) (c : Cel) (new : List Cel) (hk : k = out.length) : manyAt k n (out ++ c :: new) = out ++ { c with many := (n : Int) } :: new := by
  subst hk
  unfold manyAt
  induction out with
  | nil => rfl
  | cons x out ih => simp only [List.cons_append, List.length_cons, List.modify_succ_cons, ih]
theorem manyln (k n : Nat) (L : List Cel) : (manyAt k n L).length = L.length := by unfold manyAt; rw [List.length_modify]
theorem many_app2 (k n : Nat) : ∀ (out new : List Cel), k < out.length → manyAt k n out ++ new = manyAt k n (out ++ new) := by
  intro out new h
  unfold manyAt
  induction out generalizing k with
  | nil => simp at h
  | cons x out ih =>
    cases k with
    | zero => rfl
    | succ k => simp only [List.cons_append, List.modify_succ_cons]; rw [← ih k (by simpa using h)]
theorem many_many (k n m : Nat) (out : List Cel) : manyAt k m (manyAt k n out) = manyAt k m out := by
  unfold manyAt
  induction out generalizing k with
  | nil => simp
  | cons x out ih =>
    cases k with
    | zero => rfl
    | succ k => simp only [List.modify_succ_cons, ih]
theorem many_at (k n : Nat) (out : List Cel) (h : k < (manyAt k n out).length) : ((manyAt k n out)[k]'h).many = (n : Int) := by
  unfold manyAt at h ⊢
  rw [List.getElem_modify]
  simp
theorem many_last (k : Nat) (out : List Cel) (c : Cel) (h : k = out.length) (hc : c.many = 0) : manyAt k 0 (out ++ [c]) = out ++ [c] := by
  rw [many_app k 0 out c [] h]
  obtain ⟨a, b, c, d, e⟩ := c
  simp only at hc
  subst hc; rfl
/-- Two readings that differ in what stands ahead alone. -/
def AlkV (out out' : List Cel) (r r' : Except ErrP (Nat × List Cel)) : Prop := match r with
  | .error e => r' = .error e
  | .ok (a, o) => ∃ new, o = out ++ new ∧ 0 < new.length ∧ r' = .ok (a, out' ++ new)
def AlkI (out out' : List Cel) (r r' : Except ErrP (Nat × Nat × List Cel)) : Prop := match r with
  | .error e => r' = .error e
  | .ok (n, a, o) => ∃ new, o = out ++ new ∧ r' = .ok (n, a, out' ++ new)
theorem itm_alk (val : List UInt8 → Nat → List Cel → Except ErrP (Nat × List Cel)) (hval : ∀ s a out out', out.length = out'.length → AlkV out out' (val s a out) (val s a out')) (isO : Bool) (T : List Tok) : ∀ (f n : Nat) (nm : List (List UInt8)) (a : Nat) (out out' : List Cel), out.length = out'.length → AlkI out out' (itmP val isO T f n nm a out) (itmP val isO T f n nm a out')
  | 0, _, _, _, _, _, _ => rfl
  | f + 1, n, nm, a, out, out', hl => by
    cases hmk : mrkP T a (if isO then [125] else [93]) with
    | true =>
      rw [itmP_end hmk, itmP_end hmk]
      exact ⟨[], by simp, by simp⟩
    | false =>
      rw [itmP_go hmk, itmP_go hmk]
      cases hm : (if isO then memP nm T a else .ok ([], a)) with
      | error e => rfl
      | ok sa =>
        obtain ⟨s, a1⟩ := sa
        have hv := hval s a1 out out' hl
        dsimp only
        cases hx : val s a1 out with
        | error e =>
          rw [hx] at hv
          have hv2 : val s a1 out' = .error e := hv
          rw [hv2]
          rfl
        | ok y =>
          obtain ⟨a2, o2⟩ := y
          rw [hx] at hv
          obtain ⟨new, rfl, hp, hv2⟩ := hv
          rw [hv2]
          dsimp only
          have ih := itm_alk val hval isO T f (n + 1) (if isO then s :: nm else nm) a2 (out ++ new) (out' ++ new) (by simp [hl])
          revert ih
          generalize itmP val isO T f (n + 1) (if isO then s :: nm else nm) a2 (out ++ new) = R
          generalize itmP val isO T f (n + 1) (if isO then s :: nm else nm) a2 (out' ++ new) = R'
          intro ih
          match R, ih with
          | .error e, ih => exact ih
          | .ok (n, a, o), ih =>
            obtain ⟨new2, h1, h2⟩ := ih
            exact ⟨new ++ new2, by rw [h1, List.append_assoc], by rw [h2, List.append_assoc]⟩
theorem leaf_alk (fixed : Bool) (T : List Tok) (name : List UInt8) (a : Nat) (out out' : List Cel) : AlkV out out' (leafP fixed T name a out) (leafP fixed T name a out') := by
  unfold leafP
  split
  · cases namP [] T (a + 1) with
    | error e => rfl
    | ok s => exact ⟨_, rfl, Nat.zero_lt_one, rfl⟩
  · split
    · exact ⟨_, rfl, Nat.zero_lt_one, rfl⟩
    · split
      · split
        · rfl
        · exact ⟨_, rfl, Nat.zero_lt_one, rfl⟩
      · exact ⟨_, rfl, Nat.zero_lt_one, rfl⟩
theorem val_alk_step (fixed : Bool) (T : List Tok) (d : Nat) (ih : ∀ e, d = e + 1 → ∀ name a out out', out.length = out'.length → AlkV out out' (valP fixed T e name a out) (valP fixed T e name a out')) : ∀ name a out out', out.length = out'.length → AlkV out out' (valP fixed T d name a out) (valP fixed T d name a out') := by
  intro name a out out' hl
  unfold valP
  split
  · rfl
  · rw [hl]
    split
    · rfl
    · split
      · cases d with
        | zero => rfl
        | succ d =>
          have hi := itm_alk (valP fixed T d) (ih d rfl) (mrkP T a [123]) T (T.length + 1) 0 [] (a + 1) (out ++ [⟨if mrkP T a [123] then 7 else 6, name, [], 0, 0⟩]) (out' ++ [⟨if mrkP T a [123] then 7 else 6, name, [], 0, 0⟩]) (by simp [hl])
          simp only []
          revert hi
          generalize itmP (valP fixed T d) (mrkP T a [123]) T (T.length + 1) 0 [] (a + 1) (out ++ [⟨if mrkP T a [123] then 7 else 6, name, [], 0, 0⟩]) = R
          generalize itmP (valP fixed T d) (mrkP T a [123]) T (T.length + 1) 0 [] (a + 1) (out' ++ [⟨if mrkP T a [123] then 7 else 6, name, [], 0, 0⟩]) = R'
          intro hi
          match R, hi with
          | .error e, hi =>
            have hi2 : R' = .error e := hi
            subst hi2; rfl
          | .ok (n, a2, o), hi =>
            obtain ⟨new2, h1, h2⟩ := hi
            subst h1; subst h2
            refine ⟨{ kind := if mrkP T a [123] then 7 else 6, name := name, text := [], num := 0, many := (n : Int) } :: new2, ?_, by simp, ?_⟩
            · rw [List.append_assoc, List.singleton_append]
              exact many_app _ n _ _ _ hl.symm
            · simp only []
              rw [List.append_assoc, List.singleton_append, many_app _ n out' _ _ rfl]
      · exact leaf_alk fixed T name a out out'
theorem val_alk (fixed : Bool) (T : List Tok) : ∀ (d : Nat) name a out out', out.length = out'.length → AlkV out out' (valP fixed T d name a out) (valP fixed T d name a out')
  | 0 => val_alk_step fixed T 0 fun e h => by omega
  | d + 1 => val_alk_step fixed T (d + 1) fun e h => by
    have : e = d := by omega
    subst this
    exact val_alk fixed T e
/-- A reading goes on, and stays within the tokens. -/
def OnV (T : List Tok) (val : List UInt8 → Nat → List Cel → Except ErrP (Nat × List Cel)) : Prop := ∀ s a out a2 o2, val s a out = .ok (a2, o2) → a < a2 ∧ a2 ≤ T.length
theorem itm_on (val : List UInt8 → Nat → List Cel → Except ErrP (Nat × List Cel)) (T : List Tok) (hval : OnV T val) (isO : Bool) : ∀ (f n : Nat) (nm : List (List UInt8)) (a : Nat) (out : List Cel) (k a2 : Nat) (o2 : List Cel), itmP val isO T f n nm a out = .ok (k, a2, o2) → a < a2 ∧ a2 ≤ T.length
  | 0, _, _, _, _, _, _, _, h => by cases h
  | f + 1, n, nm, a, out, k, a2, o2, h => by
    cases hm : mrkP T a (if isO then [125] else [93]) with
    | true =>
      rw [itmP_end hm] at h
      injection h with h
      injection h with h1 h2
      injection h2 with h2 h3
      have := mrk_lt hm
      omega
    | false =>
      rw [itmP_go hm] at h
      cases hm : (if isO then memP nm T a else .ok ([], a)) with
      | error e => rw [hm] at h; cases h
      | ok sa =>
        obtain ⟨s, a1⟩ := sa
        rw [hm] at h
        simp only at h
        have ha : a ≤ a1 := by
          cases isO with
          | true => have := mem_lt hm; omega
          | false =>
            rw [if_neg (by simp)] at hm
            injection hm with hm
            injection hm with _ hm
            omega
        cases hx : val s a1 out with
        | error e => rw [hx] at h; cases h
        | ok y =>
          obtain ⟨a3, o3⟩ := y
          rw [hx] at h
          have h1 := hval _ _ _ _ _ hx
          have h2 := itm_on val T hval isO f _ _ _ _ _ _ _ h
          omega
theorem leaf_on (fixed : Bool) (T : List Tok) (name : List UInt8) (a : Nat) (out : List Cel) (hb : begP fixed T a = true) (a2 : Nat) (o2 : List Cel) (h : leafP fixed T name a out = .ok (a2, o2)) : a < a2 ∧ a2 ≤ T.length := by
  have hl := beg_lt hb
  unfold leafP at h
  split at h
  · split at h
    · cases h
    · rename_i s hn
      have := (nam_lt hn).1
      injection h with h
      injection h with h1 h2
      omega
  · split at h
    · injection h with h
      injection h with h1 h2
      omega
    · split at h
      · split at h
        · cases h
        · injection h with h
          injection h with h1 h2
          omega
      · injection h with h
        injection h with h1 h2
        omega
theorem val_on_step (fixed : Bool) (T : List Tok) (d : Nat) (ih : ∀ e, d = e + 1 → OnV T (valP fixed T e)) : OnV T (valP fixed T d) := by
  intro name a out a2 o2 h
  unfold valP at h
  split at h
  · cases h
  · rename_i hb
    split at h
    · cases h
    · split at h
      · cases d with
        | zero => cases h
        | succ d =>
          simp only [] at h
          split at h
          · cases h
          · rename_i n a3 o3 hi
            have := itm_on _ T (ih d rfl) _ _ _ _ _ _ _ _ _ hi
            injection h with h
            injection h with h1 h2
            omega
      · exact leaf_on fixed T name a out (by simpa using hb) a2 o2 h
theorem val_on (fixed : Bool) (T : List Tok) : ∀ d, OnV T (valP fixed T d)
  | 0 => val_on_step fixed T 0 fun e h => by omega
  | d + 1 => val_on_step fixed T (d + 1) fun e h => by
    have : e = d := by omega
    subst this
    exact val_on fixed T e
end Go.Proofs.YtgaknbnhmoddcaaGreatDoor
namespace Go.Proofs.YtgaknbnhmoddcaaGreatDoor
open Go.RowKit Go.Lib
theorem LV.join {p tb off cap : Nat} {T : List Tok} {fx : Bool} {w : World} {v0 v v2 : Value} {out out2 : List Cel} {k k' : Nat} {op op' : Int} {W W' : World} (h : LV p tb off cap T fx w v0 v out k op W) (h' : LV p tb off cap T fx W v v2 out2 k' op' W') : LV p tb off cap T fx w v0 v2 out2 k' op' W' :=
  ⟨h'.st, h'.own, h.vk.trans h'.vk h.ob, fun k hk => by
    rcases h'.ob k hk with e | e
    · exact h.ob k e
    · have := h.size; exact Or.inr (by omega)⟩
theorem LVE.err {p tb off cap : Nat} {T : List Tok} {fx : Bool} {w : World} {v0 : Value} {op : Int} {e : ErrP} {x : Ending} {W : World} (h : LVE p tb off cap T fx w v0 op (.error e) x W) : x = .panicked (stopP e) ∧ Below p w W := h
theorem LVE.ok_ {p tb off cap : Nat} {T : List Tok} {fx : Bool} {w : World} {v0 : Value} {op : Int} {k : Nat} {out' : List Cel} {x : Ending} {W : World} (h : LVE p tb off cap T fx w v0 op (.ok (k, out')) x W) : x = .returned (.tuple #[]) ∧ out'.length ≤ 2048 ∧ ∃ v', LV p tb off cap T fx w v0 v' out' k op W := h
theorem LVE.lift {p tb off cap : Nat} {T : List Tok} {fx : Bool} {w w1 : World} {v0 v : Value} {out : List Cel} {k1 : Nat} {op op1 : Int} {o : Except ErrP (Nat × List Cel)} {x : Ending} {W : World} (h : LV p tb off cap T fx w v0 v out k1 op1 w1) (h' : LVE p tb off cap T fx w1 v op o x W) : LVE p tb off cap T fx w v0 op o x W := by
  cases o with
  | error e => exact ⟨h'.1, h.vk.1.trans h'.2⟩
  | ok y =>
    obtain ⟨h1, h2, v', h3⟩ := h'
    exact ⟨h1, h2, v', h.join h3⟩
/-- Inside of brackets. -/
structure LI (p bm C tb off cap : Nat) (T : List Tok) (fx : Bool) (w : World) (v0 v : Value) (out : List Cel) (k : Nat) (op : Int) (nm : List (List UInt8)) (cc : Array Value) (W : World) : Prop where
  vp : LV p tb off cap T fx w v0 v out k op W
  nm : NamesM bm nm W
  cc : W.heap[C]? = some (.cells cc 63 (0, 0))
  lo : w.heap.size ≤ C
  lt : C < bm
  pl : p < w.heap.size
  ne : v.ownBlock ≠ some bm
  nc : v.ownBlock ≠ some C
section
variable {p bm C tb off cap : Nat} {T : List Tok} {fx : Bool} {w : World} {v0 v : Value} {out : List Cel} {k k' : Nat} {op op' : Int} {nm nm' : List (List UInt8)} {cc : Array Value} {W W' : World}
theorem LI.rk (h : LI p bm C tb off cap T fx w v0 v out k op nm cc W) (hs : LS p tb off cap T fx k' op' v W') (hk : RK p W W') : LI p bm C tb off cap T fx w v0 v out k' op' nm cc W' :=
  ⟨h.vp.rk hs hk, h.nm.rk hk (by have := h.lo; have := h.lt; have := h.pl; omega), hk.2 C _ h.cc (by have := h.lo; have := h.pl; omega), h.lo, h.lt, h.pl, h.ne, h.nc⟩
theorem LI.below (h : LI p bm C tb off cap T fx w v0 v out k op nm cc W) (hb : Below W.heap.size W W') : LI p bm C tb off cap T fx w v0 v out k op nm cc W' := h.rk (h.vp.st.below hb) (RK.of_below hb h.vp.st.lt)
theorem LI.drewN (h : LI p bm C tb off cap T fx w v0 v out k op nm cc W) (n : Nat) : LI p bm C tb off cap T fx w v0 v out k op nm cc (W.drewN n) := h.below (below_dN n (Below.refl _ _))
theorem LI.op_ (h : LI p bm C tb off cap T fx w v0 v out k op nm cc W) (a : Int) : LI p bm C tb off cap T fx w v0 v out k a nm cc (W.setCell ⟨p, 3, none⟩ (.int .i64 a)) := h.rk (h.vp.st.op_ a) (RK.set p 3 W _)
theorem LI.go (h : LI p bm C tb off cap T fx w v0 v out k op nm cc W) (k' : Nat) (hk : k' ≤ 200000) : LI p bm C tb off cap T fx w v0 v out k' op nm cc (W.setCell ⟨p, 1, none⟩ (.int .i64 k')) := h.rk (h.vp.st.go k' hk) (RK.set p 1 W _)
theorem LI.mk_ (h : LI p bm C tb off cap T fx w v0 v out k op nm cc W) (hs : LS p tb off cap T fx k' op v W') (hm : NamesM bm nm' W') (hk : MK p bm W W') : LI p bm C tb off cap T fx w v0 v out k' op nm' cc W' :=
  ⟨⟨hs, h.vp.own.mk hk (Nat.lt_succ_self p) h.ne, ⟨h.vp.vk.1.trans hk.1, fun k o ho h1 h2 => hk.2 k o (h.vp.vk.2 k o ho h1 h2) h1 (by have := heap_lt ho; have := h.lo; have := h.lt; omega)⟩, h.vp.ob⟩, hm, hk.2 C _ h.cc (by have := h.lo; have := h.pl; omega) (by have := h.lt; omega), h.lo, h.lt, h.pl, h.ne, h.nc⟩
theorem LI.val {v2 : Value} {out2 : List Cel} (h : LI p bm C tb off cap T fx w v0 v out k op nm cc W) (h' : LV p tb off cap T fx W v v2 out2 k' op' W') : LI p bm C tb off cap T fx w v0 v2 out2 k' op' nm cc W' := by
  have hlt := h.nm.lt
  have hlc := heap_lt h.cc
  refine ⟨h.vp.join h', h.nm.keep ?_, ?_, h.lo, h.lt, h.pl, fun e => ?_, fun e => ?_⟩
  · have := Array.getElem?_eq_getElem hlt
    rw [this]
    exact h'.vk.2 bm _ this (by have := h.lo; have := h.lt; have := h.pl; omega) h.ne
  · exact h'.vk.2 C _ h.cc (by have := h.lo; have := h.pl; omega) h.nc
  · rcases h'.ob bm e with e | e
    · exact h.ne e
    · omega
  · rcases h'.ob C e with e | e
    · exact h.nc e
    · omega
theorem LI.set {g i m c : Nat} {u : Value} {out' : List Cel} (h : LI p bm C tb off cap T fx w v0 v out k op nm cc W) (hv : v = .slice (some ⟨g, 0, none⟩) m c) (hr : p < g) (hl : out'.length = out.length) (hf : celFlat out' = (celFlat out).set i u) : LI p bm C tb off cap T fx w v0 v out' k op nm cc (W.setCell ⟨g, i, none⟩ u) := by
  have hgm : g ≠ bm := fun e => h.ne (by rw [hv, e]; rfl)
  have hgc : g ≠ C := fun e => h.nc (by rw [hv, e]; rfl)
  refine ⟨h.vp.set hv hr hl hf, h.nm.keep ?_, ?_, h.lo, h.lt, h.pl, h.ne, h.nc⟩
  · exact Below.heap_setCell _ _ _ _ (by show bm ≠ g; omega)
  · exact (Below.heap_setCell _ _ _ _ (by show C ≠ g; omega)).trans h.cc
end
/-- A bracket's reading, at whatever depth is left. -/
def manP (fixed : Bool) (T : List Tok) : Nat → List UInt8 → Nat → List Cel → Except ErrP (Nat × List Cel)
  | 0, _, a, _ => .error (30, a)
  | d + 1, name, a, out => match itmP (valP fixed T d) (mrkP T a [123]) T (T.length + 1) 0 [] (a + 1) (out ++ [⟨if mrkP T a [123] then 7 else 6, name, [], 0, 0⟩]) with
    | .error e => .error e
    | .ok (n, a2, out2) => .ok (a2, manyAt out.length n out2)
theorem valP_open (fixed : Bool) (T : List Tok) (d : Nat) (name : List UInt8) (a : Nat) (out : List Cel) (ho : opnP T a = true) (hf : out.length ≠ 2048) : valP fixed T d name a out = manP fixed T d name a out := by
  have hb : begP fixed T a = true := by unfold begP; rw [ho]; simp
  unfold valP
  rw [hb, if_neg (by simp), if_neg hf, if_pos ho]
  cases d <;> rfl
theorem valP_leaf (fixed : Bool) (T : List Tok) (d : Nat) (name : List UInt8) (a : Nat) (out : List Cel) (hb : begP fixed T a = true) (ho : opnP T a = false) (hf : out.length ≠ 2048) : valP fixed T d name a out = leafP fixed T name a out := by
  unfold valP
  rw [hb, if_neg (by simp), if_neg hf, if_neg (by rw [ho]; simp)]
theorem valP_bad (fixed : Bool) (T : List Tok) (d : Nat) (name : List UInt8) (a : Nat) (out : List Cel) (hb : begP fixed T a = false) : valP fixed T d name a out = .error (180, a) := by
  unfold valP
  rw [hb, if_pos (by simp)]
theorem valP_full (fixed : Bool) (T : List Tok) (d : Nat) (name : List UInt8) (a : Nat) (out : List Cel) (hb : begP fixed T a = true) (hf : out.length = 2048) : valP fixed T d name a out = .error (4, a) := by
  unfold valP
  rw [hb, if_neg (by simp), if_pos hf]
def LValSpec (d : Nat) : Prop := ∀ (p tb off cap : Nat) (T : List Tok) (fx : Bool) (k : Nat) (op : Int) (v : Value) (L : List Cel) (name : ByteArray) (W : World), op + (d : Int) = 16 → 0 ≤ op → LS p tb off cap T fx k op v W → OwnC (p + 1) v L W → L.length ≤ 2048 → k ≤ 100000 → (∀ W', Below p W W' → Env W') →
  Calls Tryz.prog 91 #[.pointer (some ⟨p, 0, none⟩), .string name] W (LVE p tb off cap T fx W v op (valP fx T d name.data.toList k L))
def LManSpec (d : Nat) : Prop := ∀ (p tb off cap : Nat) (T : List Tok) (fx : Bool) (k : Nat) (op : Int) (v : Value) (L : List Cel) (name : ByteArray) (W : World), op + (d : Int) = 16 → 0 ≤ op → LS p tb off cap T fx k op v W → OwnC (p + 1) v L W → L.length ≤ 2047 → k ≤ 100000 → opnP T k = true → (∀ W', Below p W W' → Env W') →
  Calls Tryz.prog 110 #[.pointer (some ⟨p, 0, none⟩), .agg #[.int .u8 0, .string name, .string ⟨#[]⟩, .int .i64 0, .int .i64 0]] W (LVE p tb off cap T fx W v op (manP fx T d name.data.toList k L))
end Go.Proofs.YtgaknbnhmoddcaaGreatDoor
