/- The walks through the reference's JSON reader (provostref04): text. -/
import Derived.Test.YtglhanblbojkhaaGreatDoorNt
import Derived.Test.YtglhanblbojkhaaGreatDoorNu
set_option linter.unusedSimpArgs false
set_option linter.unusedVariables false
namespace Go.Proofs.YtglhanblbojkhaaGreatDoor
open Go.RowKit Go.Lib
/-- Where a text ends. -/
def TextE (r : Nat) (s : ByteArray) (v : Value) (e : Int) (o : Option (List UInt8 × List UInt8)) (x : Ending) (W : World) : Prop := match o with
  | none => x = .returned (.string ⟨#[]⟩) ∧ ∃ a : Nat, a ≤ s.size ∧ RdR r s a v (if e = 0 then 40 else e) W
  | some (l, t) => x = .returned (.string ⟨l.toArray⟩) ∧ ∃ a, a ≤ s.size ∧ s.data.toList.drop a = t ∧ RdR r s a v 0 W
theorem keepL {r : Nat} {wr W W1 : World} {x y : Value} (hr : r < wr.heap.size) (h : W.cell? ⟨r, 0, none⟩ = some x ∧ W.cell? ⟨r, 1, none⟩ = some y ∧ Below wr.heap.size wr W) (hb : Below W.heap.size W W1) :
    W1.cell? ⟨r, 0, none⟩ = some x ∧ W1.cell? ⟨r, 1, none⟩ = some y ∧ Below wr.heap.size wr W1 := by
  obtain ⟨h0, h1, h2⟩ := h
  have hl : r < W.heap.size := Nat.lt_of_lt_of_le hr h2.size
  exact ⟨(hb.cell (p := ⟨r, 0, none⟩) hl).trans h0, (hb.cell (p := ⟨r, 1, none⟩) hl).trans h1, h2.trans (hb.mono h2.size)⟩
theorem dl_len (s : ByteArray) (a : Nat) : (s.data.toList.drop a).length = s.size - a := by rw [List.length_drop, Array.length_toList]; rfl
/-- A text's code points behind others. -/
def goJ (L : List Nat) (l : List UInt8) : Option (List Nat × List UInt8) := (strGo l.length l).map fun x => (L ++ x.1, x.2)
theorem goJ_end (L : List Nat) (t : List UInt8) : goJ L (34 :: t) = some (L, t) := by
  unfold goJ
  rw [List.length_cons, strGo, if_pos rfl]
  simp
theorem goJ_low (L : List Nat) (l : List UInt8) (h : (lookJ 0 l).toNat < 32) : goJ L l = none := by
  unfold goJ
  cases l with
  | nil => rfl
  | cons c t =>
    unfold lookJ at h
    rw [if_neg (by simp), List.headD_cons] at h
    rw [List.length_cons, strGo, if_neg (by intro e; subst e; revert h; decide), if_pos h]
    rfl
theorem goJ_esc (L : List Nat) (t : List UInt8) : goJ L (92 :: t) = (match escJ t with | none => none | some (p, u) => goJ (L ++ [p]) u) := by
  unfold goJ
  rw [List.length_cons, strGo, if_neg (by decide), if_neg (by decide), if_pos rfl]
  cases he : escJ t with
  | none => rfl
  | some pu =>
    obtain ⟨p, u⟩ := pu
    have hl := (cut_esc t p u he).2.1
    simp only
    rw [strGo_fuel t.length u.length u (by omega) (Nat.le_refl _)]
    cases strGo u.length u with
    | none => rfl
    | some x => simp
theorem goJ_step (L : List Nat) (c : UInt8) (t : List UInt8) (h1 : c ≠ 34) (h2 : ¬ c.toNat < 32) (h3 : c ≠ 92) : goJ L (c :: t) = goJ (L ++ [(decodeL (c :: t)).1]) ((c :: t).drop (decodeL (c :: t)).2) := by
  unfold goJ
  have hw := decodeL_width (c :: t)
  have hl : ((c :: t).drop (decodeL (c :: t)).2).length ≤ t.length := by rw [List.length_drop, List.length_cons]; omega
  rw [List.length_cons, strGo, if_neg h1, if_neg h2, if_neg h3]
  rw [strGo_fuel t.length _ _ hl (Nat.le_refl _)]
  cases strGo _ ((c :: t).drop (decodeL (c :: t)).2) with
  | none => rfl
  | some x => simp
theorem strJ_go (l r : List UInt8) (h : tkJ [34] l = some r) : strJ l = (goJ [] r).map fun x => (x.1.flatMap encN, x.2) := by
  unfold strJ goJ
  rw [h]
  simp only
  cases strGo r.length r with
  | none => rfl
  | some x => rfl
theorem strJ_no (l : List UInt8) (h : tkJ [34] l = none) : strJ l = none := by
  unfold strJ
  rw [h]
set_option maxRecDepth 100000 in
set_option maxHeartbeats 2000000 in
theorem rtext_err (r : Nat) (s : ByteArray) (at_ : Nat) (v : Value) (e : Int) (he : e ≠ 0) (ha : at_ ≤ s.size) (hs : s.size ≤ 20000) (w : World) (h : RdR r s at_ v e w) :
    Calls Tryz.prog 51 #[.pointer (some ⟨r, 0, none⟩)] w fun x w' => x = .returned (.string ⟨#[]⟩) ∧ RdR r s at_ v e w' ∧ RK r w w' := by
  have hs0 := hs
  have hs : s.size ≤ 1000000 := by omega
  have HH := Lib.hid h
  have HTE : Hid (∀ a e W, e ≠ 0 → a ≤ s.size → RdR r s a v e W → Calls Tryz.prog 52 #[.pointer (some ⟨r, 0, none⟩), .string ⟨#[34]⟩] W fun x w' => x = .returned (.tuple #[]) ∧ RdR r s a v e w' ∧ RK r W w') := Lib.hid fun a e W h0 h1 hW => rtake_err r s ⟨#[34]⟩ a v e h0 h1 hs (by decide) (by decide) (by decide) W hW
  have HTG : Hid (∀ a W, a ≤ s.size → RdR r s a v 0 W → Calls Tryz.prog 52 #[.pointer (some ⟨r, 0, none⟩), .string ⟨#[34]⟩] W fun x w' => x = .returned (.tuple #[]) ∧ TakeE r s v (tkJ [34] (s.data.toList.drop a)) w' ∧ RK r W w') := Lib.hid fun a W h1 hW => rtake_go r s ⟨#[34]⟩ a v h1 hs (by decide) (by decide) W hW
  have t0 : (e == 0) = false := beq_eq_false_iff_ne.2 he
  have t1 : (e != 0) = true := bne_iff_ne.2 he
  clear h hs0
  go_enter Tryz.func51, Tryz.ntmps51
  go_wp2_with fail
  refine (HTE.out at_ e _ he ha HH.out).mono ?_; rintro x w1 ⟨rfl, hr, hk⟩
  have HR1 := Lib.hid hr
  have HK1 := Lib.hid hk
  obtain ⟨c0, c1, c2, c3⟩ := HR1.out.cells
  clear hr hk
  go_wp2_with fail
  refine wp_loop_rounds 1 ?_; rw [rounds_succ]
  go_wp2_with fail
  refine (HTE.out at_ e _ he ha HR1.out).mono ?_; rintro x w2 ⟨rfl, hr, hk⟩
  have HR2 := Lib.hid hr
  have HK2 := Lib.hid (HK1.out.trans hk)
  clear hr hk c0 c1 c2 c3
  obtain ⟨c0, c1, c2, c3⟩ := HR2.out.cells
  go_wp2_with fail
  go_ret
  exact ⟨rfl, HR2.out, HK2.out⟩
set_option maxRecDepth 100000 in
set_option maxHeartbeats 4000000 in
theorem rtext_go (r : Nat) (s : ByteArray) (at_ : Nat) (v : Value) (ha : at_ ≤ s.size) (hs : s.size ≤ 20000) (hv : validD (s.data.toList.drop at_) = true) (w : World) (h : RdR r s at_ v 0 w) :
    Calls Tryz.prog 51 #[.pointer (some ⟨r, 0, none⟩)] w fun x w' => TextE r s v 0 (strJ (s.data.toList.drop at_)) x w' ∧ RK r w w' := by
  have hs0 := hs
  have hs : s.size ≤ 1000000 := by omega
  have HH := Lib.hid h
  have hlt := h.lt
  have HTE : Hid (∀ a e W, e ≠ 0 → a ≤ s.size → RdR r s a v e W → Calls Tryz.prog 52 #[.pointer (some ⟨r, 0, none⟩), .string ⟨#[34]⟩] W fun x w' => x = .returned (.tuple #[]) ∧ RdR r s a v e w' ∧ RK r W w') := Lib.hid fun a e W h0 h1 hW => rtake_err r s ⟨#[34]⟩ a v e h0 h1 hs (by decide) (by decide) (by decide) W hW
  have HTG : Hid (∀ a W, a ≤ s.size → RdR r s a v 0 W → Calls Tryz.prog 52 #[.pointer (some ⟨r, 0, none⟩), .string ⟨#[34]⟩] W fun x w' => x = .returned (.tuple #[]) ∧ TakeE r s v (tkJ [34] (s.data.toList.drop a)) w' ∧ RK r W w') := Lib.hid fun a W h1 hW => rtake_go r s ⟨#[34]⟩ a v h1 hs (by decide) (by decide) W hW
  have HLK : Hid (∀ a W, a ≤ s.size → RdR r s a v 0 W → Calls Tryz.prog 48 #[.pointer (some ⟨r, 0, none⟩)] W fun x w' => x = .returned (.int .u8 ((lookJ 0 (s.data.toList.drop a)).toNat : Int)) ∧ Below W.heap.size W w') := Lib.hid fun a W h1 h2 => rlook_any r s a v 0 h1 hs W h2
  have HES : Hid (∀ a W, a ≤ s.size → RdR r s a v 0 W → Calls Tryz.prog 73 #[.pointer (some ⟨r, 0, none⟩)] W fun x w' => EscE r s v (escJ (s.data.toList.drop a)) x w' ∧ RK r W w') := Lib.hid fun a W h1 h2 => rescape_any r s a v h1 hs W h2
  have HFA : Hid (∀ a e W, RdR r s a v e W → Calls Tryz.prog 27 #[.pointer (some ⟨r, 0, none⟩), .int .i64 40] W fun x w' => x = .returned (.tuple #[]) ∧ RdR r s a v (if e = 0 then 40 else e) w' ∧ RK r W w') := Lib.hid fun a e W hW => rfail_any r s a v e 40 W hW
  have HNX : Hid (∀ a W, a < s.size → Calls Tryz.prog 71 #[.string s, .int .i64 (a : Int)] W fun x w' => x = .returned (nextV (s.data.toList.drop a)) ∧ Below W.heap.size W w') := Lib.hid fun a W h1 => rnext_any s a h1 hs W
  have HTX : Hid (∀ (l : List Nat) (u : Value) (W : World), l.length ≤ 100000 → (∀ p ∈ l, isPt p = true) → IntSl u l W → Calls Tryz.prog 74 #[u] W fun e w' => e = .returned (.string ⟨(l.flatMap encN).toArray⟩) ∧ Below W.heap.size W w') := Lib.hid fun l u W h1 h2 h3 => rText_any l u W h1 h2 h3
  obtain ⟨O, hO⟩ : ∃ O, strJ (s.data.toList.drop at_) = O := ⟨_, rfl⟩
  have HO := Lib.hid hO
  have HVV := Lib.hid hv
  rw [hO]
  clear h hs hO hv
  go_enter Tryz.func51, Tryz.ntmps51
  go_wp2_with fail
  refine (HTG.out at_ _ ha HH.out).mono ?_; rintro x w1 ⟨rfl, hte, hk⟩
  have HK1 := Lib.hid hk
  have hw1 := hk.1.size
  clear hk
  have HSTART : Hid (∃ a ee, a ≤ s.size ∧ RdR r s a v ee w1 ∧ ((ee = 0 ∧ validD (s.data.toList.drop a) = true ∧ (goJ [] (s.data.toList.drop a)).map (fun x => (x.1.flatMap encN, x.2)) = O) ∨ (ee = 40 ∧ none = O))) := Lib.hid (by
    cases ht : tkJ [34] (s.data.toList.drop at_) with
    | none =>
      rw [ht] at hte
      obtain ⟨a, hal, hr⟩ := hte
      exact ⟨a, 40, hal, hr, Or.inr ⟨rfl, by rw [← HO.out, strJ_no _ ht]⟩⟩
    | some t =>
      rw [ht] at hte
      obtain ⟨a, hal, hd, hr⟩ := hte
      refine ⟨a, 0, hal, hr, Or.inl ⟨rfl, ?_, ?_⟩⟩
      · rw [hd]; exact (cut_tk _ _ _ (by decide) ht).1.2 HVV.out
      · rw [hd, ← HO.out, strJ_go _ _ ht])
  clear hte
  go_wp2_with fail
  go_loopg [3] (s.size + 1) (fun gk lv wr => ∃ (a : Nat) (ee : Int) (ov : Value), ov = lv ∧ a ≤ s.size ∧ Hid (RdR r s a v ee wr) ∧ Hid (RK r w wr) ∧ w.heap.size ≤ wr.heap.size ∧
    ((ee = 40 ∧ Hid (none = O)) ∨ (ee = 0 ∧ s.size + 1 ≤ gk + a ∧ ∃ L : List Nat, L.length ≤ a ∧ Hid (OwnI w.heap.size ov L wr) ∧ Hid (∀ p ∈ L, isPt p = true) ∧ Hid (validD (s.data.toList.drop a) = true) ∧ Hid ((goJ L (s.data.toList.drop a)).map (fun x => (x.1.flatMap encN, x.2)) = O))))
  case atStart =>
    obtain ⟨a, ee, hal, hr, hh⟩ := HSTART.out
    refine ⟨a, ee, _, rfl, hal, Lib.hid hr, HK1, hw1, ?_⟩
    rcases hh with ⟨rfl, h1, h2⟩ | ⟨rfl, h1⟩
    · exact Or.inr ⟨rfl, by omega, [], by simp, Lib.hid (OwnI.nil _ _), Lib.hid (fun p hp => by cases hp), Lib.hid h1, Lib.hid h2⟩
    · exact Or.inl ⟨rfl, Lib.hid h1⟩
  case round =>
    rename World => wr
    obtain ⟨a, ee, ov, rfl, hal, HRW, HKW, hwr, hh⟩ := hrel
    have hltr := HRW.out.lt
    rcases hh with ⟨rfl, HOZ⟩ | ⟨rfl, hga, L, hL, HOL, HPL, HVL, HGL⟩
    · obtain ⟨c0, c1, c2, c3⟩ := HRW.out.cells
      go_wp2_with fail
      refine (HTE.out a 40 _ (by decide) hal HRW.out).mono ?_; rintro x w2 ⟨rfl, hr, hk⟩
      have HR2 := Lib.hid hr
      have HK2 := Lib.hid (HKW.out.trans hk)
      clear hr hk c0 c1 c2 c3
      obtain ⟨c0, c1, c2, c3⟩ := HR2.out.cells
      go_wp2_with fail
      go_ret
      rw [← HOZ.out]
      exact ⟨⟨rfl, a, hal, HR2.out⟩, HK2.out⟩
    obtain ⟨c0, c1, c2, c3⟩ := HRW.out.cells
    have HLA := Lib.hid (HLK.out a)
    by_cases hq : lookJ 0 (s.data.toList.drop a) = 34
    · have hal2 : a < s.size := by
        rcases Nat.lt_or_ge a s.size with h' | h'
        · exact h'
        · rw [look_out s a (by omega)] at hq; exact absurd hq (by decide)
      rw [look_at s a hal2] at hq
      have hd : s.data.toList.drop a = 34 :: s.data.toList.drop (a + 1) := by rw [drop_at s a hal2, hq]
      have HTA := Lib.hid (HTG.out a)
      have HF : Hid (some (L.flatMap encN, s.data.toList.drop (a + 1)) = O) := Lib.hid (by have := HGL.out; rw [hd, goJ_end] at this; exact this)
      rw [hd] at HLA HTA
      rw [show tkJ [34] (34 :: s.data.toList.drop (a + 1)) = some (s.data.toList.drop (a + 1)) from by unfold tkJ; simp [List.isPrefixOf]] at HTA
      rw [show lookJ 0 (34 :: s.data.toList.drop (a + 1)) = 34 from rfl] at HLA
      rw [show (((34 : UInt8).toNat : Nat) : Int) = 34 from rfl] at HLA
      clear hq hd
      go_wp2_with fail
      refine (HLA.out _ hal HRW.out).mono ?_; rintro x w2 ⟨rfl, hb⟩
      have HR2 := Lib.hid (HRW.out.below hb)
      have HK2 := Lib.hid (HKW.out.trans (RK.of_below hb hltr))
      have HO2 := Lib.hid (HOL.out.below hb)
      clear hb
      go_wp2_with fail
      refine (HTA.out _ hal HR2.out).mono ?_; rintro x w3 ⟨rfl, hte, hk⟩
      have HK3 := Lib.hid (HK2.out.trans hk)
      have HO3 := Lib.hid (HO2.out.rk hk hlt)
      obtain ⟨a3, hal3, hd3, hr3⟩ := hte
      have HR3 := Lib.hid hr3
      have HD3 := Lib.hid hd3
      clear hk hr3 hd3 c0 c1 c2 c3
      obtain ⟨c0, c1, c2, c3⟩ := HR3.out.cells
      have hlt3 := HR3.out.lt
      go_wp2_with fail
      refine (HTX.out L _ _ (by omega) HPL.out HO3.out.sl).mono ?_; rintro x w4 ⟨rfl, hb⟩
      have HE : Hid (RdR r s a3 v 0 w4 ∧ RK r w w4) := Lib.hid ⟨HR3.out.below hb, HK3.out.trans (RK.of_below hb hlt3)⟩
      clear hb
      go_wp2_with fail
      go_ret
      rw [← HF.out]
      exact ⟨⟨rfl, a3, hal3, HD3.out, HE.out.1⟩, HE.out.2⟩
    · have t0 : (((lookJ 0 (s.data.toList.drop a)).toNat : Int) != 34) = true := bne_iff_ne.2 fun e => hq (UInt8.toNat_inj.1 (by show _ = 34; omega))
      by_cases hlo : (lookJ 0 (s.data.toList.drop a)).toNat < 32
      · have t1 : decide (((lookJ 0 (s.data.toList.drop a)).toNat : Int) < 32) = true := decide_eq_true (by omega)
        have HOZ : Hid (none = O) := Lib.hid (by have := HGL.out; rw [goJ_low _ _ hlo] at this; exact this)
        clear hq hlo
        generalize ((lookJ 0 (s.data.toList.drop a)).toNat : Int) = ci at *
        go_wp2_with fail
        refine (HLA.out _ hal HRW.out).mono ?_; rintro x w2 ⟨rfl, hb⟩
        have HR2 := Lib.hid (HRW.out.below hb)
        have HK2 := Lib.hid (HKW.out.trans (RK.of_below hb hltr))
        have hlt2 := HR2.out.lt
        clear hb
        go_wp2_with fail
        refine (HLA.out _ hal HR2.out).mono ?_; rintro x w3 ⟨rfl, hb⟩
        have HR3 := Lib.hid (HR2.out.below hb)
        have HK3 := Lib.hid (HK2.out.trans (RK.of_below hb hlt2))
        clear hb
        go_wp2_with fail
        refine (HFA.out a 0 _ HR3.out).mono ?_; rintro x w4 ⟨rfl, hr, hk⟩
        rw [if_pos rfl] at hr
        have HE : Hid (RdR r s a v 40 w4 ∧ RK r w w4) := Lib.hid ⟨hr, HK3.out.trans hk⟩
        clear hr hk
        go_wp2_with fail
        go_ret
        rw [← HOZ.out]
        exact ⟨⟨rfl, a, hal, HE.out.1⟩, HE.out.2⟩
      · have t1 : decide (((lookJ 0 (s.data.toList.drop a)).toNat : Int) < 32) = false := decide_eq_false (by omega)
        have hal2 : a < s.size := by
          rcases Nat.lt_or_ge a s.size with h' | h'
          · exact h'
          · rw [look_out s a (by omega)] at hlo; exact absurd (by decide) hlo
        by_cases hbs : lookJ 0 (s.data.toList.drop a) = 92
        · have hd : s.data.toList.drop a = 92 :: s.data.toList.drop (a + 1) := by
            rw [look_at s a hal2] at hbs
            rw [drop_at s a hal2, hbs]
          have HG2 : Hid (Option.map (fun x : List Nat × List UInt8 => (x.1.flatMap encN, x.2)) (match escJ (s.data.toList.drop (a + 1)) with | none => none | some (p, u) => goJ (L ++ [p]) u) = O) := Lib.hid (by
            have := HGL.out; rw [hd, goJ_esc] at this; exact this)
          have HV2 : Hid (validD (s.data.toList.drop (a + 1)) = true) := Lib.hid (by
            have := HVL.out; rw [hd, valid_cons _ _ (by decide)] at this; exact this)
          rw [hbs] at HLA t0 t1
          rw [show (((92 : UInt8).toNat : Nat) : Int) = 92 from rfl] at HLA t0 t1
          clear hq hlo hbs hd t0 t1
          go_wp2_with fail
          refine (HLA.out _ hal HRW.out).mono ?_; rintro x w2 ⟨rfl, hb⟩
          have HR2 := Lib.hid (HRW.out.below hb)
          have HK2 := Lib.hid (HKW.out.trans (RK.of_below hb hltr))
          have HO2 := Lib.hid (HOL.out.below hb)
          have hlt2 := HR2.out.lt
          clear hb
          go_wp2_with fail
          refine (HLA.out _ hal HR2.out).mono ?_; rintro x w3 ⟨rfl, hb⟩
          have HR3 := Lib.hid (HR2.out.below hb)
          have HK3 := Lib.hid (HK2.out.trans (RK.of_below hb hlt2))
          have HO3 := Lib.hid (HO2.out.below hb)
          have hlt3 := HR3.out.lt
          clear hb
          go_wp2_with fail
          refine (HLA.out _ hal HR3.out).mono ?_; rintro x w4 ⟨rfl, hb⟩
          have HR4 := Lib.hid (HR3.out.below hb)
          have HK4 := Lib.hid (HK3.out.trans (RK.of_below hb hlt3))
          have HO4 := Lib.hid (HO3.out.below hb)
          have hlt4 := HR4.out.lt
          clear hb c0 c1 c2 c3
          obtain ⟨c0, c1, c2, c3⟩ := HR4.out.cells
          have f1 := HR4.out.frozen 1
          have HR5 : Hid (RdR r s (a + 1) v 0 (w4.setCell ⟨r, 1, none⟩ (.int .i64 ((a + 1 : Nat) : Int)))) := Lib.hid (HR4.out.at_ (a + 1))
          have HK5 : Hid (RK r w (w4.setCell ⟨r, 1, none⟩ (.int .i64 ((a + 1 : Nat) : Int)))) := Lib.hid (HK4.out.trans (RK.set r 1 _ _))
          have HO5 : Hid (OwnI w.heap.size ov L (w4.setCell ⟨r, 1, none⟩ (.int .i64 ((a + 1 : Nat) : Int)))) := Lib.hid (HO4.out.rk (RK.set r 1 _ _) hlt)
          go_wp2_with fail
          rw [show ((a : Int) + 1) = ((a + 1 : Nat) : Int) from by omega]
          generalize (w4.setCell ⟨r, 1, none⟩ (.int .i64 ((a + 1 : Nat) : Int))) = w5 at *
          refine (HES.out (a + 1) _ hal2 HR5.out).mono ?_; rintro x w6 ⟨hes, hk⟩
          have HK6 := Lib.hid (HK5.out.trans hk)
          have HO6 := Lib.hid (HO5.out.rk hk hlt)
          clear hk c0 c1 c2 c3 f1
          cases hE : escJ (s.data.toList.drop (a + 1)) with
          | none =>
            rw [hE] at hes
            obtain ⟨n, a6, rfl, hal6, hr6⟩ := hes
            have HOZ : Hid (none = O) := Lib.hid (by have := HG2.out; rw [hE] at this; exact this)
            have HR6 := Lib.hid hr6
            have hlt6 := hr6.lt
            have hw6 := HK6.out.1.size
            clear hE hr6
            go_wp2_with (at_builtin; refine wpList_pushI rfl _ _ rfl w.heap.size ov L rfl (HO6.out.alloc _) ⟨w6.heap.size, 0, none⟩ 1 n rfl (new_cell0 w6 _ _) ?c1 ?c2 ?_)
            case c1 => omega
            case c2 => simp; omega
            intro v' w7 hown' hgrow
            have HK7 : Hid (RK r w w7) := Lib.hid ((HK6.out.trans (RK.of_below ((Below.refl w6.heap.size w6).alloc (Nat.le_refl _) _) hlt6)).grown hgrow HO6.out.lt hlt)
            have HR7 : Hid (RdR r s a6 v 40 w7) := Lib.hid ((hgrow.block r (by simp; omega) (fun e => by have := HO6.out.lt r e.symm; omega)).trans (HR6.out.below ((Below.refl w6.heap.size w6).alloc (Nat.le_refl _) _)))
            have hw7 := HK7.out.1.size
            clear hown' hgrow
            go_wp2_with fail
            go_roundg (gk - 1)
            case measure => omega
            case rel => exact ⟨a6, 40, _, rfl, hal6, HR7, HK7, hw7, Or.inl ⟨rfl, HOZ⟩⟩
          | some pt =>
            obtain ⟨p, t⟩ := pt
            rw [hE] at hes
            obtain ⟨rfl, a6, hal6, hd6, hr6⟩ := hes
            obtain ⟨k1, k2, k3⟩ := cut_esc _ p t hE
            have HG3 : Hid ((goJ (L ++ [p]) (s.data.toList.drop a6)).map (fun x => (x.1.flatMap encN, x.2)) = O) := Lib.hid (by have := HG2.out; rw [hE] at this; rw [hd6]; exact this)
            have HV3 : Hid (validD (s.data.toList.drop a6) = true) := Lib.hid (by rw [hd6]; exact k1.2 HV2.out)
            have ha6 : a + 1 < a6 := by
              rw [← hd6, dl_len, dl_len] at k2
              omega
            have HPL2 : Hid (∀ q ∈ L ++ [p], isPt q = true) := Lib.hid fun q hq => by
              rcases List.mem_append.1 hq with h | h
              · exact HPL.out q h
              · rw [List.mem_singleton] at h; rw [h]; exact k3
            have HR6 := Lib.hid hr6
            have hlt6 := hr6.lt
            have hw6 := HK6.out.1.size
            clear hE hr6 k1 k2 k3 hd6
            go_wp2_with (at_builtin; refine wpList_pushI rfl _ _ rfl w.heap.size ov L rfl (HO6.out.alloc _) ⟨w6.heap.size, 0, none⟩ 1 p rfl (new_cell0 w6 _ _) ?c1 ?c2 ?_)
            case c1 => omega
            case c2 => simp; omega
            intro v' w7 hown' hgrow
            have HO7 := Lib.hid hown'
            have HK7 : Hid (RK r w w7) := Lib.hid ((HK6.out.trans (RK.of_below ((Below.refl w6.heap.size w6).alloc (Nat.le_refl _) _) hlt6)).grown hgrow HO6.out.lt hlt)
            have HR7 : Hid (RdR r s a6 v 0 w7) := Lib.hid ((hgrow.block r (by simp; omega) (fun e => by have := HO6.out.lt r e.symm; omega)).trans (HR6.out.below ((Below.refl w6.heap.size w6).alloc (Nat.le_refl _) _)))
            have hw7 := HK7.out.1.size
            clear hown' hgrow
            go_wp2_with fail
            go_roundg (gk - 1)
            case measure => omega
            case rel => exact ⟨a6, 0, _, rfl, hal6, HR7, HK7, hw7, Or.inr ⟨rfl, by omega, L ++ [p], by simp; omega, HO7, HPL2, HV3, HG3⟩⟩
        · have t2 : (((lookJ 0 (s.data.toList.drop a)).toNat : Int) == 92) = false := beq_eq_false_iff_ne.2 fun e => hbs (UInt8.toNat_inj.1 (by show _ = 92; omega))
          obtain ⟨c, hcc⟩ : ∃ c, s[a] = c := ⟨_, rfl⟩
          have hd : s.data.toList.drop a = c :: s.data.toList.drop (a + 1) := by rw [drop_at s a hal2, hcc]
          have hlc : lookJ 0 (s.data.toList.drop a) = c := by rw [look_at s a hal2, hcc]
          have HNA := Lib.hid (fun W => HNX.out a W hal2)
          have hvs := valid_step (s.data.toList.drop a) (by rw [hd]; simp)
          rw [HVL.out] at hvs
          have hvs2 := hvs.symm
          rw [Bool.and_eq_true] at hvs2
          obtain ⟨hw, hv2⟩ := hvs2
          obtain ⟨d1, d2, d3, d4⟩ := decode_pt (s.data.toList.drop a) (by rw [hd]; simp) hw
          unfold nextV at HNA
          rw [hw, if_pos rfl] at HNA
          rw [dl_len] at d3
          have HG3 : Hid ((goJ (L ++ [(decodeL (s.data.toList.drop a)).1]) (s.data.toList.drop (a + (decodeL (s.data.toList.drop a)).2))).map (fun x => (x.1.flatMap encN, x.2)) = O) := Lib.hid (by
            have := HGL.out
            rw [hd, goJ_step _ _ _ (by rw [← hlc]; exact hq) (by rw [← hlc]; exact hlo) (by rw [← hlc]; exact hbs), ← hd, List.drop_drop] at this
            exact this)
          rw [List.drop_drop] at hv2
          have HV3 := Lib.hid hv2
          have HPL2 : Hid (∀ q ∈ L ++ [(decodeL (s.data.toList.drop a)).1], isPt q = true) := Lib.hid fun q hq => by
            rcases List.mem_append.1 hq with h | h
            · exact HPL.out q h
            · rw [List.mem_singleton] at h; rw [h]; exact d1
          rw [hlc] at HLA t0 t1 t2
          clear hq hlo hbs hd hlc hvs hv2 hw d1 d4 hcc
          generalize (decodeL (s.data.toList.drop a)).2 = m at *
          generalize (decodeL (s.data.toList.drop a)).1 = p at *
          generalize (c.toNat : Int) = ci at *
          go_wp2_with fail
          refine (HLA.out _ hal HRW.out).mono ?_; rintro x w2 ⟨rfl, hb⟩
          have HR2 := Lib.hid (HRW.out.below hb)
          have HK2 := Lib.hid (HKW.out.trans (RK.of_below hb hltr))
          have HO2 := Lib.hid (HOL.out.below hb)
          have hlt2 := HR2.out.lt
          clear hb
          go_wp2_with fail
          refine (HLA.out _ hal HR2.out).mono ?_; rintro x w3 ⟨rfl, hb⟩
          have HR3 := Lib.hid (HR2.out.below hb)
          have HK3 := Lib.hid (HK2.out.trans (RK.of_below hb hlt2))
          have HO3 := Lib.hid (HO2.out.below hb)
          have hlt3 := HR3.out.lt
          clear hb
          go_wp2_with fail
          refine (HLA.out _ hal HR3.out).mono ?_; rintro x w4 ⟨rfl, hb⟩
          have HR4 := Lib.hid (HR3.out.below hb)
          have HK4 := Lib.hid (HK3.out.trans (RK.of_below hb hlt3))
          have HO4 := Lib.hid (HO3.out.below hb)
          have hlt4 := HR4.out.lt
          clear hb c0 c1 c2 c3
          obtain ⟨c0, c1, c2, c3⟩ := HR4.out.cells
          have HS0 : Hid (w4.cell? ⟨r, 0, none⟩ = some (.string s) ∧ w4.cell? ⟨r, 1, none⟩ = some (.int .i64 (a : Int)) ∧ Below w4.heap.size w4 w4) := Lib.hid ⟨c0, c1, Below.refl _ _⟩
          go_wp2_with fail
          go_region_held3 (fun W => W.cell? ⟨r, 0, none⟩ = some (.string s) ∧ W.cell? ⟨r, 1, none⟩ = some (.int .i64 (a : Int)) ∧ Below w4.heap.size w4 W)
            (first | assumption | exact keepL hlt4 HS0.out ⟨rfl, rfl, rfl, Nat.le_refl _, fun _ _ => rfl⟩ | exact keepL hlt4 (by assumption) (by assumption))
            (first | ((with_reducible refine (HNA.out _).mono ?_); rintro e w5 ⟨rfl, hb⟩))
          all_goals
            rename_i hS
            obtain ⟨_, _, hb5⟩ := hS
            have HR5 := Lib.hid (HR4.out.below hb5)
            have HK5 := Lib.hid (HK4.out.trans (RK.of_below hb5 hlt4))
            have HO5 := Lib.hid (HO4.out.below hb5)
            have hlt5 := HR5.out.lt
            have hw5 := HK5.out.1.size
            clear hb5
            go_wp2_with (at_builtin; refine wpList_pushI rfl _ _ rfl w.heap.size ov L rfl (HO5.out.alloc _) ⟨w5.heap.size, 0, none⟩ 1 p rfl (new_cell0 w5 _ _) ?c1 ?c2 ?_)
            case c1 => omega
            case c2 => simp; omega
            intro v' w7 hown' hgrow
            have HO7 := Lib.hid hown'
            have HK7 : Hid (RK r w w7) := Lib.hid ((HK5.out.trans (RK.of_below ((Below.refl w5.heap.size w5).alloc (Nat.le_refl _) _) hlt5)).grown hgrow HO5.out.lt hlt)
            have HR7 : Hid (RdR r s a v 0 w7) := Lib.hid ((hgrow.block r (by simp; omega) (fun e => by have := HO5.out.lt r e.symm; omega)).trans (HR5.out.below ((Below.refl w5.heap.size w5).alloc (Nat.le_refl _) _)))
            clear hown' hgrow
            clear c0 c1 c2 c3
            obtain ⟨c0, c1, c2, c3⟩ := HR7.out.cells
            have f1 := HR7.out.frozen 1
            have HR8 : Hid (RdR r s (a + m) v 0 (w7.setCell ⟨r, 1, none⟩ (.int .i64 ((a + m : Nat) : Int)))) := Lib.hid (HR7.out.at_ (a + m))
            have HK8 : Hid (RK r w (w7.setCell ⟨r, 1, none⟩ (.int .i64 ((a + m : Nat) : Int)))) := Lib.hid (HK7.out.trans (RK.set r 1 _ _))
            have HO8 : Hid (OwnI w.heap.size v' (L ++ [p]) (w7.setCell ⟨r, 1, none⟩ (.int .i64 ((a + m : Nat) : Int)))) := Lib.hid (HO7.out.rk (RK.set r 1 _ _) hlt)
            have hw8 := HK8.out.1.size
            go_wp2_with fail
            rw [show ((a : Int) + (m : Int)) = ((a + m : Nat) : Int) from by omega]
            go_roundg (gk - 1)
            case measure => omega
            case rel => exact ⟨a + m, 0, _, rfl, by omega, HR8, HK8, hw8, Or.inr ⟨rfl, by omega, L ++ [p], by simp; omega, HO8, HPL2, HV3, HG3⟩⟩
theorem rtext_any (r : Nat) (s : ByteArray) (at_ : Nat) (v : Value) (e : Int) (ha : at_ ≤ s.size) (hs : s.size ≤ 20000) (hv : e = 0 → validD (s.data.toList.drop at_) = true) (w : World) (h : RdR r s at_ v e w) :
    Calls Tryz.prog 51 #[.pointer (some ⟨r, 0, none⟩)] w fun x w' => TextE r s v e (if e = 0 then strJ (s.data.toList.drop at_) else none) x w' ∧ RK r w w' := by
  by_cases he : e = 0
  · subst he
    rw [if_pos rfl]
    exact rtext_go r s at_ v ha hs (hv rfl) w h
  · rw [if_neg he]
    refine (rtext_err r s at_ v e he ha hs w h).mono ?_
    rintro x w' ⟨rfl, hr, hk⟩
    refine ⟨⟨rfl, at_, ha, ?_⟩, hk⟩
    rw [if_neg he]
    exact hr
end Go.Proofs.YtglhanblbojkhaaGreatDoor
