/- The walk through plain (address). -/
import Derived.Test.YtcocjmbhbddgiaaGreatDoorBc
set_option linter.unusedSimpArgs false
set_option linter.unusedVariables false
namespace Go.Proofs.YtcocjmbhbddgiaaGreatDoor
open Go.RowKit
theorem own_below {w w' : World} {B e size n : Nat} {v : Value} {xs : List Value} (h : w.ownsRow B e size v n xs) (hb : Below w.heap.size w w') : w'.ownsRow B e size v n xs := by
  obtain ⟨h1, h2⟩ := h
  refine ⟨h1, ?_⟩
  rcases h2 with h2 | ⟨g, cap, cur, hv, hB, hg, hrest⟩
  · exact Or.inl h2
  · have hlt : g < w.heap.size := (Array.getElem?_eq_some_iff.1 hg).1
    exact Or.inr ⟨g, cap, cur, hv, hB, (hb.block g hlt).trans hg, hrest⟩
theorem Bld.below {B b : Nat} {l : List UInt8} {w w' : World} (h : Bld B b l w) (hb : Below w.heap.size w w') : Bld B b l w' := by
  have key : ∀ {p : Value}, Lib.BuilderAt 66 5 B b p (Lib.byteCells l) w → Lib.BuilderAt 66 5 B b p (Lib.byteCells l) w' := by
    rintro p ⟨hB, v, hbk, hown, hne⟩
    have hlt : b < w.heap.size := (Array.getElem?_eq_some_iff.1 hbk).1
    exact ⟨hB, v, (hb.block b hlt).trans hbk, own_below hown hb, hne⟩
  rcases h with h | h
  · exact Or.inl (key h)
  · exact Or.inr (key h)
theorem free_ascii (c : UInt8) (h : isFree c = true) : c.toNat < 128 := by
  have g := all_bytes (f := fun c => (!isFree c || decide (c.toNat < 128))) (g := fun _ => true) (by decide +kernel) c
  simp only [h, Bool.not_true, Bool.false_or, decide_eq_true_eq] at g
  exact g
theorem encode_ascii (c : UInt8) (h : c.toNat < 128) : Utf8.encode (c.toNat : Int) = bs [c] := by
  have hv : Utf8.valid (c.toNat : Int) = true := by
    simp only [Utf8.valid, Bool.or_eq_true, Bool.and_eq_true, decide_eq_true_eq]
    left; omega
  unfold Utf8.encode
  simp only [hv, if_true, Int.toNat_natCast]
  rw [if_pos h, UInt8.ofNat_toNat]
  rfl
/-- plain's state: the builder's bytes, the set's words. -/
def PS (w : World) (bd b2 : Nat) (out : List UInt8) (W : World) : Prop :=
  Bld w.heap.size bd out W ∧ W.heap[b2]? = some (.cells #[.int .u64 288054454291267584, .int .u64 5188146764422578174, .int .u64 0, .int .u64 0] 58 (0, 0)) ∧ w.heap.size ≤ W.heap.size ∧ Below w.heap.size w W
theorem PS.below {w W w1 : World} {bd b2 : Nat} {out : List UInt8} (h : PS w bd b2 out W) (hb : Below W.heap.size W w1) : PS w bd b2 out w1 := by
  obtain ⟨h1, h2, h3, h4⟩ := h
  exact ⟨h1.below hb, (hb.block _ (Array.getElem?_eq_some_iff.1 h2).1).trans h2, Nat.le_trans h3 hb.size, h4.trans (hb.mono h3)⟩
theorem pwrite {w W : World} {bd b2 : Nat} {out : List UInt8} (h : PS w bd b2 out W) (hne : b2 ≠ bd) (x : ByteArray) (hlen : out.length + x.size ≤ 100000000) :
    Calls Tryz.prog 41 #[.pointer (some ⟨bd, 0, none⟩), .string x] W fun e w' => e = .returned (.tuple #[.int .i64 x.size, .nilIface]) ∧ PS w bd b2 (out ++ x.data.toList) w' := by
  obtain ⟨h1, h2, h3, h4⟩ := h
  refine (wstr w.heap.size bd out x W h1 hlen h3).mono ?_
  rintro e w' ⟨rfl, k1, k2, k3⟩
  exact ⟨rfl, k1, k3 b2 _ h2 (by intro e; injection e; contradiction) (by intro c fz e; injection e with _ e2 _; exact absurd e2 (by decide)), Nat.le_trans h3 k2.size, h4.trans k2⟩
theorem pset_cells {w W : World} {bd b2 : Nat} {out : List UInt8} (h : PS w bd b2 out W) : W.cell? ⟨b2, 0, none⟩ = some (.int .u64 288054454291267584) ∧ W.cell? ⟨b2, 1, none⟩ = some (.int .u64 5188146764422578174) ∧ W.cell? ⟨b2, 2, none⟩ = some (.int .u64 0) ∧ W.cell? ⟨b2, 3, none⟩ = some (.int .u64 0) := by
  have := h.2.1
  refine ⟨?_, ?_, ?_, ?_⟩ <;> (rw [Lib.cell_of_heap this]; rfl)
set_option maxRecDepth 100000 in
set_option maxHeartbeats 4000000 in
theorem plain_lower (tf : UInt8 → UInt8) (HTF : Hid (∀ (c : UInt8) (V : World), c.toNat < 128 → Calls Tryz.prog 20 #[.string (bs [c])] V fun e w' => e = .returned (.string (bs [tf c])) ∧ Below V.heap.size V w'))
    (s : ByteArray) (hs : s.size ≤ 100000) (hasc : Hid (∀ c ∈ s.data.toList, c.toNat < 128)) (w : World) :
    Calls Tryz.prog 19 #[.string s, .func (.func 20) #[] #[]] w fun e w' => e = .returned (.string (bs (plainL tf s.data.toList))) ∧ Below w.heap.size w w' := by
  obtain ⟨A, hA, HO, HH, _⟩ := set_free
  obtain ⟨l, hl⟩ : ∃ l, s.data.toList = l := ⟨_, rfl⟩
  obtain rfl : s = bs l := bs_of s l hl
  rw [bs_list] at *
  have hll : l.length ≤ 100000 := by rw [← bs_size]; exact hs
  obtain ⟨r, hr⟩ : ∃ r, plainL tf l = r := ⟨_, rfl⟩
  have HR := Lib.hid hr
  rw [hr]
  clear hr hl
  go_enter Tryz.func19, Tryz.ntmps19
  go_wp2_with fail
  refine (HO.out _ _ (by simp [go_sem]) (by simp)).mono ?_
  rintro e w1 ⟨rfl, hb1⟩
  subst hA
  have hz1 : w.heap.size + 2 ≤ w1.heap.size := by have := hb1.size; simpa using this
  have hP0 : PS w w.heap.size w1.heap.size [] (w1.alloc (.cells #[.int .u64 288054454291267584, .int .u64 5188146764422578174, .int .u64 0, .int .u64 0] 58)) := by
    have hbk : w1.heap[w.heap.size]? = some (.cells #[.pointer none, .slice none 0 0] 66 (0, 0)) := by
      rw [hb1.block _ (by first | (simp; done) | (simp; omega)), Below.heap_alloc _ _ _ (by first | (simp; done) | (simp; omega))]
      exact heap_alloc_new w _
    refine ⟨?_, heap_alloc_new w1 _, by simp; omega, ?_⟩
    · refine Or.inl ⟨Nat.le_refl _, .slice none 0 0, ?_, World.ownsRow_nil _ _ _ _, by simp [Value.ownBlock]⟩
      rw [Below.heap_alloc _ _ _ (by omega)]; exact hbk
    · exact ((((Below.refl w.heap.size w).alloc (Nat.le_refl _) _).alloc (by simp) _).trans (hb1.mono (by simp; omega))).alloc (by omega) _
  have HP0 := Lib.hid hP0
  have hne0 : ¬ w1.heap.size = w.heap.size := by omega
  clear hP0 hb1 HO
  go_wp2_with fail
  go_loopg [0] l.length (fun k u wr => ∃ (j : Nat) (out : List UInt8), u = .string (bs (l.drop j)) ∧ k + j = l.length ∧ out.length ≤ j ∧ Hid (PS w w.heap.size w1.heap.size out wr) ∧ Hid (out ++ plainL tf (l.drop j) = r))
  case atStart => exact ⟨0, [], rfl, by omega, by simp, HP0, Lib.hid (by rw [List.drop_zero]; exact HR.out)⟩
  case round =>
    rename World => wo
    obtain ⟨j, out, rfl, hk, hout, HP, HJ⟩ := hrel
    obtain ⟨c0, c1, c2, c3⟩ := pset_cells HP.out
    cases ht : l.drop j with
    | nil =>
      have HF : Hid (out = r) := Lib.hid (by have := HJ.out; rw [ht] at this; simpa [plainL] using this)
      have he1 : (bs ([] : List UInt8)).toList = [] := by rw [ByteArray.toList_eq]; rfl
      have he2 : (bs ([] : List UInt8)).toList.isEmpty = true := by rw [he1]; rfl
      clear HJ ht
      go_wp2_with fail
      refine (wdone w.heap.size w.heap.size out wo HP.out.1 HP.out.2.2.1).mono ?_
      rintro e w3 ⟨rfl, hb3⟩
      have hfin := HP.out.2.2.2.trans hb3
      go_wp2_with fail
      go_ret
      exact ⟨congrArg (fun z => Ending.returned (Value.string (bs z))) HF.out, hfin⟩
    | cons a t =>
      have hjl : j < l.length := by
        rcases Nat.lt_or_ge j l.length with q | q
        · exact q
        · rw [List.drop_of_length_le q] at ht; cases ht
      have htl : t = l.drop (j + 1) := by
        have := List.drop_eq_getElem_cons hjl
        rw [ht] at this
        exact (List.cons.inj this).2
      have ha : a.toNat < 128 := hasc.out a (by
        have : a ∈ l.drop j := by rw [ht]; exact List.mem_cons_self
        exact List.mem_of_mem_drop this)
      have hlen : t.length + 1 = l.length - j := by
        have := congrArg List.length ht
        rw [List.length_drop, List.length_cons] at this
        omega
      have he1 : ¬ (bs (a :: t)).toList = [] := by rw [ByteArray.toList_eq]; exact List.cons_ne_nil _ _
      have he2 : (bs (a :: t)).toList.isEmpty = false := by rw [ByteArray.toList_eq]; rfl
      have hsz : (bs (a :: t)).size = t.length + 1 := by rw [bs_size]; rfl
      rw [ht] at HJ
      cases he : esc (a :: t) with
      | false =>
        have HE := Lib.hid (fun w => byteOf_no (bs (a :: t)) (by omega) he w)
        have HJ2 : Hid ((out ++ [tf a]) ++ plainL tf (l.drop (j + 1)) = r) := Lib.hid (by
          have := HJ.out
          rw [plain_cons tf a t he] at this
          rw [← htl, List.append_assoc]; exact this)
        have hx1 : (bs (a :: t)).extract 0 1 = bs [a] := (extract_bs (a :: t) 1 (by simp)).1
        have hx2 : (bs (a :: t)).extract 1 (t.length + 1) = bs (l.drop (j + 1)) := by
          have := (extract_bs (a :: t) 1 (by simp)).2
          rw [hsz] at this
          rw [this, ← htl]; rfl
        have HTa := Lib.hid (fun V => HTF.out a V ha)
        obtain ⟨g, rfl⟩ : ∃ g, gk = g + 1 := ⟨gk - 1, by omega⟩
        clear he HJ ht htl hlen
        obtain ⟨S, hS⟩ : ∃ S, bs (a :: t) = S := ⟨_, rfl⟩
        obtain ⟨S2, hS2⟩ : ∃ S2, bs (l.drop (j + 1)) = S2 := ⟨_, rfl⟩
        rw [hS] at hsz he1 he2 hx1 hx2 HE ⊢
        rw [hS2] at hx2
        have HS2 := Lib.hid hS2
        clear hS hS2
        go_wp2_with fail
        refine (HE.out _).mono ?_; rintro e w2 ⟨rfl, hb2⟩
        have P2 := Lib.hid (HP.out.below hb2)
        clear hb2 c0 c1 c2 c3
        go_wp2_with fail
        refine (HTa.out _).mono ?_; rintro e w3 ⟨rfl, hb3⟩
        have P3 := Lib.hid (P2.out.below hb3)
        clear hb3
        go_wp2_with fail
        refine (pwrite P3.out hne0 (bs [tf a]) (by rw [bs_size]; simp; omega)).mono ?_
        rintro e w4 ⟨rfl, h4⟩
        have P4 := Lib.hid h4
        clear h4
        go_wp2_with fail
        go_roundg g
        case measure => omega
        case rel => exact ⟨j + 1, out ++ [tf a], by rw [HS2.out], by omega, by simp; omega, P4, HJ2⟩
      | true =>
        obtain ⟨b, c, t2, rfl⟩ : ∃ b c t2, t = b :: c :: t2 := by
          match t, he with
          | [], he => cases he
          | [b], he => cases he
          | b :: c :: t2, _ => exact ⟨b, c, t2, rfl⟩
        have he' := he
        simp only [esc, Bool.and_eq_true] at he
        obtain ⟨⟨ea, hb⟩, hc⟩ := he
        obtain rfl : a = 37 := by simpa using ea
        have hjl3 : j + 3 ≤ l.length := by simp only [List.length_cons] at hlen; omega
        have htl3 : t2 = l.drop (j + 3) := by
          have := congrArg (List.drop 2) htl
          rw [List.drop_drop] at this
          exact this
        have hvn : (16 * hexI b.toNat + hexI c.toNat) = ((escByte b c).toNat : Int) := by
          have q1 := hexI_hex b
          have q2 := hexI_hex c
          rw [hb] at q1
          rw [hc] at q2
          simp at q1 q2
          unfold escByte
          rw [UInt8.toNat_ofNat']
          omega
        have HE0 := Lib.hid (fun w => byteOf_yes (bs (37 :: b :: c :: t2)) (by omega) (by simp only [List.length_cons] at hsz; omega) he' w)
        have HE : Hid (∀ w, Calls Tryz.prog 40 #[.string (bs (37 :: b :: c :: t2))] w fun e w' => e = .returned (.tuple #[.int .u8 ((escByte b c).toNat : Int), .bool true]) ∧ Below w.heap.size w w') := Lib.hid (fun w => (HE0.out w).mono fun e w' ⟨q, q'⟩ => ⟨by rw [q, ← hvn]; rfl, q'⟩)
        clear HE0
        have HJ2 : Hid ((out ++ outE tf b c) ++ plainL tf (l.drop (j + 3)) = r) := Lib.hid (by
          have := HJ.out
          rw [plain_esc tf b c t2 hb hc] at this
          rw [← htl3, List.append_assoc]; exact this)
        have hx1 : (bs (37 :: b :: c :: t2)).extract 0 3 = bs [37, b, c] := (extract_bs (37 :: b :: c :: t2) 3 (by simp)).1
        have hx2 : (bs (37 :: b :: c :: t2)).extract 3 ((b :: c :: t2).length + 1) = bs (l.drop (j + 3)) := by
          have := (extract_bs (37 :: b :: c :: t2) 3 (by simp)).2
          rw [hsz] at this
          rw [this, ← htl3]; rfl
        have HU := Lib.hid (fun V => upper_s (bs [37, b, c]) b c rfl rfl rfl rfl hb hc V)
        have HF := Lib.hid (fun V => HH.out V (escByte b c))
        have hE128 : isFree (escByte b c) = true → (escByte b c).toNat < 128 := free_ascii (escByte b c)
        obtain ⟨g, rfl⟩ : ∃ g, gk = g + 3 := ⟨gk - 3, by simp only [List.length_cons] at hlen; omega⟩
        have h3 : 2 < (b :: c :: t2).length + 1 := by simp only [List.length_cons]; omega
        clear he' HJ ht htl htl3 hb hc ea hvn ha hlen
        obtain ⟨S, hS⟩ : ∃ S, bs (37 :: b :: c :: t2) = S := ⟨_, rfl⟩
        obtain ⟨S2, hS2⟩ : ∃ S2, bs (l.drop (j + 3)) = S2 := ⟨_, rfl⟩
        rw [hS] at hsz he1 he2 hx1 hx2 HE ⊢
        rw [hS2] at hx2
        have HS2 := Lib.hid hS2
        clear hS hS2
        generalize (b :: c :: t2).length = tn at *
        cases hfr : isFree (escByte b c) with
        | true =>
          have hE := hE128 hfr
          have HJ3 : Hid ((out ++ [tf (escByte b c)]) ++ plainL tf (l.drop (j + 3)) = r) := Lib.hid (by
            have := HJ2.out; unfold outE at this; rw [if_pos hfr] at this; exact this)
          rw [hfr] at HF
          have HTa := Lib.hid (fun V => HTF.out (escByte b c) V hE)
          have henc : Utf8.encode ((escByte b c).toNat : Int) = bs [escByte b c] := encode_ascii (escByte b c) hE
          have hE2 : ((escByte b c).toNat : Int) < 128 := by omega
          clear hE128 hfr HJ2 HU hx1
          generalize escByte b c = x at *
          go_wp2_with fail
          refine (HE.out _).mono ?_; rintro e w2 ⟨rfl, hb2⟩
          have P2 := Lib.hid (HP.out.below hb2)
          clear hb2 c0 c1 c2 c3
          obtain ⟨c0, c1, c2, c3⟩ := pset_cells P2.out
          go_wp2_with fail
          refine (HF.out _).mono ?_; rintro e w3 ⟨rfl, hb3⟩
          have P3 := Lib.hid (P2.out.below hb3)
          clear hb3 c0 c1 c2 c3
          go_wp2_with fail
          refine (HTa.out _).mono ?_; rintro e w4 ⟨rfl, hb4⟩
          have P4 := Lib.hid (P3.out.below hb4)
          clear hb4
          go_wp2_with fail
          refine (pwrite P4.out hne0 (bs [tf x]) (by rw [bs_size]; simp; omega)).mono ?_
          rintro e w5 ⟨rfl, h5⟩
          have P5 := Lib.hid h5
          clear h5
          go_wp2_with fail
          go_roundg g
          case measure => omega
          case rel => exact ⟨j + 3, out ++ [tf x], by rw [HS2.out], by omega, by simp; omega, P5, HJ3⟩
        | false =>
          have HJ3 : Hid ((out ++ [37, upB b, upB c]) ++ plainL tf (l.drop (j + 3)) = r) := Lib.hid (by
            have := HJ2.out; unfold outE at this; rw [if_neg (by rw [hfr]; decide)] at this; exact this)
          rw [hfr] at HF
          clear hE128 hfr HJ2
          generalize escByte b c = x at *
          go_wp2_with fail
          refine (HE.out _).mono ?_; rintro e w2 ⟨rfl, hb2⟩
          have P2 := Lib.hid (HP.out.below hb2)
          clear hb2 c0 c1 c2 c3
          obtain ⟨c0, c1, c2, c3⟩ := pset_cells P2.out
          go_wp2_with fail
          refine (HF.out _).mono ?_; rintro e w3 ⟨rfl, hb3⟩
          have P3 := Lib.hid (P2.out.below hb3)
          clear hb3 c0 c1 c2 c3
          go_wp2_with fail
          refine (HU.out _).mono ?_; rintro e w4 ⟨rfl, hb4⟩
          have P4 := Lib.hid (P3.out.below hb4)
          clear hb4
          go_wp2_with fail
          refine (pwrite P4.out hne0 (bs [37, upB b, upB c]) (by rw [bs_size]; simp; omega)).mono ?_
          rintro e w5 ⟨rfl, h5⟩
          have P5 := Lib.hid h5
          clear h5
          go_wp2_with fail
          go_roundg g
          case measure => omega
          case rel => exact ⟨j + 3, out ++ [37, upB b, upB c], by rw [HS2.out], by omega, by simp; omega, P5, HJ3⟩
set_option maxRecDepth 100000 in
set_option maxHeartbeats 4000000 in
theorem plain_same (tf : UInt8 → UInt8) (HTF : Hid (∀ (c : UInt8) (V : World), c.toNat < 128 → Calls Tryz.prog 18 #[.string (bs [c])] V fun e w' => e = .returned (.string (bs [tf c])) ∧ Below V.heap.size V w'))
    (s : ByteArray) (hs : s.size ≤ 100000) (hasc : Hid (∀ c ∈ s.data.toList, c.toNat < 128)) (w : World) :
    Calls Tryz.prog 19 #[.string s, .func (.func 18) #[] #[]] w fun e w' => e = .returned (.string (bs (plainL tf s.data.toList))) ∧ Below w.heap.size w w' := by
  obtain ⟨A, hA, HO, HH, _⟩ := set_free
  obtain ⟨l, hl⟩ : ∃ l, s.data.toList = l := ⟨_, rfl⟩
  obtain rfl : s = bs l := bs_of s l hl
  rw [bs_list] at *
  have hll : l.length ≤ 100000 := by rw [← bs_size]; exact hs
  obtain ⟨r, hr⟩ : ∃ r, plainL tf l = r := ⟨_, rfl⟩
  have HR := Lib.hid hr
  rw [hr]
  clear hr hl
  go_enter Tryz.func19, Tryz.ntmps19
  go_wp2_with fail
  refine (HO.out _ _ (by simp [go_sem]) (by simp)).mono ?_
  rintro e w1 ⟨rfl, hb1⟩
  subst hA
  have hz1 : w.heap.size + 2 ≤ w1.heap.size := by have := hb1.size; simpa using this
  have hP0 : PS w w.heap.size w1.heap.size [] (w1.alloc (.cells #[.int .u64 288054454291267584, .int .u64 5188146764422578174, .int .u64 0, .int .u64 0] 58)) := by
    have hbk : w1.heap[w.heap.size]? = some (.cells #[.pointer none, .slice none 0 0] 66 (0, 0)) := by
      rw [hb1.block _ (by first | (simp; done) | (simp; omega)), Below.heap_alloc _ _ _ (by first | (simp; done) | (simp; omega))]
      exact heap_alloc_new w _
    refine ⟨?_, heap_alloc_new w1 _, by simp; omega, ?_⟩
    · refine Or.inl ⟨Nat.le_refl _, .slice none 0 0, ?_, World.ownsRow_nil _ _ _ _, by simp [Value.ownBlock]⟩
      rw [Below.heap_alloc _ _ _ (by omega)]; exact hbk
    · exact ((((Below.refl w.heap.size w).alloc (Nat.le_refl _) _).alloc (by simp) _).trans (hb1.mono (by simp; omega))).alloc (by omega) _
  have HP0 := Lib.hid hP0
  have hne0 : ¬ w1.heap.size = w.heap.size := by omega
  clear hP0 hb1 HO
  go_wp2_with fail
  go_loopg [0] l.length (fun k u wr => ∃ (j : Nat) (out : List UInt8), u = .string (bs (l.drop j)) ∧ k + j = l.length ∧ out.length ≤ j ∧ Hid (PS w w.heap.size w1.heap.size out wr) ∧ Hid (out ++ plainL tf (l.drop j) = r))
  case atStart => exact ⟨0, [], rfl, by omega, by simp, HP0, Lib.hid (by rw [List.drop_zero]; exact HR.out)⟩
  case round =>
    rename World => wo
    obtain ⟨j, out, rfl, hk, hout, HP, HJ⟩ := hrel
    obtain ⟨c0, c1, c2, c3⟩ := pset_cells HP.out
    cases ht : l.drop j with
    | nil =>
      have HF : Hid (out = r) := Lib.hid (by have := HJ.out; rw [ht] at this; simpa [plainL] using this)
      have he1 : (bs ([] : List UInt8)).toList = [] := by rw [ByteArray.toList_eq]; rfl
      have he2 : (bs ([] : List UInt8)).toList.isEmpty = true := by rw [he1]; rfl
      clear HJ ht
      go_wp2_with fail
      refine (wdone w.heap.size w.heap.size out wo HP.out.1 HP.out.2.2.1).mono ?_
      rintro e w3 ⟨rfl, hb3⟩
      have hfin := HP.out.2.2.2.trans hb3
      go_wp2_with fail
      go_ret
      exact ⟨congrArg (fun z => Ending.returned (Value.string (bs z))) HF.out, hfin⟩
    | cons a t =>
      have hjl : j < l.length := by
        rcases Nat.lt_or_ge j l.length with q | q
        · exact q
        · rw [List.drop_of_length_le q] at ht; cases ht
      have htl : t = l.drop (j + 1) := by
        have := List.drop_eq_getElem_cons hjl
        rw [ht] at this
        exact (List.cons.inj this).2
      have ha : a.toNat < 128 := hasc.out a (by
        have : a ∈ l.drop j := by rw [ht]; exact List.mem_cons_self
        exact List.mem_of_mem_drop this)
      have hlen : t.length + 1 = l.length - j := by
        have := congrArg List.length ht
        rw [List.length_drop, List.length_cons] at this
        omega
      have he1 : ¬ (bs (a :: t)).toList = [] := by rw [ByteArray.toList_eq]; exact List.cons_ne_nil _ _
      have he2 : (bs (a :: t)).toList.isEmpty = false := by rw [ByteArray.toList_eq]; rfl
      have hsz : (bs (a :: t)).size = t.length + 1 := by rw [bs_size]; rfl
      rw [ht] at HJ
      cases he : esc (a :: t) with
      | false =>
        have HE := Lib.hid (fun w => byteOf_no (bs (a :: t)) (by omega) he w)
        have HJ2 : Hid ((out ++ [tf a]) ++ plainL tf (l.drop (j + 1)) = r) := Lib.hid (by
          have := HJ.out
          rw [plain_cons tf a t he] at this
          rw [← htl, List.append_assoc]; exact this)
        have hx1 : (bs (a :: t)).extract 0 1 = bs [a] := (extract_bs (a :: t) 1 (by simp)).1
        have hx2 : (bs (a :: t)).extract 1 (t.length + 1) = bs (l.drop (j + 1)) := by
          have := (extract_bs (a :: t) 1 (by simp)).2
          rw [hsz] at this
          rw [this, ← htl]; rfl
        have HTa := Lib.hid (fun V => HTF.out a V ha)
        obtain ⟨g, rfl⟩ : ∃ g, gk = g + 1 := ⟨gk - 1, by omega⟩
        clear he HJ ht htl hlen
        obtain ⟨S, hS⟩ : ∃ S, bs (a :: t) = S := ⟨_, rfl⟩
        obtain ⟨S2, hS2⟩ : ∃ S2, bs (l.drop (j + 1)) = S2 := ⟨_, rfl⟩
        rw [hS] at hsz he1 he2 hx1 hx2 HE ⊢
        rw [hS2] at hx2
        have HS2 := Lib.hid hS2
        clear hS hS2
        go_wp2_with fail
        refine (HE.out _).mono ?_; rintro e w2 ⟨rfl, hb2⟩
        have P2 := Lib.hid (HP.out.below hb2)
        clear hb2 c0 c1 c2 c3
        go_wp2_with fail
        refine (HTa.out _).mono ?_; rintro e w3 ⟨rfl, hb3⟩
        have P3 := Lib.hid (P2.out.below hb3)
        clear hb3
        go_wp2_with fail
        refine (pwrite P3.out hne0 (bs [tf a]) (by rw [bs_size]; simp; omega)).mono ?_
        rintro e w4 ⟨rfl, h4⟩
        have P4 := Lib.hid h4
        clear h4
        go_wp2_with fail
        go_roundg g
        case measure => omega
        case rel => exact ⟨j + 1, out ++ [tf a], by rw [HS2.out], by omega, by simp; omega, P4, HJ2⟩
      | true =>
        obtain ⟨b, c, t2, rfl⟩ : ∃ b c t2, t = b :: c :: t2 := by
          match t, he with
          | [], he => cases he
          | [b], he => cases he
          | b :: c :: t2, _ => exact ⟨b, c, t2, rfl⟩
        have he' := he
        simp only [esc, Bool.and_eq_true] at he
        obtain ⟨⟨ea, hb⟩, hc⟩ := he
        obtain rfl : a = 37 := by simpa using ea
        have hjl3 : j + 3 ≤ l.length := by simp only [List.length_cons] at hlen; omega
        have htl3 : t2 = l.drop (j + 3) := by
          have := congrArg (List.drop 2) htl
          rw [List.drop_drop] at this
          exact this
        have hvn : (16 * hexI b.toNat + hexI c.toNat) = ((escByte b c).toNat : Int) := by
          have q1 := hexI_hex b
          have q2 := hexI_hex c
          rw [hb] at q1
          rw [hc] at q2
          simp at q1 q2
          unfold escByte
          rw [UInt8.toNat_ofNat']
          omega
        have HE0 := Lib.hid (fun w => byteOf_yes (bs (37 :: b :: c :: t2)) (by omega) (by simp only [List.length_cons] at hsz; omega) he' w)
        have HE : Hid (∀ w, Calls Tryz.prog 40 #[.string (bs (37 :: b :: c :: t2))] w fun e w' => e = .returned (.tuple #[.int .u8 ((escByte b c).toNat : Int), .bool true]) ∧ Below w.heap.size w w') := Lib.hid (fun w => (HE0.out w).mono fun e w' ⟨q, q'⟩ => ⟨by rw [q, ← hvn]; rfl, q'⟩)
        clear HE0
        have HJ2 : Hid ((out ++ outE tf b c) ++ plainL tf (l.drop (j + 3)) = r) := Lib.hid (by
          have := HJ.out
          rw [plain_esc tf b c t2 hb hc] at this
          rw [← htl3, List.append_assoc]; exact this)
        have hx1 : (bs (37 :: b :: c :: t2)).extract 0 3 = bs [37, b, c] := (extract_bs (37 :: b :: c :: t2) 3 (by simp)).1
        have hx2 : (bs (37 :: b :: c :: t2)).extract 3 ((b :: c :: t2).length + 1) = bs (l.drop (j + 3)) := by
          have := (extract_bs (37 :: b :: c :: t2) 3 (by simp)).2
          rw [hsz] at this
          rw [this, ← htl3]; rfl
        have HU := Lib.hid (fun V => upper_s (bs [37, b, c]) b c rfl rfl rfl rfl hb hc V)
        have HF := Lib.hid (fun V => HH.out V (escByte b c))
        have hE128 : isFree (escByte b c) = true → (escByte b c).toNat < 128 := free_ascii (escByte b c)
        obtain ⟨g, rfl⟩ : ∃ g, gk = g + 3 := ⟨gk - 3, by simp only [List.length_cons] at hlen; omega⟩
        have h3 : 2 < (b :: c :: t2).length + 1 := by simp only [List.length_cons]; omega
        clear he' HJ ht htl htl3 hb hc ea hvn ha hlen
        obtain ⟨S, hS⟩ : ∃ S, bs (37 :: b :: c :: t2) = S := ⟨_, rfl⟩
        obtain ⟨S2, hS2⟩ : ∃ S2, bs (l.drop (j + 3)) = S2 := ⟨_, rfl⟩
        rw [hS] at hsz he1 he2 hx1 hx2 HE ⊢
        rw [hS2] at hx2
        have HS2 := Lib.hid hS2
        clear hS hS2
        generalize (b :: c :: t2).length = tn at *
        cases hfr : isFree (escByte b c) with
        | true =>
          have hE := hE128 hfr
          have HJ3 : Hid ((out ++ [tf (escByte b c)]) ++ plainL tf (l.drop (j + 3)) = r) := Lib.hid (by
            have := HJ2.out; unfold outE at this; rw [if_pos hfr] at this; exact this)
          rw [hfr] at HF
          have HTa := Lib.hid (fun V => HTF.out (escByte b c) V hE)
          have henc : Utf8.encode ((escByte b c).toNat : Int) = bs [escByte b c] := encode_ascii (escByte b c) hE
          have hE2 : ((escByte b c).toNat : Int) < 128 := by omega
          clear hE128 hfr HJ2 HU hx1
          generalize escByte b c = x at *
          go_wp2_with fail
          refine (HE.out _).mono ?_; rintro e w2 ⟨rfl, hb2⟩
          have P2 := Lib.hid (HP.out.below hb2)
          clear hb2 c0 c1 c2 c3
          obtain ⟨c0, c1, c2, c3⟩ := pset_cells P2.out
          go_wp2_with fail
          refine (HF.out _).mono ?_; rintro e w3 ⟨rfl, hb3⟩
          have P3 := Lib.hid (P2.out.below hb3)
          clear hb3 c0 c1 c2 c3
          go_wp2_with fail
          refine (HTa.out _).mono ?_; rintro e w4 ⟨rfl, hb4⟩
          have P4 := Lib.hid (P3.out.below hb4)
          clear hb4
          go_wp2_with fail
          refine (pwrite P4.out hne0 (bs [tf x]) (by rw [bs_size]; simp; omega)).mono ?_
          rintro e w5 ⟨rfl, h5⟩
          have P5 := Lib.hid h5
          clear h5
          go_wp2_with fail
          go_roundg g
          case measure => omega
          case rel => exact ⟨j + 3, out ++ [tf x], by rw [HS2.out], by omega, by simp; omega, P5, HJ3⟩
        | false =>
          have HJ3 : Hid ((out ++ [37, upB b, upB c]) ++ plainL tf (l.drop (j + 3)) = r) := Lib.hid (by
            have := HJ2.out; unfold outE at this; rw [if_neg (by rw [hfr]; decide)] at this; exact this)
          rw [hfr] at HF
          clear hE128 hfr HJ2
          generalize escByte b c = x at *
          go_wp2_with fail
          refine (HE.out _).mono ?_; rintro e w2 ⟨rfl, hb2⟩
          have P2 := Lib.hid (HP.out.below hb2)
          clear hb2 c0 c1 c2 c3
          obtain ⟨c0, c1, c2, c3⟩ := pset_cells P2.out
          go_wp2_with fail
          refine (HF.out _).mono ?_; rintro e w3 ⟨rfl, hb3⟩
          have P3 := Lib.hid (P2.out.below hb3)
          clear hb3 c0 c1 c2 c3
          go_wp2_with fail
          refine (HU.out _).mono ?_; rintro e w4 ⟨rfl, hb4⟩
          have P4 := Lib.hid (P3.out.below hb4)
          clear hb4
          go_wp2_with fail
          refine (pwrite P4.out hne0 (bs [37, upB b, upB c]) (by rw [bs_size]; simp; omega)).mono ?_
          rintro e w5 ⟨rfl, h5⟩
          have P5 := Lib.hid h5
          clear h5
          go_wp2_with fail
          go_roundg g
          case measure => omega
          case rel => exact ⟨j + 3, out ++ [37, upB b, upB c], by rw [HS2.out], by omega, by simp; omega, P5, HJ3⟩
set_option maxRecDepth 100000 in
theorem same_any (s : ByteArray) (w : World) :
    Calls Tryz.prog 18 #[.string s] w fun e w' => e = .returned (.string s) ∧ Below w.heap.size w w' := by
  go_enter Tryz.func18, Tryz.ntmps18
  go_wp2_with fail
  go_ret
  exact ⟨rfl, Below.refl _ _⟩
theorem plain_small (s : ByteArray) (hs : s.size ≤ 100000) (hasc : Hid (∀ c ∈ s.data.toList, c.toNat < 128)) (w : World) :
    Calls Tryz.prog 19 #[.string s, .func (.func 20) #[] #[]] w fun e w' => e = .returned (.string (bs (plainL lowB s.data.toList))) ∧ Below w.heap.size w w' :=
  plain_lower lowB (Lib.hid fun c V h => lower_s (bs [c]) c rfl rfl h V) s hs hasc w
theorem plain_kept (s : ByteArray) (hs : s.size ≤ 100000) (hasc : Hid (∀ c ∈ s.data.toList, c.toNat < 128)) (w : World) :
    Calls Tryz.prog 19 #[.string s, .func (.func 18) #[] #[]] w fun e w' => e = .returned (.string (bs (plainL id s.data.toList))) ∧ Below w.heap.size w w' :=
  plain_same id (Lib.hid fun c V _ => same_any (bs [c]) V) s hs hasc w
end Go.Proofs.YtcocjmbhbddgiaaGreatDoor
