/- The walk through the program's Join (lex). -/
import Derived.Test.YtcplgiimhedloaaDoorLf
import Derived.Test.YtcplgiimhedloaaDoorOs
import Derived.Test.YtcplgiimhedloaaDoorRk
set_option linter.unusedSimpArgs false
set_option linter.unusedVariables false
namespace Go.Proofs.YtcplgiimhedloaaDoor
open Go.RowKit
def wordsB (L : List Tok) : List ByteArray := (wordsT L).map fun l => (⟨l.toArray⟩ : ByteArray)
theorem wordsB_end (t : Tok) (r : List Tok) (h : t.kind = 0) : wordsB (t :: r) = wordsB r := by unfold wordsB; rw [wordsT, if_pos h]
theorem wordsB_word (t : Tok) (r : List Tok) (h : t.kind ≠ 0) : wordsB (t :: r) = ⟨(tellT t).toArray⟩ :: wordsB r := by unfold wordsB; rw [wordsT, if_neg h]; rfl
theorem wordsB_list (L : List Tok) : (wordsB L).map (·.data.toList) = wordsT L := by
  unfold wordsB
  rw [List.map_map]
  exact (List.map_congr_left fun l _ => by simp).trans (List.map_id _)
theorem wordsT_len : ∀ L : List Tok, (wordsT L).length ≤ L.length
  | [] => Nat.le_refl _
  | t :: r => by
    have := wordsT_len r
    rw [wordsT]
    split
    · simp; omega
    · simp; omega
theorem joinT_len (L : List Tok) (hz : ∀ t ∈ L, t.text.length ≤ 20000) : (joinT L).length ≤ 120003 * L.length := by
  have hr : ∀ L : List Tok, (∀ t ∈ L, t.text.length ≤ 20000) → (restT L).length ≤ 120003 * L.length := by
    intro L
    induction L with
    | nil => intro _; simp [restT]
    | cons t r ih =>
      intro h
      have h1 := h t (List.mem_cons_self ..)
      have h2 := ih fun u hu => h u (List.mem_cons_of_mem _ hu)
      have h3 := tellT_len t
      have h4 : (if t.kind = 0 then ([] : List UInt8) else [32]).length ≤ 1 := by split <;> simp
      rw [restT, List.length_append, List.length_append, List.length_cons]
      omega
  cases L with
  | nil => simp [joinT]
  | cons t r =>
    have h1 := hz t (List.mem_cons_self ..)
    have h2 := hr r fun u hu => hz u (List.mem_cons_of_mem _ hu)
    have h3 := tellT_len t
    rw [joinT, List.length_append, List.length_cons]
    omega
def QuoteDoes (w : World) : Prop := ∀ (x : ByteArray), x.size ≤ 100000 → Lib.validD x.data.toList = true → x.data.toList.length ≤ 16384 → ∀ W : World, Below w.heap.size w W →
    Calls Tryd.prog 10 #[.string x] W fun e w' => e = .returned (.tuple #[.string ⟨(quoteL x.data.toList).toArray⟩, .int .i64 0]) ∧ Below W.heap.size W w'
def CheckDoes (w : World) : Prop := ∀ (k : UInt8) (x : ByteArray) (p : Int), x.size ≤ 100000 → ∀ W : World, Below w.heap.size w W →
    Calls Tryd.prog 7 #[.agg #[.int .u8 (k.toNat : Int), .string x, .int .i64 p]] W fun e w' => e = .returned (.int .i64 (if okT ⟨k, x.data.toList, p⟩ then 0 else 8)) ∧ Below W.heap.size W w'
set_option maxRecDepth 100000 in
set_option maxHeartbeats 1000000 in
theorem ljoin_row (L : List Tok) (b off cap : Nat) (hl : L.length ≤ 3000) (hz : ∀ t ∈ L, t.text.length ≤ 20000) (w : World) (HC : CheckDoes w) (HQQ : QuoteDoes w) (h1 : TokRow b off L w) :
    Calls Tryd.prog 5 #[.slice (some ⟨b, off, none⟩) L.length cap] w fun e w' => e = .returned (joinE L) ∧ Below w.heap.size w w' := by
  have H1 := Lib.hid h1
  have HZ := Lib.hid hz
  have HCC := Lib.hid HC
  have HQT := Lib.hid HQQ
  obtain ⟨r, hr⟩ : ∃ r, okTs L = r := ⟨_, rfl⟩
  have HR0 := Lib.hid hr
  have HR : Hid (okTs (L.drop 0) = r) := Lib.hid hr
  obtain ⟨E, hE⟩ : ∃ E, joinE L = E := ⟨_, rfl⟩
  have HE := Lib.hid hE
  have HW : Hid ([] ++ wordsB (L.drop 0) = wordsB L) := Lib.hid rfl
  rw [hE]
  clear hr hE h1 hz HC HQQ
  go_enter Tryd.func5, Tryd.ntmps5
  go_wp2_with fail
  go_loopw [4, 11] (fun v i wr => ∃ (k : Nat) (out : List ByteArray) (ov : Value), ov = v ∧ k ≤ L.length ∧ i = .int .i64 k ∧ out.length ≤ k ∧ Hid (OwnS w.heap.size ov out wr) ∧ Hid (out ++ wordsB (L.drop k) = wordsB L) ∧ Hid (okTs (L.drop k) = r) ∧ Hid (Below w.heap.size w wr)) (fun v i wr => L.length - (intOf i).toNat)
  case atStart => exact ⟨0, [], _, rfl, Nat.zero_le _, rfl, Nat.le_refl _, Lib.hid (OwnS.nil _ _), HW, HR, Lib.hid (Below.refl _ _)⟩
  case round =>
    rename World => wr
    obtain ⟨k, out, ov, rfl, hk, rfl, hout, HO, HQ, HS, HB⟩ := hrel
    by_cases hlt : k < L.length
    · obtain ⟨a0, a1, a2⟩ := (H1.out.below' HB.out) k hlt
      have hxs := HZ.out L[k] (List.getElem_mem _)
      have hxz : (⟨L[k].text.toArray⟩ : ByteArray).size = L[k].text.length := by show L[k].text.toArray.size = _; simp
      have H2 := Lib.hid (fun W hW => HCC.out L[k].kind ⟨L[k].text.toArray⟩ L[k].pos (by omega) W hW)
      have htt : (⟨L[k].kind, (⟨L[k].text.toArray⟩ : ByteArray).data.toList, L[k].pos⟩ : Tok) = L[k] := by simp
      rw [htt] at H2
      have hsz := HB.out.size
      have hstep := HS.out
      have hlast := okTs_last L k hlt
      have hnext := okTs_step L k hlt
      have hkind : ((L[k].kind.toNat : Int) = 0) ↔ L[k].kind = 0 := by
        constructor
        · intro h; exact UInt8.toNat_inj.1 (by show L[k].kind.toNat = 0; omega)
        · intro h; rw [h]; rfl
      clear hxs hxz htt HS
      cases hm : okT L[k] with
      | false =>
        rw [hm, if_neg Bool.false_ne_true] at H2
        have HF : Hid (Ending.returned (.tuple #[.string ⟨#[]⟩, .int .i64 8]) = Ending.returned E) := Lib.hid (by
          have h0 : okTs (L.drop k) = false := by
            by_cases hk1 : k + 1 < L.length
            · rw [hnext hk1, hm]; rfl
            · rw [hlast hk1, hm]
          rw [← HE.out]
          exact joinE_no (HR0.out.trans (hstep.symm.trans h0)))
        clear hm hnext hlast hstep hkind
        generalize (L[k].kind.toNat : Int) = ka at *
        generalize L[k].pos = pa at *
        generalize (⟨L[k].text.toArray⟩ : ByteArray) = x at *
        go_wp2_with fail
        refine (H2.out _ (HB.out.alloc hsz _)).mono ?_; rintro e w1 ⟨rfl, hb⟩
        have hh : w1.heap[wr.heap.size]? = some (.cells #[.int .u8 ka, .string x, .int .i64 pa] 31 (0, 0)) := (hb.block _ (by simp)).trans (heap_alloc_new wr _)
        have c0 : w1.cell? ⟨wr.heap.size, 0, none⟩ = some (.int .u8 ka) := by rw [Lib.cell_of_heap hh]; rfl
        have c1 : w1.cell? ⟨wr.heap.size, 1, none⟩ = some (.string x) := by rw [Lib.cell_of_heap hh]; rfl
        have c2 : w1.cell? ⟨wr.heap.size, 2, none⟩ = some (.int .i64 pa) := by rw [Lib.cell_of_heap hh]; rfl
        have hbw1 := (HB.out.alloc hsz _).trans (hb.mono (by simp; omega))
        have hsz1 := hbw1.size
        have HB1 := Lib.hid hbw1
        have HO1 := Lib.hid ((HO.out.alloc (.cells #[.int .u8 ka, .string x, .int .i64 pa] 31)).below hb)
        have HH := Lib.hid hh
        clear hb hh hbw1
        go_wp2_with fail
        go_ret2
        exact ⟨HF.out, HB1.out⟩
      | true =>
        rw [hm, if_pos rfl] at H2
        have hdw := List.drop_eq_getElem_cons hlt
        by_cases kk : L[k].kind = 0
        · have q0 : ((L[k].kind.toNat : Int) == 0) = true := beq_iff_eq.2 (hkind.2 kk)
          by_cases hk1 : k + 1 < L.length
          · have HF : Hid (Ending.returned (.tuple #[.string ⟨#[]⟩, .int .i64 8]) = Ending.returned E) := Lib.hid (by
              have h0 : okTs (L.drop k) = false := by rw [hnext hk1, kk]; simp
              rw [← HE.out]
              exact joinE_no (HR0.out.trans (hstep.symm.trans h0)))
            have hki : (k : Int) < (L.length : Int) - 1 := by omega
            clear hm hnext hlast hstep hkind kk hdw
            generalize (L[k].kind.toNat : Int) = ka at *
            generalize L[k].pos = pa at *
            generalize (⟨L[k].text.toArray⟩ : ByteArray) = x at *
            go_wp2_with fail
            refine (H2.out _ (HB.out.alloc hsz _)).mono ?_; rintro e w1 ⟨rfl, hb⟩
            have hh : w1.heap[wr.heap.size]? = some (.cells #[.int .u8 ka, .string x, .int .i64 pa] 31 (0, 0)) := (hb.block _ (by simp)).trans (heap_alloc_new wr _)
            have c0 : w1.cell? ⟨wr.heap.size, 0, none⟩ = some (.int .u8 ka) := by rw [Lib.cell_of_heap hh]; rfl
            have c1 : w1.cell? ⟨wr.heap.size, 1, none⟩ = some (.string x) := by rw [Lib.cell_of_heap hh]; rfl
            have c2 : w1.cell? ⟨wr.heap.size, 2, none⟩ = some (.int .i64 pa) := by rw [Lib.cell_of_heap hh]; rfl
            have hbw1 := (HB.out.alloc hsz _).trans (hb.mono (by simp; omega))
            have hsz1 := hbw1.size
            have HB1 := Lib.hid hbw1
            have HO1 := Lib.hid ((HO.out.alloc (.cells #[.int .u8 ka, .string x, .int .i64 pa] 31)).below hb)
            have HH := Lib.hid hh
            clear hb hh hbw1
            go_wp2_with fail
            go_ret2
            exact ⟨HF.out, HB1.out⟩
          · have HS2 : Hid (okTs (L.drop (k + 1)) = r) := Lib.hid (by
              rw [← hstep, hlast hk1, hm, List.drop_of_length_le (by omega)]; rfl)
            have HQ2 : Hid (out ++ wordsB (L.drop (k + 1)) = wordsB L) := Lib.hid (by
              have := HQ.out
              rw [hdw, wordsB_end _ _ kk] at this
              exact this)
            have hki : ¬ (k : Int) < (L.length : Int) - 1 := by omega
            clear hm hnext hlast hstep hkind kk hdw HQ
            generalize (L[k].kind.toNat : Int) = ka at *
            generalize L[k].pos = pa at *
            generalize (⟨L[k].text.toArray⟩ : ByteArray) = x at *
            go_wp2_with fail
            refine (H2.out _ (HB.out.alloc hsz _)).mono ?_; rintro e w1 ⟨rfl, hb⟩
            have hh : w1.heap[wr.heap.size]? = some (.cells #[.int .u8 ka, .string x, .int .i64 pa] 31 (0, 0)) := (hb.block _ (by simp)).trans (heap_alloc_new wr _)
            have c0 : w1.cell? ⟨wr.heap.size, 0, none⟩ = some (.int .u8 ka) := by rw [Lib.cell_of_heap hh]; rfl
            have c1 : w1.cell? ⟨wr.heap.size, 1, none⟩ = some (.string x) := by rw [Lib.cell_of_heap hh]; rfl
            have c2 : w1.cell? ⟨wr.heap.size, 2, none⟩ = some (.int .i64 pa) := by rw [Lib.cell_of_heap hh]; rfl
            have hbw1 := (HB.out.alloc hsz _).trans (hb.mono (by simp; omega))
            have hsz1 := hbw1.size
            have HB1 := Lib.hid hbw1
            have HO1 := Lib.hid ((HO.out.alloc (.cells #[.int .u8 ka, .string x, .int .i64 pa] 31)).below hb)
            have HH := Lib.hid hh
            clear hb hh hbw1
            go_wp2_with fail
            go_roundw
            case rel => exact ⟨k + 1, out, _, rfl, by omega, by go_num, by omega, HO1, HQ2, HS2, HB1⟩
            case measure => simp [intOf]; omega
        · have q0 : ((L[k].kind.toNat : Int) == 0) = false := beq_eq_false_iff_ne.2 fun h => kk (hkind.1 h)
          have HS2 : Hid (okTs (L.drop (k + 1)) = r) := Lib.hid (by
            by_cases hk1 : k + 1 < L.length
            · rw [← hstep, hnext hk1, hm, beq_eq_false_iff_ne.2 kk]; simp
            · rw [← hstep, hlast hk1, hm, List.drop_of_length_le (by omega)]; rfl)
          have HQ2 : Hid ((out ++ [⟨(tellT L[k]).toArray⟩]) ++ wordsB (L.drop (k + 1)) = wordsB L) := Lib.hid (by
            have := HQ.out
            rw [hdw, wordsB_word _ _ kk] at this
            rw [← this]; simp)
          by_cases k3 : L[k].kind = 3
          · have q3 : ((L[k].kind.toNat : Int) == 3) = true := by rw [k3]; rfl
            have htx : textB L[k].text = true := by
              unfold okT at hm
              rw [k3] at hm
              simpa using hm
            have H5 : Hid (∀ W : World, Below w.heap.size w W → Calls Tryd.prog 10 #[.string ⟨L[k].text.toArray⟩] W fun e w' => e = .returned (.tuple #[.string ⟨(tellT L[k]).toArray⟩, .int .i64 0]) ∧ Below W.heap.size W w') := Lib.hid (by
              unfold textB at htx
              simp only [Bool.and_eq_true, decide_eq_true_eq] at htx
              have ht : tellT L[k] = quoteL L[k].text := by unfold tellT; rw [if_pos k3]
              rw [ht]
              have hq := HQT.out ⟨L[k].text.toArray⟩ (by show L[k].text.toArray.size ≤ _; simp; omega) (by simpa using htx.2) (by simpa using htx.1)
              simpa using hq)
            clear hm hnext hlast hstep hkind kk hdw HQ htx k3
            generalize (⟨(tellT L[k]).toArray⟩ : ByteArray) = tx at *
            generalize (L[k].kind.toNat : Int) = ka at *
            generalize L[k].pos = pa at *
            generalize (⟨L[k].text.toArray⟩ : ByteArray) = x at *
            go_wp2_with fail
            refine (H2.out _ (HB.out.alloc hsz _)).mono ?_; rintro e w1 ⟨rfl, hb⟩
            have hh : w1.heap[wr.heap.size]? = some (.cells #[.int .u8 ka, .string x, .int .i64 pa] 31 (0, 0)) := (hb.block _ (by simp)).trans (heap_alloc_new wr _)
            have c0 : w1.cell? ⟨wr.heap.size, 0, none⟩ = some (.int .u8 ka) := by rw [Lib.cell_of_heap hh]; rfl
            have c1 : w1.cell? ⟨wr.heap.size, 1, none⟩ = some (.string x) := by rw [Lib.cell_of_heap hh]; rfl
            have c2 : w1.cell? ⟨wr.heap.size, 2, none⟩ = some (.int .i64 pa) := by rw [Lib.cell_of_heap hh]; rfl
            have hbw1 := (HB.out.alloc hsz _).trans (hb.mono (by simp; omega))
            have hsz1 := hbw1.size
            have HB1 := Lib.hid hbw1
            have HO1 := Lib.hid ((HO.out.alloc (.cells #[.int .u8 ka, .string x, .int .i64 pa] 31)).below hb)
            have HH := Lib.hid hh
            clear hb hh hbw1
            go_wp2_with fail
            refine (H5.out _ HB1.out).mono ?_; rintro e w2 ⟨rfl, hb⟩
            have HO2 := Lib.hid (HO1.out.below hb)
            have hbw2 := HB1.out.trans (hb.mono hsz1)
            have hsz2 := hbw2.size
            clear hb HO1
            go_wp2_with (at_builtin; refine wpList_pushS rfl _ _ rfl w.heap.size ov out rfl (HO2.out.alloc _) ⟨w2.heap.size, 0, none⟩ 1 tx rfl (new_cell0 w2 _ _) ?c1 ?c2 ?_)
            case c1 => omega
            case c2 => simp; omega
            intro v' w3 hown' hgrow
            have HB3 : Hid (Below w.heap.size w w3) := Lib.hid ((hbw2.alloc hsz2 _).grown hgrow (by simp; omega) HO2.out.lt)
            have HO3 := Lib.hid hown'
            clear hown' hgrow HO2 hbw2
            go_wp2_with fail
            go_roundw
            case rel => exact ⟨k + 1, out ++ [tx], _, rfl, by omega, by go_num, by simp; omega, HO3, HQ2, HS2, HB3⟩
            case measure => simp [intOf]; omega
          · have q3 : ((L[k].kind.toNat : Int) == 3) = false := by
              rw [beq_eq_false_iff_ne]; intro h; exact k3 (UInt8.toNat_inj.1 (by show L[k].kind.toNat = 3; omega))
            have ht : tellT L[k] = L[k].text := by unfold tellT; rw [if_neg k3]
            rw [ht] at HQ2
            clear hm hnext hlast hstep hkind kk hdw HQ k3 ht
            generalize (L[k].kind.toNat : Int) = ka at *
            generalize L[k].pos = pa at *
            generalize (⟨L[k].text.toArray⟩ : ByteArray) = x at *
            go_wp2_with fail
            refine (H2.out _ (HB.out.alloc hsz _)).mono ?_; rintro e w1 ⟨rfl, hb⟩
            have hh : w1.heap[wr.heap.size]? = some (.cells #[.int .u8 ka, .string x, .int .i64 pa] 31 (0, 0)) := (hb.block _ (by simp)).trans (heap_alloc_new wr _)
            have c0 : w1.cell? ⟨wr.heap.size, 0, none⟩ = some (.int .u8 ka) := by rw [Lib.cell_of_heap hh]; rfl
            have c1 : w1.cell? ⟨wr.heap.size, 1, none⟩ = some (.string x) := by rw [Lib.cell_of_heap hh]; rfl
            have c2 : w1.cell? ⟨wr.heap.size, 2, none⟩ = some (.int .i64 pa) := by rw [Lib.cell_of_heap hh]; rfl
            have hbw1 := (HB.out.alloc hsz _).trans (hb.mono (by simp; omega))
            have hsz1 := hbw1.size
            have HB1 := Lib.hid hbw1
            have HO1 := Lib.hid ((HO.out.alloc (.cells #[.int .u8 ka, .string x, .int .i64 pa] 31)).below hb)
            have HH := Lib.hid hh
            clear hb hh hbw1
            go_wp2_with (at_builtin; refine wpList_pushS rfl _ _ rfl w.heap.size ov out rfl (HO1.out.alloc _) ⟨w1.heap.size, 0, none⟩ 1 x rfl (new_cell0 w1 _ _) ?c1 ?c2 ?_)
            case c1 => omega
            case c2 => simp; omega
            intro v' w3 hown' hgrow
            have HB3 : Hid (Below w.heap.size w w3) := Lib.hid ((HB1.out.alloc hsz1 _).grown hgrow (by simp; omega) HO1.out.lt)
            have HO3 := Lib.hid hown'
            clear hown' hgrow HO1
            go_wp2_with fail
            go_roundw
            case rel => exact ⟨k + 1, out ++ [x], _, rfl, by omega, by go_num, by simp; omega, HO3, HQ2, HS2, HB3⟩
            case measure => simp [intOf]; omega
    · have hd : L.drop k = [] := List.drop_of_length_le (by omega)
      have HF : Hid (Ending.returned (.tuple #[.string ⟨(joinT L).toArray⟩, .int .i64 0]) = Ending.returned E) := Lib.hid (by
        have h0 := HS.out
        rw [hd] at h0
        rw [← HE.out]
        exact joinE_yes (HR0.out.trans h0.symm))
      have hok : okTs L = true := by
        have h0 := HS.out
        rw [hd] at h0
        exact HR0.out.trans h0.symm
      have hout' : out = wordsB L := by
        have := HQ.out
        rw [hd] at this
        simpa [wordsB, wordsT] using this
      have hsz := HB.out.size
      have H3 : Hid (Calls Tryd.prog 11 #[ov, .string ⟨#[32]⟩] wr fun e w' => e = .returned (.string ⟨(joinT L).toArray⟩) ∧ Below wr.heap.size wr w') := Lib.hid (by
        have hj : joinW (out.map (·.data.toList)) = joinT L := by rw [hout', wordsB_list, join_words L hok]
        have hjl := joinT_len L HZ.out
        have h := sjoin_any w.heap.size ov out wr HO.out (by omega) (by rw [hj]; omega)
        rw [hj] at h
        exact h)
      clear HS HQ hd hok hout'
      generalize (⟨(joinT L).toArray⟩ : ByteArray) = q at *
      go_wp2_with fail
      refine H3.out.mono ?_; rintro e w1 ⟨rfl, hb⟩
      have HB1 := Lib.hid (HB.out.trans (hb.mono hsz))
      clear hb
      go_wp2_with fail
      go_ret2
      exact ⟨HF.out, HB1.out⟩
set_option maxRecDepth 100000 in
theorem ljoin_none (a : Option Addr) (cap : Nat) (w : World) :
    Calls Tryd.prog 5 #[.slice a 0 cap] w fun e w' => e = .returned (joinE []) ∧ Below w.heap.size w w' := by
  have H3 := Lib.hid (fun w => sjoin_any 0 (.slice none 0 0) [] w (OwnS.nil _ _) (by decide) (by decide))
  go_enter Tryd.func5, Tryd.ntmps5
  go_wp2_with fail
  refine wp_loop_rounds 1 ?_; rw [rounds_succ]
  go_wp2_with fail
  refine (H3.out _).mono ?_; rintro e w1 ⟨rfl, hb⟩
  go_wp2_with fail
  go_ret2
  exact ⟨rfl, hb⟩
theorem ljoin_any (L : List Tok) (u : Value) (hl : L.length ≤ 3000) (hz : ∀ t ∈ L, t.text.length ≤ 20000) (w : World) (hE : EnvU w) (h1 : TokSl u L w) :
    Calls Tryd.prog 5 #[u] w fun e w' => e = .returned (joinE L) ∧ Below w.heap.size w w' := by
  rcases h1 with ⟨a1, c1, rfl, rfl, _⟩ | ⟨b1, o1, c1, rfl, h1⟩
  · exact ljoin_none a1 c1 w
  · refine ljoin_row L b1 o1 c1 hl hz w (fun k x p hx W hW => lcheck_any k x p (by omega) W (hE.below hW)) (fun x hx hv hn W hW => ?_) h1
    refine (jquote_any x hx W (hE.below hW)).mono ?_
    rintro e w' ⟨h2, h3⟩
    refine ⟨?_, h3⟩
    have hc : chkE x.data.toList = 0 := by unfold chkE; rw [if_neg (by omega), hv]; rfl
    rw [h2, if_pos hc]
end Go.Proofs.YtcplgiimhedloaaDoor
