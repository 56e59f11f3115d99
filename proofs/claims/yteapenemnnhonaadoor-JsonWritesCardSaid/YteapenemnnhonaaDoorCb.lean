/- The walks through the program's behind, Check, Plain (cell). -/
import Derived.Test.YteapenemnnhonaaDoorCz
set_option linter.unusedSimpArgs false
set_option linter.unusedVariables false
namespace Go.Proofs.YteapenemnnhonaaDoor
open Go.RowKit
theorem valN_drop (V : List Cel) (k d : Nat) (hk : k < V.length) : valN d (V.drop k) = if oneC V[k] then (if nestC V[k] then (match d with | 0 => none | d' + 1 => (kidsN (valN d') (V[k].kind == 6) V[k].many.toNat [] (V.drop (k + 1))).map (1 + ·)) else some 1) else none := by
  rw [List.drop_eq_getElem_cons hk]
  cases d with
  | zero =>
    rw [valN_zero, headN_cons]
    cases oneC V[k] <;> cases nestC V[k] <;> rfl
  | succ d => rw [valN_more, headN_cons]
theorem behind_case (w0 : World) (V : List Cel) (b off cap bv ba bw be g : Nat) (hrow : CelRow b off V w0) (hbl : b < w0.heap.size) (hs : SmallV V) (hE : EnvU w0)
    (HSM : Hid (∀ c ∈ V, c.name.length ≤ 100000)) (HTX : Hid (∀ (W' : World) (x : ByteArray), x.size ≤ 100000 → Below w0.heap.size w0 W' → Calls Tryd.prog 36 #[.string x] W' fun e w' => e = .returned (.int .i64 (chkE x.data.toList)) ∧ Below W'.heap.size W' w'))
    (d : Nat) (hd : d ≤ 16) (W : World) (es : Array Value) (k : Nat) (hk : k < V.length) (hB : BH w0 V b off cap bv ba bw be g es W)
    (HIH : 0 < d → Hid (∀ (W' : World) (es' : Array Value) (p : Nat), p < V.length → BH w0 V b off cap bv ba bw be g es' W' → Calls Tryd.prog 35 #[.int .i64 (p : Int), .int .i64 ((d : Int) - 1), .pointer (some ⟨bv, 0, none⟩), .pointer (some ⟨ba, 0, none⟩), .pointer (some ⟨bw, 0, none⟩), .pointer (some ⟨be, 0, none⟩)] W' fun e w' => BEnd V p (d - 1) g es' (endI V p (d - 1)) e W' w')) :
    Calls Tryd.prog 35 #[.int .i64 (k : Int), .int .i64 (d : Int), .pointer (some ⟨bv, 0, none⟩), .pointer (some ⟨ba, 0, none⟩), .pointer (some ⟨bw, 0, none⟩), .pointer (some ⟨be, 0, none⟩)] W fun e w' => BEnd V k d g es (endI V k d) e W w' := by
  obtain ⟨c0, c1, c2, c3, c4⟩ := (hrow.below hB.bel hbl) k hk
  obtain ⟨s1, s2, s3, s4⟩ := hs.2 V[k] (List.getElem_mem _)
  have htz : (⟨V[k].text.toArray⟩ : ByteArray).size = V[k].text.length := by show V[k].text.toArray.size = _; simp
  have hkl := UInt8.toNat_lt V[k].kind
  have hone := one_kind V[k]
  have hnest := nest_kind V[k]
  have hval := valN_drop V k d hk
  have no : ∀ {e : Ending} {w' : World}, valN d (V.drop k) = none → e = .returned (.int .i64 (-1)) ∧ Below W.heap.size W w' → BEnd V k d g es (endI V k d) e W w' := by
    rintro e w' hn ⟨rfl, hb⟩
    exact bend_no hn hB.hg hb
  by_cases h7 : 7 < V[k].kind.toNat
  · have hn : valN d (V.drop k) = none := by rw [hval, hone, decide_eq_false (by omega)]; rfl
    exact (bw_big w0 V b off cap bv ba bw be g es W k d hB _ _ _ _ _ hk hs.1 hd c0 c1 c2 c3 c4 h7 (by omega)).mono fun e w' h => no hn h
  rw [decide_eq_true (by omega), Bool.true_and] at hone
  have HT : Hid (∀ w : World, Below W.heap.size W w → Calls Tryd.prog (tfun V[k].kind.toNat) #[.string ⟨V[k].text.toArray⟩] w fun e w' => e = .returned (.bool (ctext V[k].kind.toNat V[k].text)) ∧ Below w.heap.size w w') := Lib.hid fun w hw => by
    have := tfun_any V[k].kind.toNat ⟨V[k].text.toArray⟩ (by omega) w (hE.below (hB.bel.trans (hw.mono hB.bel.size)))
    simpa using this
  have HN : Hid (∀ w : World, Calls Tryd.prog (nfun V[k].kind.toNat) #[.int .i64 V[k].num] w fun e w' => e = .returned (.bool (cnum V[k].kind.toNat V[k].num)) ∧ Below w.heap.size w w') := Lib.hid fun w => nfun_any _ _ w
  cases ht : ctext V[k].kind.toNat V[k].text with
  | false =>
    rw [ht] at HT hone
    have hn : valN d (V.drop k) = none := by rw [hval, hone]; rfl
    exact (bw_text w0 V b off cap bv ba bw be g es W k d hB _ _ _ _ _ hk hs.1 hd c0 c1 c2 c3 c4 (by omega) HT).mono fun e w' h => no hn h
  | true =>
    rw [ht, Bool.true_and] at hone
    rw [ht] at HT
    cases hnu : cnum V[k].kind.toNat V[k].num with
    | false =>
      rw [hnu] at HN hone
      have hn : valN d (V.drop k) = none := by rw [hval, hone]; rfl
      exact (bw_num w0 V b off cap bv ba bw be g es W k d hB _ _ _ _ _ hk hs.1 hd c0 c1 c2 c3 c4 (by omega) HT HN).mono fun e w' h => no hn h
    | true =>
      rw [hnu, Bool.true_and] at hone
      rw [hnu] at HN
      by_cases hm : V[k].many < 0
      · have hn : valN d (V.drop k) = none := by
          rw [hval, hone]
          cases cnest V[k].kind.toNat with
          | true => rw [if_pos rfl, decide_eq_false (by omega)]; rfl
          | false => rw [if_neg Bool.false_ne_true, beq_eq_false_iff_ne.2 (by omega)]; rfl
        exact (bw_neg w0 V b off cap bv ba bw be g es W k d hB _ _ _ _ _ hk hs.1 hd c0 c1 c2 c3 c4 (by omega) HT HN hm).mono fun e w' h => no hn h
      · cases hcn : cnest V[k].kind.toNat with
        | false =>
          rw [hcn, if_neg Bool.false_ne_true] at hone
          by_cases hm0 : V[k].many = 0
          · rw [hm0] at c4 hone
            have hv1 : valN d (V.drop k) = some 1 := by rw [hval, hone, hnest, hcn]; rfl
            exact bw_zero_leaf w0 V b off cap bv ba bw be g es W k d hB _ _ _ _ hk hs.1 hd c0 c1 c2 c3 c4 (by omega) HT HN hcn hv1
          · have hn : valN d (V.drop k) = none := by rw [hval, hone, beq_eq_false_iff_ne.2 hm0]; rfl
            exact (bw_leaf w0 V b off cap bv ba bw be g es W k d hB _ _ _ _ _ hk hs.1 hd c0 c1 c2 c3 c4 (by omega) HT HN (by omega) hcn (by omega)).mono fun e w' h => no hn h
        | true =>
          rw [hcn, if_pos rfl, decide_eq_true (by omega)] at hone
          by_cases hd0 : d = 0
          · have hn : valN d (V.drop k) = none := by rw [hval, hone, hnest, hcn]; subst hd0; rfl
            exact (bw_deep w0 V b off cap bv ba bw be g es W k d hB _ _ _ _ _ hk hs.1 hd c0 c1 c2 c3 c4 (by omega) HT HN (by omega) hcn hd0).mono fun e w' h => no hn h
          · obtain ⟨d', rfl⟩ : ∃ d', d = d' + 1 := ⟨d - 1, by omega⟩
            rw [hone, hnest, hcn, if_pos rfl, if_pos rfl] at hval
            dsimp only at hval
            obtain ⟨m, hm2⟩ := Int.eq_ofNat_of_zero_le (show 0 ≤ V[k].many by omega)
            rw [hm2] at c4
            have hmt : V[k].many.toNat = m := by rw [hm2]; rfl
            rw [hmt] at hval
            by_cases hm0 : m = 0
            · subst hm0
              have hv1 : valN (d' + 1) (V.drop k) = some 1 := by rw [hval]; cases V.drop (k + 1) <;> rfl
              exact bw_zero_nest w0 V b off cap bv ba bw be g es W k (d' + 1) hB _ _ _ _ hk hs.1 hd c0 c1 c2 c3 c4 (by omega) HT HN hcn (by omega) hv1
            · have hmx : (m : Int) ≤ 9223372036854775807 := by rw [← hm2]; exact s4.2
              have h67 : V[k].kind.toNat = 6 ∨ V[k].kind.toNat = 7 := by
                unfold cnest at hcn
                rw [Bool.or_eq_true, beq_iff_eq, beq_iff_eq] at hcn
                exact hcn
              rcases h67 with h6 | h6
              · have hk6 : (V[k].kind == 6) = true := beq_iff_eq.2 (UInt8.toNat_inj.1 h6)
                rw [hk6] at hval
                exact bw_list w0 V b off cap bv ba bw be g es W k (d' + 1) hB _ _ _ _ m hk hs.1 hd c0 c1 c2 c3 c4 (by omega) HT HN h6 hcn (by omega) (by omega) hmx (Lib.hid hrow) hbl HSM _ rfl hval HTX (HIH (by omega))
              · have hk6 : (V[k].kind == 6) = false := beq_eq_false_iff_ne.2 fun e => by rw [e] at h6; exact absurd h6 (by decide)
                rw [hk6] at hval
                exact bw_obj w0 V b off cap bv ba bw be g es W k (d' + 1) hB _ _ _ _ m hk hs.1 hd c0 c1 c2 c3 c4 (by omega) HT HN h6 hcn (by omega) (by omega) hmx (Lib.hid hrow) hbl HSM _ rfl hval HTX (HIH (by omega))
theorem behind_walk (w0 : World) (V : List Cel) (b off cap bv ba bw be g : Nat) (hrow : CelRow b off V w0) (hbl : b < w0.heap.size) (hs : SmallV V) (hE : EnvU w0) :
    ∀ d : Nat, d ≤ 16 → ∀ (W : World) (es : Array Value) (k : Nat), k < V.length → BH w0 V b off cap bv ba bw be g es W →
      Calls Tryd.prog 35 #[.int .i64 (k : Int), .int .i64 (d : Int), .pointer (some ⟨bv, 0, none⟩), .pointer (some ⟨ba, 0, none⟩), .pointer (some ⟨bw, 0, none⟩), .pointer (some ⟨be, 0, none⟩)] W fun e w' => BEnd V k d g es (endI V k d) e W w' := by
  have HSM : Hid (∀ c ∈ V, c.name.length ≤ 100000) := Lib.hid fun c hc => (hs.2 c hc).1
  have HTX : Hid (∀ (W' : World) (x : ByteArray), x.size ≤ 100000 → Below w0.heap.size w0 W' → Calls Tryd.prog 36 #[.string x] W' fun e w' => e = .returned (.int .i64 (chkE x.data.toList)) ∧ Below W'.heap.size W' w') := Lib.hid fun W' x hx hb => tcheck_any x (by omega) W' (hE.below hb)
  intro d
  induction d with
  | zero => 
    intro hd W es k hk hB
    exact behind_case w0 V b off cap bv ba bw be g hrow hbl hs hE HSM HTX 0 hd W es k hk hB (fun h => absurd h (by decide))
  | succ d ih =>
    intro hd W es k hk hB
    refine behind_case w0 V b off cap bv ba bw be g hrow hbl hs hE HSM HTX (d + 1) hd W es k hk hB (fun _ => Lib.hid fun W' es' p hp hB' => ?_)
    have := ih (by omega) W' es' p hp hB'
    rw [show ((d + 1 : Nat) : Int) - 1 = (d : Int) from by omega, show d + 1 - 1 = d from rfl]
    exact this
end Go.Proofs.YteapenemnnhonaaDoor
