/- The walk through the program's Write (json). -/
import Derived.Test.YteapenemnnhonaaDoorJw
import Derived.Test.YteapenemnnhonaaDoorCf
set_option linter.unusedSimpArgs false
set_option linter.unusedVariables false
namespace Go.Proofs.YteapenemnnhonaaDoor
open Go.RowKit
theorem kind_of (c : Cel) (k : Nat) (hk : k < 256) (h : c.kind.toNat = k) : c.kind = UInt8.ofNat k := by
  refine UInt8.toNat_inj.1 ?_
  rw [UInt8.toNat_ofNat', h]; omega
set_option maxRecDepth 100000 in
set_option maxHeartbeats 2000000 in
theorem jw_case (w0 : World) (V : List Cel) (b off cap bv bb bn : Nat) (hrow : CelRow b off V w0) (hbl : b < w0.heap.size) (hs : ShortV V) (hl : V.length ≤ 2048) (hET : EnvT w0) (hev : V.any evC = false)
    (d : Nat) (W : World) (l : List UInt8) (k n : Nat) (hk : k < V.length) (hv : valN d (V.drop k) = some n) (hroom : l.length + 20000 * (n + 1) ≤ 80000000) (hB : BJ w0 V b off cap bv bb bn l W)
    (HIH : ∀ d1, d = d1 + 1 → Hid (∀ (W' : World) (l' : List UInt8) (p n1 : Nat), p < V.length → valN d1 (V.drop p) = some n1 → l'.length + 20000 * (n1 + 1) ≤ 80000000 → BJ w0 V b off cap bv bb bn l' W' → Calls Tryd.prog 10 #[.int .i64 (p : Int), .pointer (some ⟨bv, 0, none⟩), .pointer (some ⟨bb, 0, none⟩), .pointer (some ⟨bn, 0, none⟩)] W' fun e w' => JEnd w0 V b off cap bv bb bn (l' ++ textJ d1 (V.drop p)) ((p + n1 : Nat) : Int) W' e w')) :
    Calls Tryd.prog 10 #[.int .i64 (k : Int), .pointer (some ⟨bv, 0, none⟩), .pointer (some ⟨bb, 0, none⟩), .pointer (some ⟨bn, 0, none⟩)] W fun e w' => JEnd w0 V b off cap bv bb bn (l ++ textJ d (V.drop k)) ((k + n : Nat) : Int) W e w' := by
  obtain ⟨c0, c1, c2, c3, c4⟩ := (hrow.below hB.bel hbl) k hk
  obtain ⟨s1, s2, s3, s4⟩ := hs V[k] (List.getElem_mem _)
  have hval := valN_drop V k d hk
  rw [hv] at hval
  have hnest := nest_kind V[k]
  have hone := one_kind V[k]
  have hkl := UInt8.toNat_lt V[k].kind
  have ho : oneC V[k] = true := by
    cases h : oneC V[k] with
    | true => rfl
    | false => rw [h] at hval; cases hval
  rw [ho, if_pos rfl] at hval
  rw [ho] at hone
  have hne : evC V[k] = false := by
    have := List.any_eq_false.1 hev V[k] (List.getElem_mem _)
    simpa using this
  have h7 : V[k].kind.toNat ≤ 7 := by
    have := hone.symm
    simp only [Bool.and_eq_true, decide_eq_true_eq] at this
    exact this.1
  have h45 : V[k].kind.toNat ≠ 4 ∧ V[k].kind.toNat ≠ 5 := by
    constructor
    · intro h
      have := kind_of V[k] 4 (by omega) h
      unfold evC at hne
      rw [this] at hne; simp at hne
    · intro h
      have := kind_of V[k] 5 (by omega) h
      unfold evC at hne
      rw [this] at hne; simp at hne
  have hdrop := List.drop_eq_getElem_cons hk
  have hlit : nestC V[k] = false → textJ d (V.drop k) = litJ V[k] ∧ n = 1 := by
    intro h
    rw [h, if_neg Bool.false_ne_true] at hval
    refine ⟨?_, Option.some.inj hval⟩
    rw [hdrop]
    cases d with
    | zero => rw [textJ_zero, headJ_cons, h]; rfl
    | succ d => rw [textJ_more, headJ_cons, h]; rfl
  have hcast : ((k + 1 : Nat) : Int) = (k : Int) + 1 := by omega
  have hll : l.length ≤ 80000000 := by omega
  have htz : (⟨V[k].text.toArray⟩ : ByteArray).size = V[k].text.length := by show V[k].text.toArray.size = _; simp
  have htl : (⟨V[k].text.toArray⟩ : ByteArray).data.toList = V[k].text := by simp
  have h8 : V[k].kind.toNat = 0 ∨ V[k].kind.toNat = 1 ∨ V[k].kind.toNat = 2 ∨ V[k].kind.toNat = 3 ∨ V[k].kind.toNat = 6 ∨ V[k].kind.toNat = 7 := by omega
  rcases h8 with h | h | h | h | h | h
  · obtain ⟨e1, rfl⟩ := hlit (by rw [hnest, h]; rfl)
    have hk0 := kind_of V[k] 0 (by omega) h
    rw [e1, hcast]
    have : litJ V[k] = [110, 117, 108, 108] := by unfold litJ; rw [hk0]; rfl
    rw [this]
    exact jw_null w0 V b off cap bv bb bn l W k _ _ _ _ _ hB hk hl hll c0 c1 c2 c3 c4 h
  · obtain ⟨e1, rfl⟩ := hlit (by rw [hnest, h]; rfl)
    have hk0 := kind_of V[k] 1 (by omega) h
    rw [e1, hcast]
    have hnum : V[k].num = 0 ∨ V[k].num = 1 := by
      rw [h] at hone
      have := hone.symm
      simp only [Bool.and_eq_true] at this
      have h2 := this.2.1.2
      unfold cnum at h2
      simpa using h2
    rcases hnum with hn0 | hn1
    · have : litJ V[k] = [102, 97, 108, 115, 101] := by unfold litJ; rw [hk0, hn0]; rfl
      rw [this]
      exact jw_false w0 V b off cap bv bb bn l W k _ _ _ _ _ hB hk hl hll c0 c1 c2 c3 c4 h hn0
    · have : litJ V[k] = [116, 114, 117, 101] := by unfold litJ; rw [hk0, hn1]; rfl
      rw [this]
      exact jw_true w0 V b off cap bv bb bn l W k _ _ _ _ _ hB hk hl hll c0 c1 c2 c3 c4 h hn1
  · obtain ⟨e1, rfl⟩ := hlit (by rw [hnest, h]; rfl)
    have hk0 := kind_of V[k] 2 (by omega) h
    rw [e1, hcast]
    have : litJ V[k] = Lib.itoa V[k].num := by unfold litJ; rw [hk0]; rfl
    rw [this]
    have hi := Lib.itoa_length_le V[k].num s3.1 s3.2
    exact jw_int w0 V b off cap bv bb bn l W k _ _ _ _ _ hB hk hl hll c0 c1 c2 c3 c4 h _ (by omega) (Lib.hid fun W' hW => write_tab V[k].num s3 W' (hET.stays hW))
  · obtain ⟨e1, rfl⟩ := hlit (by rw [hnest, h]; rfl)
    have hk0 := kind_of V[k] 3 (by omega) h
    rw [e1, hcast]
    have : litJ V[k] = quoteL V[k].text := by unfold litJ; rw [hk0]; rfl
    rw [this]
    have hq := quoteL_len' V[k].text
    refine jw_text w0 V b off cap bv bb bn l W k _ _ _ _ _ hB hk hl hll c0 c1 c2 c3 c4 h _ (by omega) (Lib.hid fun W' hW => ?_)
    have := quote_any ⟨V[k].text.toArray⟩ (by omega) W'
    rw [htl] at this
    exact this
  all_goals
    have hcn : cnest V[k].kind.toNat = true := by rw [h]; rfl
    rw [hnest, hcn, if_pos rfl] at hval
    cases d with
    | zero => cases hval
    | succ d1 =>
      dsimp only at hval
      obtain ⟨n', hn', hnn⟩ := Option.map_eq_some_iff.1 hval.symm
      have hm : 0 ≤ V[k].many := by
        have := hone.symm
        rw [hcn] at this
        simp only [Bool.and_eq_true, if_pos rfl, decide_eq_true_eq] at this
        simpa using this.2.2
      obtain ⟨m, hm2⟩ := Int.eq_ofNat_of_zero_le hm
      have hmt : V[k].many.toNat = m := by rw [hm2]; rfl
      have hmx : (m : Int) ≤ 9223372036854775807 := by rw [← hm2]; exact s4.2
      rw [hmt] at hn'
      rw [hm2] at c4
      have htext : textJ (d1 + 1) (V.drop k) = (if V[k].kind == 6 then [91] else [123]) ++ (kidsJ (valN d1) (textJ d1) (!(V[k].kind == 6)) m true (V.drop (k + 1)) ++ (if V[k].kind == 6 then [93] else [125])) := by
        rw [hdrop, textJ_more, headJ_cons, hnest, hcn, if_pos rfl, hmt]
      have hKn : ((k + n : Nat) : Int) = ((k + 1 + n' : Nat) : Int) := by omega
      have HQQ : Hid (∀ (W' : World) (x : ByteArray), x.size ≤ 100000 → Calls Tryd.prog 13 #[.string x] W' fun e w' => e = .returned (.string ⟨(quoteL x.data.toList).toArray⟩) ∧ Below W'.heap.size W' w') := Lib.hid fun W' x hx => quote_any x hx W'
      have HTL : Hid (∀ (p n1 : Nat), valN d1 (V.drop p) = some n1 → (textJ d1 (V.drop p)).length + 1804 ≤ 20000 * n1) := Lib.hid fun p n1 h => textJ_len d1 _ n1 (hs.drop p) h
      rw [htext, hKn]
      first
        | (have hk6 : (V[k].kind == 6) = true := beq_iff_eq.2 (kind_of V[k] 6 (by omega) h)
           rw [hk6] at hn' ⊢
           rw [if_pos rfl, if_pos rfl, Bool.not_true]
           have hks := KS.start hn'
           have hrm : l.length + 20000 * (n' + 2) ≤ 80000000 := by omega
           exact jw_list w0 V b off cap bv bb bn l W k _ _ _ _ m hB hk hl hll c0 c1 c2 c3 c4 (by rw [h]; rfl) (by rw [h]; rfl) (by rw [h]; rfl) (by rw [h]; rfl) (by rw [h]; rfl) hmx (Lib.hid hrow) hbl (Lib.hid hs) d1 n' [] hks hrm HTL HQQ (HIH d1 rfl))
        | (have hk6 : (V[k].kind == 6) = false := beq_eq_false_iff_ne.2 fun e => by rw [e] at h; exact absurd h (by decide)
           rw [hk6] at hn' ⊢
           rw [if_neg Bool.false_ne_true, if_neg Bool.false_ne_true, Bool.not_false]
           have hks := KS.start hn'
           have hrm : l.length + 20000 * (n' + 2) ≤ 80000000 := by omega
           exact jw_obj w0 V b off cap bv bb bn l W k _ _ _ _ m hB hk hl hll c0 c1 c2 c3 c4 (by rw [h]; rfl) (by rw [h]; rfl) (by rw [h]; rfl) (by rw [h]; rfl) (by rw [h]; rfl) hmx (Lib.hid hrow) hbl (Lib.hid hs) d1 n' [] hks hrm HTL HQQ (HIH d1 rfl))
theorem jwalk (w0 : World) (V : List Cel) (b off cap bv bb bn : Nat) (hrow : CelRow b off V w0) (hbl : b < w0.heap.size) (hs : ShortV V) (hl : V.length ≤ 2048) (hET : EnvT w0) (hev : V.any evC = false) :
    ∀ (d : Nat) (W : World) (l : List UInt8) (k n : Nat), k < V.length → valN d (V.drop k) = some n → l.length + 20000 * (n + 1) ≤ 80000000 → BJ w0 V b off cap bv bb bn l W →
    Calls Tryd.prog 10 #[.int .i64 (k : Int), .pointer (some ⟨bv, 0, none⟩), .pointer (some ⟨bb, 0, none⟩), .pointer (some ⟨bn, 0, none⟩)] W fun e w' => JEnd w0 V b off cap bv bb bn (l ++ textJ d (V.drop k)) ((k + n : Nat) : Int) W e w' := by
  intro d
  induction d with
  | zero => intro W l k n hk hv hr hB; exact jw_case w0 V b off cap bv bb bn hrow hbl hs hl hET hev 0 W l k n hk hv hr hB (fun d1 h => by omega)
  | succ d ih =>
    intro W l k n hk hv hr hB
    refine jw_case w0 V b off cap bv bb bn hrow hbl hs hl hET hev (d + 1) W l k n hk hv hr hB (fun d1 h => ?_)
    obtain rfl : d = d1 := by omega
    exact Lib.hid fun W' l' p n1 h1 h2 h3 h4 => ih W' l' p n1 h1 h2 h3 h4
end Go.Proofs.YteapenemnnhonaaDoor
