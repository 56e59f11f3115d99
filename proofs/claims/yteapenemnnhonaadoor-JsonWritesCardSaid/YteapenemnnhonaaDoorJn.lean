/- The walk through the reference's Text and Write (provostref04): the whole. -/
import Derived.Test.YteapenemnnhonaaDoorJv
import Derived.Test.YteapenemnnhonaaDoorJz
import Derived.Test.YteapenemnnhonaaDoorCj
set_option linter.unusedSimpArgs false
set_option linter.unusedVariables false
namespace Go.Proofs.YteapenemnnhonaaDoor
open Go.RowKit
set_option maxRecDepth 100000 in
set_option maxHeartbeats 2000000 in
theorem jt_case (V : List Cel) (b off cap : Nat) (hs : ShortV V) (hl : V.length ≤ 2048) (hev : V.any evC = false)
    (d : Nat) (hd : d ≤ 16) (W : World) (hrow : CelRow b off V W) (k n : Nat) (hk : k < V.length) (hv : valN d (V.drop k) = some n)
    (HIH : ∀ d1, d = d1 + 1 → Hid (∀ (W' : World) (p n1 : Nat), p < V.length → CelRow b off V W' → valN d1 (V.drop p) = some n1 → Calls Tryd.prog 17 #[.slice (some ⟨b, off, none⟩) V.length cap, .int .i64 (p : Int)] W' fun e w' => e = .returned (.string ⟨(textJ d1 (V.drop p)).toArray⟩) ∧ Below W'.heap.size W' w')) :
    Calls Tryd.prog 17 #[.slice (some ⟨b, off, none⟩) V.length cap, .int .i64 (k : Int)] W fun e w' => e = .returned (.string ⟨(textJ d (V.drop k)).toArray⟩) ∧ Below W.heap.size W w' := by
  obtain ⟨c0, c1, c2, c3, c4⟩ := hrow k hk
  obtain ⟨s1, s2, s3, s4⟩ := hs V[k] (List.getElem_mem _)
  have hval := valN_drop V k d hk
  rw [hv] at hval
  have hnest := nest_kind V[k]
  have hone := one_kind V[k]
  have hkl := UInt8.toNat_lt V[k].kind
  have ho : oneC V[k] = true := by
    cases h : oneC V[k] with
    | true => rfl
    | false => rw [h] at hval; cases hval
  rw [ho, if_pos rfl] at hval
  rw [ho] at hone
  have hne : evC V[k] = false := by
    have := List.any_eq_false.1 hev V[k] (List.getElem_mem _)
    simpa using this
  have h7 : V[k].kind.toNat ≤ 7 := by
    have := hone.symm
    simp only [Bool.and_eq_true, decide_eq_true_eq] at this
    exact this.1
  have h45 : V[k].kind.toNat ≠ 4 ∧ V[k].kind.toNat ≠ 5 := by
    constructor
    · intro h
      have := kind_of V[k] 4 (by omega) h
      unfold evC at hne
      rw [this] at hne; simp at hne
    · intro h
      have := kind_of V[k] 5 (by omega) h
      unfold evC at hne
      rw [this] at hne; simp at hne
  have hdrop := List.drop_eq_getElem_cons hk
  have hlit : nestC V[k] = false → textJ d (V.drop k) = litJ V[k] := by
    intro h
    rw [hdrop]
    cases d with
    | zero => rw [textJ_zero, headJ_cons, h]; rfl
    | succ d => rw [textJ_more, headJ_cons, h]; rfl
  have h8 : V[k].kind.toNat = 0 ∨ V[k].kind.toNat = 1 ∨ V[k].kind.toNat = 2 ∨ V[k].kind.toNat = 3 ∨ V[k].kind.toNat = 6 ∨ V[k].kind.toNat = 7 := by omega
  rcases h8 with h | h | h | h | h | h
  · have e1 := hlit (by rw [hnest, h]; rfl)
    have hk0 := kind_of V[k] 0 (by omega) h
    rw [e1]
    have : litJ V[k] = [110, 117, 108, 108] := by unfold litJ; rw [hk0]; rfl
    rw [this]
    exact jt_null V b off cap W k _ _ _ _ _ hk hl c0 c1 c2 c3 c4 h
  · have e1 := hlit (by rw [hnest, h]; rfl)
    have hk0 := kind_of V[k] 1 (by omega) h
    rw [e1]
    have hnum : V[k].num = 0 ∨ V[k].num = 1 := by
      rw [h] at hone
      have := hone.symm
      simp only [Bool.and_eq_true] at this
      have h2 := this.2.1.2
      unfold cnum at h2
      simpa using h2
    rcases hnum with hn0 | hn1
    · have : litJ V[k] = [102, 97, 108, 115, 101] := by unfold litJ; rw [hk0, hn0]; rfl
      rw [this]
      exact jt_false V b off cap W k _ _ _ _ _ hk hl c0 c1 c2 c3 c4 h hn0
    · have : litJ V[k] = [116, 114, 117, 101] := by unfold litJ; rw [hk0, hn1]; rfl
      rw [this]
      exact jt_true V b off cap W k _ _ _ _ _ hk hl c0 c1 c2 c3 c4 h hn1
  · have e1 := hlit (by rw [hnest, h]; rfl)
    have hk0 := kind_of V[k] 2 (by omega) h
    rw [e1]
    have : litJ V[k] = Lib.itoa V[k].num := by unfold litJ; rw [hk0]; rfl
    rw [this]
    exact jt_int V b off cap W k _ _ _ _ _ hk hl c0 c1 c2 c3 c4 h _ (Lib.hid fun W' => (rwrite_any V[k].num s3 W').mono fun e w' ⟨h1, h2⟩ => ⟨h1, by subst h2; exact Below.refl _ _⟩)
  · have e1 := hlit (by rw [hnest, h]; rfl)
    have hk0 := kind_of V[k] 3 (by omega) h
    rw [e1]
    have : litJ V[k] = quoteL V[k].text := by unfold litJ; rw [hk0]; rfl
    rw [this]
    refine jt_text V b off cap W k _ _ _ _ _ hk hl c0 c1 c2 c3 c4 h _ (Lib.hid fun W' => ?_)
    have := rquoted_any ⟨V[k].text.toArray⟩ (by rw [ba_size]; omega) W'
    rw [ba_list] at this
    exact this
  all_goals
    have hcn : cnest V[k].kind.toNat = true := by rw [h]; rfl
    rw [hnest, hcn, if_pos rfl] at hval
    cases d with
    | zero => cases hval
    | succ d1 =>
      dsimp only at hval
      obtain ⟨n', hn', hnn⟩ := Option.map_eq_some_iff.1 hval.symm
      have hm : 0 ≤ V[k].many := by
        have := hone.symm
        rw [hcn] at this
        simp only [Bool.and_eq_true, if_pos rfl, decide_eq_true_eq] at this
        simpa using this.2.2
      obtain ⟨m, hm2⟩ := Int.eq_ofNat_of_zero_le hm
      have hmt : V[k].many.toNat = m := by rw [hm2]; rfl
      have hmx : (m : Int) ≤ 9223372036854775807 := by rw [← hm2]; exact s4.2
      rw [hmt] at hn'
      have htext : textJ (d1 + 1) (V.drop k) = (if V[k].kind == 6 then [91] else [123]) ++ (kidsJ (valN d1) (textJ d1) (!(V[k].kind == 6)) m true (V.drop (k + 1)) ++ (if V[k].kind == 6 then [93] else [125])) := by
        rw [hdrop, textJ_more, headJ_cons, hnest, hcn, if_pos rfl, hmt]
      have hsm := hs.small (by omega)
      have HQQ : Hid (∀ (W' : World) (x : ByteArray), x.size ≤ 100000 → Calls Tryd.prog 26 #[.string x] W' fun e w' => e = .returned (.string ⟨(quoteL x.data.toList).toArray⟩) ∧ Below W'.heap.size W' w') := Lib.hid fun W' x hx => rquoted_any x hx W'
      have HTL : Hid (∀ (p n1 : Nat), valN d1 (V.drop p) = some n1 → (textJ d1 (V.drop p)).length + 1804 ≤ 20000 * n1) := Lib.hid fun p n1 h => textJ_len d1 _ n1 (hs.drop p) h
      have hks := KS.start hn'
      have HU : Hid (∀ W' : World, CelRow b off V W' → Calls Tryd.prog 27 #[.slice (some ⟨b, off, none⟩) V.length cap, .int .i64 (k : Int)] W' fun e w' => ∃ v, e = .returned v ∧ OwnI W'.heap.size v (plcJ (valN d1) V m (k + 1)) w' ∧ Below W'.heap.size W' w') := Lib.hid fun W' hW => by
        obtain ⟨e0, e1, e2, e3, e4⟩ := hW k hk
        rw [hm2] at e4
        exact runder_any V b off cap W' k _ _ _ _ m hk hl e0 e1 e2 e3 e4 hmx (Lib.hid hW) d1 n' (by omega) _ hks (Lib.hid fun W2 p hp hr => rbehind_walk V b off cap hsm 16 (Nat.le_refl _) W2 p hp hr)
      rw [hm2] at c4
      rw [htext]
      first
        | (have hk6 : (V[k].kind == 6) = true := beq_iff_eq.2 (kind_of V[k] 6 (by omega) h)
           rw [hk6] at hks ⊢
           rw [if_pos rfl, if_pos rfl, Bool.not_true]
           exact jt_list V b off cap W k _ _ _ _ m hk hl c0 c1 c2 c3 c4 (by rw [h]; rfl) (by rw [h]; rfl) (by rw [h]; rfl) (by rw [h]; rfl) (by rw [h]; rfl) hmx (Lib.hid hrow) (Lib.hid hs) d1 n' hks _ rfl HU HTL HQQ (HIH d1 rfl))
        | (have hk6 : (V[k].kind == 6) = false := beq_eq_false_iff_ne.2 fun e => by rw [e] at h; exact absurd h (by decide)
           rw [hk6] at hks ⊢
           rw [if_neg Bool.false_ne_true, if_neg Bool.false_ne_true, Bool.not_false]
           exact jt_obj V b off cap W k _ _ _ _ m hk hl c0 c1 c2 c3 c4 (by rw [h]; rfl) (by rw [h]; rfl) (by rw [h]; rfl) (by rw [h]; rfl) (by rw [h]; rfl) hmx (Lib.hid hrow) (Lib.hid hs) d1 n' hks _ rfl HU HTL HQQ (HIH d1 rfl))
theorem jt_walk (V : List Cel) (b off cap : Nat) (hs : ShortV V) (hl : V.length ≤ 2048) (hev : V.any evC = false) :
    ∀ (d : Nat), d ≤ 16 → ∀ (W : World) (k n : Nat), k < V.length → CelRow b off V W → valN d (V.drop k) = some n →
    Calls Tryd.prog 17 #[.slice (some ⟨b, off, none⟩) V.length cap, .int .i64 (k : Int)] W fun e w' => e = .returned (.string ⟨(textJ d (V.drop k)).toArray⟩) ∧ Below W.heap.size W w' := by
  intro d
  induction d with
  | zero => intro hd W k n hk hr hv; exact jt_case V b off cap hs hl hev 0 hd W hr k n hk hv (fun d1 h => by omega)
  | succ d ih =>
    intro hd W k n hk hr hv
    refine jt_case V b off cap hs hl hev (d + 1) hd W hr k n hk hv (fun d1 h => ?_)
    obtain rfl : d = d1 := by omega
    exact Lib.hid fun W' p n1 h1 h2 h3 => ih (by omega) W' p n1 h1 h2 h3
set_option maxRecDepth 100000 in
theorem rjwrite_no (v : Value) (w : World) (H : Hid (Calls Tryd.prog 16 #[v] w fun e w' => e = .returned (.bool false) ∧ Below w.heap.size w w')) :
    Calls Tryd.prog 7 #[v] w fun e w' => e = .returned (.tuple #[.string ⟨#[]⟩, .int .i64 8]) ∧ Below w.heap.size w w' := by
  go_enter Tryd.func7, Tryd.ntmps7
  go_wp2_with fail
  refine H.out.mono ?_; rintro e w1 ⟨rfl, hb⟩
  go_wp2_with fail
  go_ret2
  exact ⟨rfl, hb⟩
set_option maxRecDepth 100000 in
theorem rjwrite_yes (v : Value) (w : World) (s : ByteArray) (H : Hid (Calls Tryd.prog 16 #[v] w fun e w' => e = .returned (.bool true) ∧ Below w.heap.size w w'))
    (HT : Hid (∀ W, Below w.heap.size w W → Calls Tryd.prog 17 #[v, .int .i64 0] W fun e w' => e = .returned (.string s) ∧ Below W.heap.size W w')) :
    Calls Tryd.prog 7 #[v] w fun e w' => e = .returned (.tuple #[.string s, .int .i64 0]) ∧ Below w.heap.size w w' := by
  go_enter Tryd.func7, Tryd.ntmps7
  go_wp2_with fail
  refine H.out.mono ?_; rintro e w1 ⟨rfl, hb⟩
  have HB := Lib.hid hb
  clear hb
  go_wp2_with fail
  refine (HT.out _ HB.out).mono ?_; rintro e w2 ⟨rfl, hb2⟩
  have HB2 : Below w.heap.size w w2 := HB.out.trans (hb2.mono HB.out.size)
  clear hb2
  go_wp2_with fail
  go_ret2
  exact ⟨rfl, HB2⟩
theorem rjwrite_any (V : List Cel) (v : Value) (w : World) (hv : CelSl v V w) (hs : ShortV V) (hl : V.length ≤ 2000) :
    Calls Tryd.prog 7 #[v] w fun e w' => e = .returned (jsonE V) ∧ Below w.heap.size w w' := by
  have H := rplain03_any V v w hv (hs.small (by omega))
  cases hp : plainB V with
  | false =>
    rw [hp] at H
    exact (rjwrite_no v w (Lib.hid H)).mono fun e w' ⟨h1, h2⟩ => ⟨h1.trans (jsonE_no hp), h2⟩
  | true =>
    rw [hp] at H
    obtain ⟨p1, p2, p3, p4⟩ := plain_parts hp
    rcases hv with ⟨a, c, rfl, rfl, _⟩ | ⟨b, off, cap, rfl, hrow, hpos⟩
    · simp at p1
    · refine (rjwrite_yes _ w _ (Lib.hid H) (Lib.hid fun W hW => ?_)).mono fun e w' ⟨h1, h2⟩ => ⟨h1.trans (jsonE_yes hp), h2⟩
      have := jt_walk V b off cap hs p2 p4 16 (Nat.le_refl _) W 0 V.length hpos (hrow.below' hW) (by rw [List.drop_zero]; exact p3)
      rw [List.drop_zero] at this
      exact this
end Go.Proofs.YteapenemnnhonaaDoor
