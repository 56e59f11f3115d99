/- Walks and plain laws of this proof, joined from smaller texts (5). -/
import Derived.Test.YtglhanblbojkhaaGreatDoorRows
import Derived.Below
import Derived.ChangeSame
import Derived.ProofKit
import Derived.Test.YtglhanblbojkhaaGreatDoorK4
set_option linter.unusedSimpArgs false
set_option linter.unusedVariables false
namespace Go.Proofs.YtglhanblbojkhaaGreatDoor
open Go.RowKit
theorem kind_of (c : Cel) (k : Nat) (hk : k < 256) (h : c.kind.toNat = k) : c.kind = UInt8.ofNat k := by
  refine UInt8.toNat_inj.1 ?_
  rw [UInt8.toNat_ofNat', h]; omega
set_option maxRecDepth 100000 in
set_option maxHeartbeats 2000000 in
theorem jw_case (w0 : World) (V : List Cel) (b off cap bv bb bn : Nat) (hrow : CelRow b off V w0) (hbl : b < w0.heap.size) (hs : ShortV V) (hl : V.length ≤ 2048) (hET : EnvT w0) (hev : V.any evC = false)
    (d : Nat) (W : World) (l : List UInt8) (k n : Nat) (hk : k < V.length) (hv : valN d (V.drop k) = some n) (hroom : l.length + 20000 * (n + 1) ≤ 80000000) (hB : BJ w0 V b off cap bv bb bn l W)
    (HIH : ∀ d1, d = d1 + 1 → Hid (∀ (W' : World) (l' : List UInt8) (p n1 : Nat), p < V.length → valN d1 (V.drop p) = some n1 → l'.length + 20000 * (n1 + 1) ≤ 80000000 → BJ w0 V b off cap bv bb bn l' W' → Calls Tryz.prog 30 #[.int .i64 (p : Int), .pointer (some ⟨bv, 0, none⟩), .pointer (some ⟨bb, 0, none⟩), .pointer (some ⟨bn, 0, none⟩)] W' fun e w' => JEnd w0 V b off cap bv bb bn (l' ++ textJ d1 (V.drop p)) ((p + n1 : Nat) : Int) W' e w')) :
    Calls Tryz.prog 30 #[.int .i64 (k : Int), .pointer (some ⟨bv, 0, none⟩), .pointer (some ⟨bb, 0, none⟩), .pointer (some ⟨bn, 0, none⟩)] W fun e w' => JEnd w0 V b off cap bv bb bn (l ++ textJ d (V.drop k)) ((k + n : Nat) : Int) W e w' := by
  obtain ⟨c0, c1, c2, c3, c4⟩ := (hrow.below hB.bel hbl) k hk
  obtain ⟨s1, s2, s3, s4⟩ := hs V[k] (List.getElem_mem _)
  have hval := valN_drop V k d hk
  rw [hv] at hval
  have hnest := nest_kind V[k]
  have hone := one_kind V[k]
  have hkl := UInt8.toNat_lt V[k].kind
  have ho : oneC V[k] = true := by
    cases h : oneC V[k] with
    | true => rfl
    | false => rw [h] at hval; cases hval
  rw [ho, if_pos rfl] at hval
  rw [ho] at hone
  have hne : evC V[k] = false := by
    have := List.any_eq_false.1 hev V[k] (List.getElem_mem _)
    simpa using this
  have h7 : V[k].kind.toNat ≤ 7 := by
    have := hone.symm
    simp only [Bool.and_eq_true, decide_eq_true_eq] at this
    exact this.1
  have h45 : V[k].kind.toNat ≠ 4 ∧ V[k].kind.toNat ≠ 5 := by
    constructor
    · intro h
      have := kind_of V[k] 4 (by omega) h
      unfold evC at hne
      rw [this] at hne; simp at hne
    · intro h
      have := kind_of V[k] 5 (by omega) h
      unfold evC at hne
      rw [this] at hne; simp at hne
  have hdrop := List.drop_eq_getElem_cons hk
  have hlit : nestC V[k] = false → textJ d (V.drop k) = litJ V[k] ∧ n = 1 := by
    intro h
    rw [h, if_neg Bool.false_ne_true] at hval
    refine ⟨?_, Option.some.inj hval⟩
    rw [hdrop]
    cases d with
    | zero => rw [textJ_zero, headJ_cons, h]; rfl
    | succ d => rw [textJ_more, headJ_cons, h]; rfl
  have hcast : ((k + 1 : Nat) : Int) = (k : Int) + 1 := by omega
  have hll : l.length ≤ 80000000 := by omega
  have htz : (⟨V[k].text.toArray⟩ : ByteArray).size = V[k].text.length := by show V[k].text.toArray.size = _; simp
  have htl : (⟨V[k].text.toArray⟩ : ByteArray).data.toList = V[k].text := by simp
  have h8 : V[k].kind.toNat = 0 ∨ V[k].kind.toNat = 1 ∨ V[k].kind.toNat = 2 ∨ V[k].kind.toNat = 3 ∨ V[k].kind.toNat = 6 ∨ V[k].kind.toNat = 7 := by omega
  rcases h8 with h | h | h | h | h | h
  · obtain ⟨e1, rfl⟩ := hlit (by rw [hnest, h]; rfl)
    have hk0 := kind_of V[k] 0 (by omega) h
    rw [e1, hcast]
    have : litJ V[k] = [110, 117, 108, 108] := by unfold litJ; rw [hk0]; rfl
    rw [this]
    exact jw_null w0 V b off cap bv bb bn l W k _ _ _ _ _ hB hk hl hll c0 c1 c2 c3 c4 h
  · obtain ⟨e1, rfl⟩ := hlit (by rw [hnest, h]; rfl)
    have hk0 := kind_of V[k] 1 (by omega) h
    rw [e1, hcast]
    have hnum : V[k].num = 0 ∨ V[k].num = 1 := by
      rw [h] at hone
      have := hone.symm
      simp only [Bool.and_eq_true] at this
      have h2 := this.2.1.2
      unfold cnum at h2
      simpa using h2
    rcases hnum with hn0 | hn1
    · have : litJ V[k] = [102, 97, 108, 115, 101] := by unfold litJ; rw [hk0, hn0]; rfl
      rw [this]
      exact jw_false w0 V b off cap bv bb bn l W k _ _ _ _ _ hB hk hl hll c0 c1 c2 c3 c4 h hn0
    · have : litJ V[k] = [116, 114, 117, 101] := by unfold litJ; rw [hk0, hn1]; rfl
      rw [this]
      exact jw_true w0 V b off cap bv bb bn l W k _ _ _ _ _ hB hk hl hll c0 c1 c2 c3 c4 h hn1
  · obtain ⟨e1, rfl⟩ := hlit (by rw [hnest, h]; rfl)
    have hk0 := kind_of V[k] 2 (by omega) h
    rw [e1, hcast]
    have : litJ V[k] = Lib.itoa V[k].num := by unfold litJ; rw [hk0]; rfl
    rw [this]
    have hi := Lib.itoa_length_le V[k].num s3.1 s3.2
    exact jw_int w0 V b off cap bv bb bn l W k _ _ _ _ _ hB hk hl hll c0 c1 c2 c3 c4 h _ (by omega) (Lib.hid fun W' hW => write_tab V[k].num s3 W' (hET.stays hW))
  · obtain ⟨e1, rfl⟩ := hlit (by rw [hnest, h]; rfl)
    have hk0 := kind_of V[k] 3 (by omega) h
    rw [e1, hcast]
    have : litJ V[k] = quoteL V[k].text := by unfold litJ; rw [hk0]; rfl
    rw [this]
    have hq := quoteL_len' V[k].text
    refine jw_text w0 V b off cap bv bb bn l W k _ _ _ _ _ hB hk hl hll c0 c1 c2 c3 c4 h _ (by omega) (Lib.hid fun W' hW => ?_)
    have := quote_any ⟨V[k].text.toArray⟩ (by omega) W'
    rw [htl] at this
    exact this
  all_goals
    have hcn : cnest V[k].kind.toNat = true := by rw [h]; rfl
    rw [hnest, hcn, if_pos rfl] at hval
    cases d with
    | zero => cases hval
    | succ d1 =>
      dsimp only at hval
      obtain ⟨n', hn', hnn⟩ := Option.map_eq_some_iff.1 hval.symm
      have hm : 0 ≤ V[k].many := by
        have := hone.symm
        rw [hcn] at this
        simp only [Bool.and_eq_true, if_pos rfl, decide_eq_true_eq] at this
        simpa using this.2.2
      obtain ⟨m, hm2⟩ := Int.eq_ofNat_of_zero_le hm
      have hmt : V[k].many.toNat = m := by rw [hm2]; rfl
      have hmx : (m : Int) ≤ 9223372036854775807 := by rw [← hm2]; exact s4.2
      rw [hmt] at hn'
      rw [hm2] at c4
      have htext : textJ (d1 + 1) (V.drop k) = (if V[k].kind == 6 then [91] else [123]) ++ (kidsJ (valN d1) (textJ d1) (!(V[k].kind == 6)) m true (V.drop (k + 1)) ++ (if V[k].kind == 6 then [93] else [125])) := by
        rw [hdrop, textJ_more, headJ_cons, hnest, hcn, if_pos rfl, hmt]
      have hKn : ((k + n : Nat) : Int) = ((k + 1 + n' : Nat) : Int) := by omega
      have HQQ : Hid (∀ (W' : World) (x : ByteArray), x.size ≤ 100000 → Calls Tryz.prog 28 #[.string x] W' fun e w' => e = .returned (.string ⟨(quoteL x.data.toList).toArray⟩) ∧ Below W'.heap.size W' w') := Lib.hid fun W' x hx => quote_any x hx W'
      have HTL : Hid (∀ (p n1 : Nat), valN d1 (V.drop p) = some n1 → (textJ d1 (V.drop p)).length + 1804 ≤ 20000 * n1) := Lib.hid fun p n1 h => textJ_len d1 _ n1 (hs.drop p) h
      rw [htext, hKn]
      first
        | (have hk6 : (V[k].kind == 6) = true := beq_iff_eq.2 (kind_of V[k] 6 (by omega) h)
           rw [hk6] at hn' ⊢
           rw [if_pos rfl, if_pos rfl, Bool.not_true]
           have hks := KS.start hn'
           have hrm : l.length + 20000 * (n' + 2) ≤ 80000000 := by omega
           exact jw_list w0 V b off cap bv bb bn l W k _ _ _ _ m hB hk hl hll c0 c1 c2 c3 c4 (by rw [h]; rfl) (by rw [h]; rfl) (by rw [h]; rfl) (by rw [h]; rfl) (by rw [h]; rfl) hmx (Lib.hid hrow) hbl (Lib.hid hs) d1 n' [] hks hrm HTL HQQ (HIH d1 rfl))
        | (have hk6 : (V[k].kind == 6) = false := beq_eq_false_iff_ne.2 fun e => by rw [e] at h; exact absurd h (by decide)
           rw [hk6] at hn' ⊢
           rw [if_neg Bool.false_ne_true, if_neg Bool.false_ne_true, Bool.not_false]
           have hks := KS.start hn'
           have hrm : l.length + 20000 * (n' + 2) ≤ 80000000 := by omega
           exact jw_obj w0 V b off cap bv bb bn l W k _ _ _ _ m hB hk hl hll c0 c1 c2 c3 c4 (by rw [h]; rfl) (by rw [h]; rfl) (by rw [h]; rfl) (by rw [h]; rfl) (by rw [h]; rfl) hmx (Lib.hid hrow) hbl (Lib.hid hs) d1 n' [] hks hrm HTL HQQ (HIH d1 rfl))
theorem jwalk (w0 : World) (V : List Cel) (b off cap bv bb bn : Nat) (hrow : CelRow b off V w0) (hbl : b < w0.heap.size) (hs : ShortV V) (hl : V.length ≤ 2048) (hET : EnvT w0) (hev : V.any evC = false) :
    ∀ (d : Nat) (W : World) (l : List UInt8) (k n : Nat), k < V.length → valN d (V.drop k) = some n → l.length + 20000 * (n + 1) ≤ 80000000 → BJ w0 V b off cap bv bb bn l W →
    Calls Tryz.prog 30 #[.int .i64 (k : Int), .pointer (some ⟨bv, 0, none⟩), .pointer (some ⟨bb, 0, none⟩), .pointer (some ⟨bn, 0, none⟩)] W fun e w' => JEnd w0 V b off cap bv bb bn (l ++ textJ d (V.drop k)) ((k + n : Nat) : Int) W e w' := by
  intro d
  induction d with
  | zero => intro W l k n hk hv hr hB; exact jw_case w0 V b off cap bv bb bn hrow hbl hs hl hET hev 0 W l k n hk hv hr hB (fun d1 h => by omega)
  | succ d ih =>
    intro W l k n hk hv hr hB
    refine jw_case w0 V b off cap bv bb bn hrow hbl hs hl hET hev (d + 1) W l k n hk hv hr hB (fun d1 h => ?_)
    obtain rfl : d = d1 := by omega
    exact Lib.hid fun W' l' p n1 h1 h2 h3 h4 => ih W' l' p n1 h1 h2 h3 h4
end Go.Proofs.YtglhanblbojkhaaGreatDoor
namespace Go.Proofs.YtglhanblbojkhaaGreatDoor
open Go.RowKit
/-- What Write answers. -/
def jsonE (V : List Cel) : Value := if plainB V then .tuple #[.string ⟨(textJ 16 V).toArray⟩, .int .i64 0] else .tuple #[.string ⟨#[]⟩, .int .i64 8]
theorem jsonE_no {V : List Cel} (h : plainB V = false) : Ending.returned (.tuple #[.string ⟨#[]⟩, .int .i64 8]) = Ending.returned (jsonE V) := by unfold jsonE; rw [h]; rfl
theorem jsonE_yes {V : List Cel} (h : plainB V = true) : Ending.returned (.tuple #[.string ⟨(textJ 16 V).toArray⟩, .int .i64 0]) = Ending.returned (jsonE V) := by unfold jsonE; rw [h]; rfl
theorem ShortV.small {V : List Cel} (h : ShortV V) (hl : V.length ≤ 100000) : SmallV V := ⟨hl, fun c hc => by
  obtain ⟨h1, h2, h3, h4⟩ := h c hc
  exact ⟨by omega, by omega, h3, h4⟩⟩
theorem plain_parts {V : List Cel} (h : plainB V = true) : 0 < V.length ∧ V.length ≤ 2048 ∧ valN 16 V = some V.length ∧ V.any evC = false := by
  unfold plainB mayB at h
  rw [plain_any'] at h
  simp only [Bool.and_eq_true, decide_eq_true_eq, beq_iff_eq, Bool.not_eq_true'] at h
  exact ⟨h.1.1.1.1, h.1.1.1.2, h.1.2, h.2⟩
set_option maxRecDepth 100000 in
theorem jwrite_no (V : List Cel) (v : Value) (w : World) (hv : ∃ a n c, v = .slice a n c) (H : Hid (∀ W, Below w.heap.size w W → Calls Tryz.prog 16 #[v] W fun e w' => e = .returned (.bool false) ∧ Below W.heap.size W w')) :
    Calls Tryz.prog 15 #[v] w fun e w' => e = .returned (.tuple #[.string ⟨#[]⟩, .int .i64 8]) ∧ Below w.heap.size w w' := by
  obtain ⟨a, n, c, rfl⟩ := hv
  go_enter Tryz.func15, Tryz.ntmps15
  go_wp2_with fail
  refine (H.out _ ((Below.refl _ _).alloc (Nat.le_refl _) _)).mono ?_; rintro e w1 ⟨rfl, hb⟩
  have HW : Below w.heap.size w w1 := ((Below.refl _ _).alloc (Nat.le_refl _) _).trans (hb.mono (by simp))
  clear hb
  go_wp2_with fail
  go_ret2
  exact ⟨rfl, HW⟩
set_option maxRecDepth 100000 in
set_option maxHeartbeats 1000000 in
theorem jwrite_yes (V : List Cel) (b off cap : Nat) (w : World) (hrow : CelRow b off V w) (hpos : 0 < V.length) (hl : V.length ≤ 2048) (hs : ShortV V) (hE : EnvT w) (hval : valN 16 V = some V.length) (hev : V.any evC = false)
    (H : Hid (∀ W, Below w.heap.size w W → Calls Tryz.prog 16 #[.slice (some ⟨b, off, none⟩) V.length cap] W fun e w' => e = .returned (.bool true) ∧ Below W.heap.size W w')) (hroom : 20000 * (V.length + 1) ≤ 80000000) :
    Calls Tryz.prog 15 #[.slice (some ⟨b, off, none⟩) V.length cap] w fun e w' => e = .returned (.tuple #[.string ⟨(textJ 16 V).toArray⟩, .int .i64 0]) ∧ Below w.heap.size w w' := by
  have hbl := hrow.lt hpos
  have HROW := Lib.hid hrow
  have HS := Lib.hid hs
  have HEE := Lib.hid hE
  have HV := Lib.hid hval
  have HEV := Lib.hid hev
  have HRM := Lib.hid hroom
  have hmf : ∀ (fn : Fn) (first cp : Array Value) (w : World), (Instr.makeFunc fn first cp).run Tryz.prog w = .ok (.func fn first cp) w := fun _ _ _ _ => rfl
  obtain ⟨js, hjs⟩ : ∃ js : ByteArray, (⟨(textJ 16 V).toArray⟩ : ByteArray) = js := ⟨_, rfl⟩
  have HJS := Lib.hid hjs
  rw [hjs]
  clear hrow hs hE hval hev hroom hjs
  go_enter Tryz.func15, Tryz.ntmps15
  go_wp2_with fail
  refine (H.out _ ((Below.refl _ _).alloc (Nat.le_refl _) _)).mono ?_; rintro e w1 ⟨rfl, hb⟩
  have hb1 : Below w.heap.size w w1 := ((Below.refl _ _).alloc (Nat.le_refl _) _).trans (hb.mono (by simp))
  have hv1 : w1.heap[w.heap.size]? = some (.cells #[.slice (some ⟨b, off, none⟩) V.length cap] 22 (0, 0)) := (hb.block _ (by simp)).trans (heap_alloc_new w _)
  have hz1 : w.heap.size < w1.heap.size := heap_lt hv1
  have HB1 := Lib.hid hb1
  have HV1 := Lib.hid hv1
  clear hb hb1 hv1
  go_wp2_with fail
  obtain ⟨w2, hw2⟩ : ∃ w2, (w1.alloc (.cells #[.pointer none, .slice none 0 0] 61)).alloc (.cells #[.func (.func 30) #[] #[.pointer (some ⟨w.heap.size, 0, none⟩), .pointer (some ⟨w1.heap.size, 0, none⟩), .pointer (some ⟨w1.heap.size + 1, 0, none⟩)]] 62) = w2 := ⟨_, rfl⟩
  have hb2 : Below w1.heap.size w1 w2 := by rw [← hw2]; exact ((Below.refl _ _).alloc (Nat.le_refl _) _).alloc (by simp) _
  have hbj : BJ w V b off cap w.heap.size w1.heap.size (w1.heap.size + 1) [] w2 :=
    { hv := (hb2.block _ hz1).trans HV1.out
      hn := by rw [← hw2]; exact heap_new _ _ _ (by simp)
      hb := Or.inl ⟨by omega, .slice none 0 0, by rw [← hw2]; exact heap_old (heap_new _ _ _ rfl), World.ownsRow_nil _ _ _ _, by simp [Value.ownBlock]⟩
      bel := HB1.out.trans (hb2.mono HB1.out.size)
      lv := Nat.le_refl _
      lb := by omega
      ln := by omega
      nv := by omega
      nn := by omega }
  have HC : Hid (Calls Tryz.prog 30 #[.int .i64 0, .pointer (some ⟨w.heap.size, 0, none⟩), .pointer (some ⟨w1.heap.size, 0, none⟩), .pointer (some ⟨w1.heap.size + 1, 0, none⟩)] w2 fun e w' => JEnd w V b off cap w.heap.size w1.heap.size (w1.heap.size + 1) (textJ 16 V) (V.length : Int) w2 e w') := Lib.hid (by
    have := jwalk w V b off cap _ _ _ HROW.out hbl HS.out hl HEE.out HEV.out 16 w2 [] 0 V.length hpos (by rw [List.drop_zero]; exact HV.out) (by have := HRM.out; simp; omega) hbj
    rw [List.drop_zero, List.nil_append, Nat.zero_add] at this
    exact this)
  clear hb2 hbj hmf
  rw [hw2]
  clear hw2
  refine HC.out.mono ?_; rintro e w3 ⟨rfl, hB3, hJ3⟩
  have HD : Hid (Calls Tryz.prog 34 #[.pointer (some ⟨w1.heap.size, 0, none⟩)] w3 fun e w' => e = .returned (.string js) ∧ Below w.heap.size w3 w') := Lib.hid (by rw [← HJS.out]; exact wdone w.heap.size _ _ w3 hB3.hb hB3.bel.size)
  have HB3 := Lib.hid hB3.bel
  clear hB3 hJ3
  go_wp2_with fail
  refine HD.out.mono ?_; rintro e w4 ⟨rfl, hb4⟩
  have HB4 := Lib.hid (HB3.out.trans hb4)
  clear hb4
  go_wp2_with fail
  go_ret2
  exact ⟨rfl, HB4.out⟩
theorem jwrite_any (V : List Cel) (v : Value) (w : World) (hv : CelSl v V w) (hs : ShortV V) (hl : V.length ≤ 2000) (hE : EnvU w) (hT : EnvT w) :
    Calls Tryz.prog 15 #[v] w fun e w' => e = .returned (jsonE V) ∧ Below w.heap.size w w' := by
  have H : Hid (∀ W, Below w.heap.size w W → Calls Tryz.prog 16 #[v] W fun e w' => e = .returned (.bool (plainB V)) ∧ Below W.heap.size W w') := Lib.hid fun W hW => cplain_any V v W (hv.below hW) (hs.small (by omega)) (hE.below hW)
  cases hp : plainB V with
  | false =>
    rw [hp] at H
    refine (jwrite_no V v w ?_ H).mono fun e w' ⟨h1, h2⟩ => ⟨h1.trans (jsonE_no hp), h2⟩
    rcases hv with ⟨a, c, rfl, _⟩ | ⟨b, off, cap, rfl, _⟩
    · exact ⟨_, _, _, rfl⟩
    · exact ⟨_, _, _, rfl⟩
  | true =>
    rw [hp] at H
    obtain ⟨p1, p2, p3, p4⟩ := plain_parts hp
    rcases hv with ⟨a, c, rfl, rfl, _⟩ | ⟨b, off, cap, rfl, hrow, hpos⟩
    · simp at p1
    · exact (jwrite_yes V b off cap w hrow hpos p2 hs hT p3 p4 H (by omega)).mono fun e w' ⟨h1, h2⟩ => ⟨h1.trans (jsonE_yes hp), h2⟩
end Go.Proofs.YtglhanblbojkhaaGreatDoor
namespace Go.Proofs.YtglhanblbojkhaaGreatDoor
open Go.RowKit
/-- Is that read? -/
def readB (l : List UInt8) (M : List Cel) : Bool := match rdJ l with | .ok L => sameV L M | .error _ => false
/-- Is that the error? -/
def failB (l : List UInt8) (k : Int) : Bool := rdErr (rdJ l) == k && (rdOut (rdJ l)).isEmpty
theorem readB_of (l : List UInt8) (M : List Cel) : readB l M = (rdErr (rdJ l) == 0 && sameV (rdOut (rdJ l)) M) := by
  unfold readB
  cases h : rdJ l with
  | error e =>
    have := rdJ_err l e h
    simp [rdErr, this]
  | ok L => simp [rdErr, rdOut]
theorem CelSl.form {v : Value} {V : List Cel} {W : World} (h : CelSl v V W) : ∃ a cap, v = .slice a V.length cap := by
  rcases h with ⟨a, cap, rfl, rfl, _⟩ | ⟨b, off, cap, rfl, _⟩
  · exact ⟨_, _, rfl⟩
  · exact ⟨_, _, rfl⟩
/-- A slice of cells that was just laid. -/
theorem CelSl.fresh {M : List Cel} {C : Array Value} {k : Nat} (hk : k = M.length) (hC : C.toList = celFlat M) (h0 : 0 < M.length) (W : World) : CelSl (.slice (some ⟨W.heap.size, 0, none⟩) k k) M (W.alloc (.cells C 41)) := by
  refine Or.inr ⟨W.heap.size, 0, k, by rw [hk], fun j hj => ?_, h0⟩
  obtain ⟨g0, g1, g2, g3, g4⟩ := celFlat_get M j hj
  have hh : (W.alloc (.cells C 41)).heap[W.heap.size]? = some (.cells C 41 (0, 0)) := heap_alloc_new W _
  rw [← hC] at g0 g1 g2 g3 g4
  rw [Array.getElem?_toList] at g0 g1 g2 g3 g4
  simp only [Nat.zero_add]
  exact ⟨(Lib.cell_of_heap hh _).trans g0, (Lib.cell_of_heap hh _).trans g1, (Lib.cell_of_heap hh _).trans g2, (Lib.cell_of_heap hh _).trans g3, (Lib.cell_of_heap hh _).trans g4⟩
set_option maxRecDepth 100000 in
theorem lreads_any (s : ByteArray) (hs : s.size ≤ 17000) (M : List Cel) (hM : M.length ≤ 100000) (v : Value) (w : World) (hv : CelSl v M w) (hU : EnvU w) (hE : Env w) :
    Calls Tryz.prog 17 #[.string s, v] w fun x w' => x = .returned (.bool (readB s.data.toList M)) ∧ Below w.heap.size w w' := by
  have HP := Lib.hid (pread_sl s hs w hU hE)
  have HS : Hid (∀ u W, Below w.heap.size w W → CelSl u (rdOut (rdJ s.data.toList)) W → Calls Tryz.prog 12 #[u, v] W fun e w' => e = .returned (.bool (sameV (rdOut (rdJ s.data.toList)) M)) ∧ Below W.heap.size W w') := Lib.hid fun u W h0 h1 =>
    rsame03_any _ _ u v (by have := rdJ_small s.data.toList; omega) hM W h1 (hv.below h0)
  have HR := Lib.hid (readB_of s.data.toList M)
  obtain ⟨av, cv, rfl⟩ := hv.form
  generalize readB s.data.toList M = r at *
  obtain ⟨E, hEE⟩ : ∃ E, rdErr (rdJ s.data.toList) = E := ⟨_, rfl⟩
  obtain ⟨b, hbb⟩ : ∃ b, sameV (rdOut (rdJ s.data.toList)) M = b := ⟨_, rfl⟩
  rw [hEE] at HP HR
  rw [hbb] at HS HR
  generalize rdOut (rdJ s.data.toList) = L at *
  clear hEE hbb hv hU hE
  cases he : E == 0 with
  | true =>
    have HZ : Hid (r = b) := Lib.hid (by rw [HR.out, he, Bool.true_and])
    go_enter Tryz.func17, Tryz.ntmps17
    go_wp2_with fail
    refine HP.out.mono ?_; rintro x w1 ⟨⟨u, rfl, hsl⟩, hb⟩
    have HSL := Lib.hid hsl
    have HB1 := Lib.hid hb
    clear hsl hb
    go_wp2_with fail
    refine (HS.out _ _ HB1.out HSL.out).mono ?_; rintro x w2 ⟨rfl, hb⟩
    have HB2 := Lib.hid (HB1.out.trans (hb.mono HB1.out.size))
    clear hb
    go_wp2_with fail
    go_ret
    rw [HZ.out]
    exact ⟨rfl, HB2.out⟩
  | false =>
    have HZ : Hid (r = false) := Lib.hid (by rw [HR.out, he, Bool.false_and])
    go_enter Tryz.func17, Tryz.ntmps17
    go_wp2_with fail
    refine HP.out.mono ?_; rintro x w1 ⟨⟨u, rfl, hsl⟩, hb⟩
    have HB1 := Lib.hid hb
    clear hsl hb
    go_wp2_with fail
    go_ret
    rw [HZ.out]
    exact ⟨rfl, HB1.out⟩
set_option maxRecDepth 100000 in
theorem lfails_any (s : ByteArray) (hs : s.size ≤ 17000) (k : Int) (w : World) (hU : EnvU w) (hE : Env w) :
    Calls Tryz.prog 18 #[.string s, .int .i64 k] w fun x w' => x = .returned (.bool (failB s.data.toList k)) ∧ Below w.heap.size w w' := by
  have HP := Lib.hid (pread_sl s hs w hU hE)
  have HR : Hid (failB s.data.toList k = (rdErr (rdJ s.data.toList) == k && (rdOut (rdJ s.data.toList)).isEmpty)) := Lib.hid rfl
  generalize failB s.data.toList k = r at *
  obtain ⟨E, hEE⟩ : ∃ E, rdErr (rdJ s.data.toList) = E := ⟨_, rfl⟩
  rw [hEE] at HP HR
  generalize rdOut (rdJ s.data.toList) = L at *
  clear hEE hU hE
  obtain ⟨n, hn⟩ : ∃ n, L.length = n := ⟨_, rfl⟩
  have hie : L.isEmpty = ((n : Int) == 0) := by
    cases L with
    | nil => subst hn; rfl
    | cons a t =>
      have : ¬ (n : Int) = 0 := by rw [← hn]; simp; omega
      rw [beq_eq_false_iff_ne.2 this]; rfl
  rw [hie] at HR
  cases he : E == k with
  | true =>
    have HZ : Hid (r = ((n : Int) == 0)) := Lib.hid (by rw [HR.out, he, Bool.true_and])
    have HN := Lib.hid hn
    clear hn hie
    go_enter Tryz.func18, Tryz.ntmps18
    go_wp2_with fail
    refine HP.out.mono ?_; rintro x w1 ⟨⟨u, rfl, hsl⟩, hb⟩
    obtain ⟨av, cv, rfl⟩ := hsl.form
    rw [HN.out]
    have HB1 := Lib.hid hb
    clear hsl hb
    go_wp2_with fail
    go_ret
    rw [HZ.out]
    exact ⟨rfl, HB1.out⟩
  | false =>
    have HZ : Hid (r = false) := Lib.hid (by rw [HR.out, he, Bool.false_and])
    clear hn hie
    go_enter Tryz.func18, Tryz.ntmps18
    go_wp2_with fail
    refine HP.out.mono ?_; rintro x w1 ⟨⟨u, rfl, hsl⟩, hb⟩
    have HB1 := Lib.hid hb
    clear hsl hb
    go_wp2_with fail
    go_ret
    rw [HZ.out]
    exact ⟨rfl, HB1.out⟩
def aliveV : List Cel := [⟨7, [], [], 0, 2⟩, ⟨2, [97], [], 1, 0⟩, ⟨6, [98], [], 0, 2⟩, ⟨0, [], [], 0, 0⟩, ⟨3, [], [120], 0, 0⟩]
def aliveM : List Cel := [⟨6, [], [], 0, 2⟩, ⟨2, [], [], 0, 0⟩, ⟨3, [], [240, 159, 152, 128], 0, 0⟩]
theorem alive_write : jsonE aliveV = .tuple #[.string ⟨#[123, 34, 97, 34, 58, 49, 44, 34, 98, 34, 58, 91, 110, 117, 108, 108, 44, 34, 120, 34, 93, 125]⟩, .int .i64 0] := by
  unfold jsonE
  rw [if_pos (by decide +kernel), show textJ 16 aliveV = [123, 34, 97, 34, 58, 49, 44, 34, 98, 34, 58, 91, 110, 117, 108, 108, 44, 34, 120, 34, 93, 125] from by decide +kernel]
theorem alive_read : readB [91, 32, 45, 48, 32, 44, 32, 34, 92, 117, 100, 56, 51, 100, 92, 117, 100, 101, 48, 48, 34, 32, 93] aliveM = true := by decide +kernel
set_option maxRecDepth 100000 in
theorem lalive_any (w : World) (hU : EnvU w) (hE : Env w) (hT : EnvT w) :
    Calls Tryz.prog 13 #[] w fun x w' => x = .returned (.bool true) ∧ Below w.heap.size w w' := by
  have HW : Hid (∀ v W, Below w.heap.size w W → CelSl v aliveV W → Calls Tryz.prog 15 #[v] W fun e w' => e = .returned (.tuple #[.string ⟨#[123, 34, 97, 34, 58, 49, 44, 34, 98, 34, 58, 91, 110, 117, 108, 108, 44, 34, 120, 34, 93, 125]⟩, .int .i64 0]) ∧ Below W.heap.size W w') := Lib.hid fun v W hW hv => by
    have := jwrite_any aliveV v W hv (by
      intro c hc
      have : (aliveV.all fun c => decide (c.name.length ≤ 300 ∧ c.text.length ≤ 3000 ∧ (-9223372036854775808 ≤ c.num ∧ c.num ≤ 9223372036854775807) ∧ (-9223372036854775808 ≤ c.many ∧ c.many ≤ 9223372036854775807))) = true := by decide +kernel
      have h := of_decide_eq_true (List.all_eq_true.1 this c hc)
      exact h) (by decide) (hU.below hW) (hT.stays hW)
    rw [alive_write] at this
    exact this
  have HR : Hid (∀ v W, Below w.heap.size w W → CelSl v aliveM W → Calls Tryz.prog 17 #[.string ⟨#[91, 32, 45, 48, 32, 44, 32, 34, 92, 117, 100, 56, 51, 100, 92, 117, 100, 101, 48, 48, 34, 32, 93]⟩, v] W fun e w' => e = .returned (.bool true) ∧ Below W.heap.size W w') := Lib.hid fun v W hW hv => by
    have := lreads_any ⟨#[91, 32, 45, 48, 32, 44, 32, 34, 92, 117, 100, 56, 51, 100, 92, 117, 100, 101, 48, 48, 34, 32, 93]⟩ (by decide) aliveM (by decide) v W hv (hU.below hW) (hE.stays hW)
    rw [alive_read] at this
    exact this
  clear hU hE hT
  go_enter Tryz.func13, Tryz.ntmps13
  go_wp2_with fail
  refine (HW.out _ _ ((Below.refl _ _).alloc (Nat.le_refl _) _) (CelSl.fresh (M := aliveV) rfl rfl (by decide) _)).mono ?_; rintro x w1 ⟨rfl, hb⟩
  have HB1 : Hid (Below w.heap.size w w1) := Lib.hid (((Below.refl _ _).alloc (Nat.le_refl _) _).trans (hb.mono (by simp)))
  clear hb
  go_wp2_with fail
  refine (HR.out _ _ (HB1.out.alloc HB1.out.size _) (CelSl.fresh (M := aliveM) rfl rfl (by decide) _)).mono ?_; rintro x w2 ⟨rfl, hb⟩
  have HB2 : Hid (Below w.heap.size w w2) := Lib.hid ((HB1.out.alloc HB1.out.size _).trans (hb.mono (by have := HB1.out.size; simp; omega)))
  clear hb
  go_wp2_with fail
  go_ret
  exact ⟨rfl, HB2.out⟩
end Go.Proofs.YtglhanblbojkhaaGreatDoor
namespace Go.Proofs.YtglhanblbojkhaaGreatDoor
open Go.RowKit
set_option maxRecDepth 100000 in
theorem jquote_any (x : ByteArray) (hx : x.size ≤ 100000) (w : World) (hE : EnvU w) :
    Calls Tryz.prog 10 #[.string x] w fun e w' => e = .returned (if chkE x.data.toList = 0 then .tuple #[.string ⟨(quoteL x.data.toList).toArray⟩, .int .i64 0] else .tuple #[.string ⟨#[]⟩, .int .i64 (chkE x.data.toList)]) ∧ Below w.heap.size w w' := by
  have H1 := Lib.hid (fun V (hb : Below w.heap.size w V) => tcheck_any x (by omega) V (hE.below hb))
  have H2 := Lib.hid (fun w => quote_any x hx w)
  have hc : chkE x.data.toList = 0 ∨ chkE x.data.toList = 4 ∨ chkE x.data.toList = 10 := by
    unfold chkE
    by_cases q : 16384 < x.data.toList.length
    · rw [if_pos q]; right; left; rfl
    · rw [if_neg q]
      cases Lib.validD x.data.toList
      · right; right; rfl
      · left; rfl
  clear hE
  generalize chkE x.data.toList = c at *
  generalize (⟨(quoteL x.data.toList).toArray⟩ : ByteArray) = q at *
  rcases hc with rfl | rfl | rfl
  · go_enter Tryz.func10, Tryz.ntmps10
    go_wp2_with fail
    refine (H1.out _ (Below.refl _ _)).mono ?_; rintro e w1 ⟨rfl, hb⟩
    have HW := Lib.hid hb
    have hsz := hb.size
    clear hb
    go_wp2_with fail
    refine (H2.out _).mono ?_; rintro e w2 ⟨rfl, hb⟩
    have HW2 := Lib.hid (HW.out.trans (hb.mono hsz))
    clear hb
    go_wp2_with fail
    go_ret2
    exact ⟨rfl, HW2.out⟩
  all_goals
    go_enter Tryz.func10, Tryz.ntmps10
    go_wp2_with fail
    refine (H1.out _ (Below.refl _ _)).mono ?_; rintro e w1 ⟨rfl, hb⟩
    have HW := Lib.hid hb
    clear hb
    go_wp2_with fail
    go_ret2
    exact ⟨rfl, HW.out⟩
end Go.Proofs.YtglhanblbojkhaaGreatDoor
namespace Go.Proofs.YtglhanblbojkhaaGreatDoor
open Go.RowKit
theorem ops17 (k : Nat) : ((List.replicate k (91 : UInt8)).toArray : Array UInt8) ++ #[91] = (List.replicate (k + 1) (91 : UInt8)).toArray := by
  apply Array.toList_inj.1
  simp [List.replicate_succ']
def opsB (k : Nat) : ByteArray := ⟨(List.replicate k (91 : UInt8)).toArray⟩
theorem opsB_app (k : Nat) : opsB k ++ ⟨#[91]⟩ = opsB (k + 1) := by
  apply ByteArray.ext
  show (opsB k ++ ⟨#[91]⟩).data = _
  rw [ByteArray.data_append]
  exact ops17 k
theorem opsB_size (k : Nat) : (opsB k).size = k := by
  show ((List.replicate k (91 : UInt8)).toArray).size = k
  simp
theorem ops_cut : (opsB 17).extract 0 16 = opsB 16 := by
  apply ByteArray.ext
  apply Array.toList_inj.1
  decide +kernel
theorem read16 : rdErr (rdJ (opsB 16).data.toList) = 40 := by decide +kernel
theorem read17 : rdErr (rdJ (opsB 17).data.toList) = 30 := by decide +kernel
theorem quote_ex : (if chkE [34, 92, 47, 10, 1, 127] = 0 then (.tuple #[.string ⟨(quoteL [34, 92, 47, 10, 1, 127]).toArray⟩, .int .i64 0] : Value) else .tuple #[.string ⟨#[]⟩, .int .i64 (chkE [34, 92, 47, 10, 1, 127])]) = .tuple #[.string ⟨#[34, 92, 34, 92, 92, 47, 92, 110, 92, 117, 48, 48, 48, 49, 127, 34]⟩, .int .i64 0] := by
  rw [if_pos (by decide +kernel), show quoteL [34, 92, 47, 10, 1, 127] = [34, 92, 34, 92, 92, 47, 92, 110, 92, 117, 48, 48, 48, 49, 127, 34] from by decide +kernel]
set_option maxRecDepth 100000 in
set_option maxHeartbeats 4000000 in
theorem jsonn_walk (w : World) (he : EnvU w ∧ Env w ∧ EnvT w) :
    Calls Tryz.prog 7 #[] w fun e w' => e = .returned (.bool true) ∧ Below w.heap.size w w' := by
  obtain ⟨hU, hE, hT⟩ := he
  have F0 : Hid (∀ W, Below w.heap.size w W → Calls Tryz.prog 18 #[.string ⟨#[49, 46, 48]⟩, .int .i64 41] W fun x w' => x = .returned (.bool true) ∧ Below W.heap.size W w') := Lib.hid fun W hW => by
    have := lfails_any ⟨#[49, 46, 48]⟩ (by decide) 41 W (hU.below hW) (hE.stays hW)
    rw [show failB (⟨#[49, 46, 48]⟩ : ByteArray).data.toList 41 = true from by decide +kernel] at this
    exact this
  have F1 : Hid (∀ W, Below w.heap.size w W → Calls Tryz.prog 18 #[.string ⟨#[49, 101, 50]⟩, .int .i64 41] W fun x w' => x = .returned (.bool true) ∧ Below W.heap.size W w') := Lib.hid fun W hW => by
    have := lfails_any ⟨#[49, 101, 50]⟩ (by decide) 41 W (hU.below hW) (hE.stays hW)
    rw [show failB (⟨#[49, 101, 50]⟩ : ByteArray).data.toList 41 = true from by decide +kernel] at this
    exact this
  have F2 : Hid (∀ W, Below w.heap.size w W → Calls Tryz.prog 18 #[.string ⟨#[48, 49]⟩, .int .i64 40] W fun x w' => x = .returned (.bool true) ∧ Below W.heap.size W w') := Lib.hid fun W hW => by
    have := lfails_any ⟨#[48, 49]⟩ (by decide) 40 W (hU.below hW) (hE.stays hW)
    rw [show failB (⟨#[48, 49]⟩ : ByteArray).data.toList 40 = true from by decide +kernel] at this
    exact this
  have F3 : Hid (∀ W, Below w.heap.size w W → Calls Tryz.prog 18 #[.string ⟨#[123, 34, 97, 34, 58, 49, 44, 34, 97, 34, 58, 50, 125]⟩, .int .i64 42] W fun x w' => x = .returned (.bool true) ∧ Below W.heap.size W w') := Lib.hid fun W hW => by
    have := lfails_any ⟨#[123, 34, 97, 34, 58, 49, 44, 34, 97, 34, 58, 50, 125]⟩ (by decide) 42 W (hU.below hW) (hE.stays hW)
    rw [show failB (⟨#[123, 34, 97, 34, 58, 49, 44, 34, 97, 34, 58, 50, 125]⟩ : ByteArray).data.toList 42 = true from by decide +kernel] at this
    exact this
  have F4 : Hid (∀ W, Below w.heap.size w W → Calls Tryz.prog 18 #[.string ⟨#[123, 34, 34, 58, 49, 125]⟩, .int .i64 8] W fun x w' => x = .returned (.bool true) ∧ Below W.heap.size W w') := Lib.hid fun W hW => by
    have := lfails_any ⟨#[123, 34, 34, 58, 49, 125]⟩ (by decide) 8 W (hU.below hW) (hE.stays hW)
    rw [show failB (⟨#[123, 34, 34, 58, 49, 125]⟩ : ByteArray).data.toList 8 = true from by decide +kernel] at this
    exact this
  have F5 : Hid (∀ W, Below w.heap.size w W → Calls Tryz.prog 18 #[.string ⟨#[34, 92, 117, 100, 56, 48, 48, 34]⟩, .int .i64 40] W fun x w' => x = .returned (.bool true) ∧ Below W.heap.size W w') := Lib.hid fun W hW => by
    have := lfails_any ⟨#[34, 92, 117, 100, 56, 48, 48, 34]⟩ (by decide) 40 W (hU.below hW) (hE.stays hW)
    rw [show failB (⟨#[34, 92, 117, 100, 56, 48, 48, 34]⟩ : ByteArray).data.toList 40 = true from by decide +kernel] at this
    exact this
  have F6 : Hid (∀ W, Below w.heap.size w W → Calls Tryz.prog 18 #[.string ⟨#[91, 49, 44, 93]⟩, .int .i64 40] W fun x w' => x = .returned (.bool true) ∧ Below W.heap.size W w') := Lib.hid fun W hW => by
    have := lfails_any ⟨#[91, 49, 44, 93]⟩ (by decide) 40 W (hU.below hW) (hE.stays hW)
    rw [show failB (⟨#[91, 49, 44, 93]⟩ : ByteArray).data.toList 40 = true from by decide +kernel] at this
    exact this
  have F7 : Hid (∀ W, Below w.heap.size w W → Calls Tryz.prog 18 #[.string ⟨#[]⟩, .int .i64 40] W fun x w' => x = .returned (.bool true) ∧ Below W.heap.size W w') := Lib.hid fun W hW => by
    have := lfails_any ⟨#[]⟩ (by decide) 40 W (hU.below hW) (hE.stays hW)
    rw [show failB (⟨#[]⟩ : ByteArray).data.toList 40 = true from by decide +kernel] at this
    exact this
  have F8 : Hid (∀ W, Below w.heap.size w W → Calls Tryz.prog 18 #[.string ⟨#[49, 32, 50]⟩, .int .i64 40] W fun x w' => x = .returned (.bool true) ∧ Below W.heap.size W w') := Lib.hid fun W hW => by
    have := lfails_any ⟨#[49, 32, 50]⟩ (by decide) 40 W (hU.below hW) (hE.stays hW)
    rw [show failB (⟨#[49, 32, 50]⟩ : ByteArray).data.toList 40 = true from by decide +kernel] at this
    exact this
  have F9 : Hid (∀ W, Below w.heap.size w W → Calls Tryz.prog 18 #[.string ⟨#[255]⟩, .int .i64 10] W fun x w' => x = .returned (.bool true) ∧ Below W.heap.size W w') := Lib.hid fun W hW => by
    have := lfails_any ⟨#[255]⟩ (by decide) 10 W (hU.below hW) (hE.stays hW)
    rw [show failB (⟨#[255]⟩ : ByteArray).data.toList 10 = true from by decide +kernel] at this
    exact this
  have HQ : Hid (∀ W, Below w.heap.size w W → Calls Tryz.prog 10 #[.string ⟨#[34, 92, 47, 10, 1, 127]⟩] W fun x w' => x = .returned (.tuple #[.string ⟨#[34, 92, 34, 92, 92, 47, 92, 110, 92, 117, 48, 48, 48, 49, 127, 34]⟩, .int .i64 0]) ∧ Below W.heap.size W w') := Lib.hid fun W hW => by
    have := jquote_any ⟨#[34, 92, 47, 10, 1, 127]⟩ (by decide) W (hU.below hW)
    rw [show (⟨#[34, 92, 47, 10, 1, 127]⟩ : ByteArray).data.toList = [34, 92, 47, 10, 1, 127] from rfl, quote_ex] at this
    exact this
  have R16 : Hid (∀ W, Below w.heap.size w W → Calls Tryz.prog 8 #[.string (opsB 16)] W fun x w' => (∃ u, x = .returned (.tuple #[u, .int .i64 40])) ∧ Below W.heap.size W w') := Lib.hid fun W hW => by
    have := pread_sl (opsB 16) (by decide) W (hU.below hW) (hE.stays hW)
    rw [read16] at this
    exact this.mono fun x w' ⟨⟨u, h1, _⟩, h2⟩ => ⟨⟨u, h1⟩, h2⟩
  have R17 : Hid (∀ W, Below w.heap.size w W → Calls Tryz.prog 8 #[.string (opsB 17)] W fun x w' => (∃ u, x = .returned (.tuple #[u, .int .i64 30])) ∧ Below W.heap.size W w') := Lib.hid fun W hW => by
    have := pread_sl (opsB 17) (by decide) W (hU.below hW) (hE.stays hW)
    rw [read17] at this
    exact this.mono fun x w' ⟨⟨u, h1, _⟩, h2⟩ => ⟨⟨u, h1⟩, h2⟩
  have HA : Hid (∀ W, Below w.heap.size w W → Calls Tryz.prog 13 #[] W fun x w' => x = .returned (.bool true) ∧ Below W.heap.size W w') := Lib.hid fun W hW => lalive_any W (hU.below hW) (hE.stays hW) (hT.stays hW)
  clear hU hE hT
  go_enter Tryz.func7, Tryz.ntmps7
  have B0 : Hid (Below w.heap.size w w) := Lib.hid (Below.refl _ _)
  go_wp2_with fail
  refine (F0.out _ B0.out).mono ?_; rintro e w1 ⟨rfl, hb⟩
  have B1 := Lib.hid (B0.out.trans (hb.mono B0.out.size))
  clear hb
  go_wp2_with fail
  refine (F1.out _ B1.out).mono ?_; rintro e w2 ⟨rfl, hb⟩
  have B2 := Lib.hid (B1.out.trans (hb.mono B1.out.size))
  clear hb
  go_wp2_with fail
  refine (F2.out _ B2.out).mono ?_; rintro e w3 ⟨rfl, hb⟩
  have B3 := Lib.hid (B2.out.trans (hb.mono B2.out.size))
  clear hb
  go_wp2_with fail
  refine (F3.out _ B3.out).mono ?_; rintro e w4 ⟨rfl, hb⟩
  have B4 := Lib.hid (B3.out.trans (hb.mono B3.out.size))
  clear hb
  go_wp2_with fail
  refine (F4.out _ B4.out).mono ?_; rintro e w5 ⟨rfl, hb⟩
  have B5 := Lib.hid (B4.out.trans (hb.mono B4.out.size))
  clear hb
  go_wp2_with fail
  refine (F5.out _ B5.out).mono ?_; rintro e w6 ⟨rfl, hb⟩
  have B6 := Lib.hid (B5.out.trans (hb.mono B5.out.size))
  clear hb
  go_wp2_with fail
  refine (F6.out _ B6.out).mono ?_; rintro e w7 ⟨rfl, hb⟩
  have B7 := Lib.hid (B6.out.trans (hb.mono B6.out.size))
  clear hb
  go_wp2_with fail
  refine (F7.out _ B7.out).mono ?_; rintro e w8 ⟨rfl, hb⟩
  have B8 := Lib.hid (B7.out.trans (hb.mono B7.out.size))
  clear hb
  go_wp2_with fail
  refine (F8.out _ B8.out).mono ?_; rintro e w9 ⟨rfl, hb⟩
  have B9 := Lib.hid (B8.out.trans (hb.mono B8.out.size))
  clear hb
  go_wp2_with fail
  refine (F9.out _ B9.out).mono ?_; rintro e w10 ⟨rfl, hb⟩
  have B10 := Lib.hid (B9.out.trans (hb.mono B9.out.size))
  clear hb
  go_wp2_with fail
  refine (HQ.out _ B10.out).mono ?_; rintro e w11 ⟨rfl, hb⟩
  have B11 := Lib.hid (B10.out.trans (hb.mono B10.out.size))
  clear hb
  go_wp2_with fail
  go_loopg [5, 6] 17 (fun gk sv iv wr => ∃ k : Nat, sv = .string (opsB k) ∧ iv = .int .i64 (k : Int) ∧ gk + k = 17 ∧ wr = w11)
  case atStart => exact ⟨0, rfl, rfl, rfl, rfl⟩
  case round =>
    obtain ⟨k, rfl, rfl, hg, rfl⟩ := hrel
    by_cases hlt : k < 17
    · have t0 : decide ((k : Int) < 17) = true := decide_eq_true (by omega)
      have ha := opsB_app k
      have hz := opsB_size k
      have hk1 : IntKind.i64.wrap ((k : Int) + 1) = ((k + 1 : Nat) : Int) := by rw [IntWalk.i64_in _ (by omega)]; omega
      go_wp2_with fail
      go_roundg (gk - 1)
      case measure => omega
      case rel => exact ⟨k + 1, by first | rfl | (rw [ha]), by first | rfl | go_num, by omega, rfl⟩
    · obtain rfl : k = 17 := by omega
      have hz := opsB_size 17
      have hcut := ops_cut
      clear hg hlt
      go_wp2_with fail
      refine (R16.out _ B11.out).mono ?_; rintro e w12 ⟨⟨u1, rfl⟩, hb⟩
      have B12 := Lib.hid (B11.out.trans (hb.mono B11.out.size))
      clear hb
      go_wp2_with fail
      refine (R17.out _ B12.out).mono ?_; rintro e w13 ⟨⟨u2, rfl⟩, hb⟩
      have B13 := Lib.hid (B12.out.trans (hb.mono B12.out.size))
      clear hb
      go_wp2_with fail
      refine (HA.out _ B13.out).mono ?_; rintro e w14 ⟨rfl, hb⟩
      have B14 := Lib.hid (B13.out.trans (hb.mono B13.out.size))
      clear hb
      go_wp2_with fail
      go_ret
      exact ⟨rfl, B14.out⟩
end Go.Proofs.YtglhanblbojkhaaGreatDoor
namespace Go.Proofs.YtglhanblbojkhaaGreatDoor
open Go.RowKit Go.WideShapes Go.ChangeShapes
section
variable {H : Type} {enc : TypeId × Value → H} {P : Program}
/-- What 'post_of_same' asks of all addresses is asked here of the old blocks alone. -/
theorem post_below {f : Func} {s : ChangeSpec} {apart fresh handsOn again : Bool} {W W' : World} {args : Array Value} {v : Value} {ds gs : List (DataW H)} {before pa pv : List MemPlace}
    (hW : DataW.Whole enc P f.params.toList s.vars apart W args.toList ds gs before)
    (hres : ∀ (b : Nat) (sp : Nat → Bool) (hd : Bool), DataW.TrodAll enc P W' b sp hd f.resultTypes.toList (v.resultList f.resultTypes.size) (s.fn H (ds ++ gs)).results [])
    (hargs : ∀ sp : Nat → Bool, (∀ p ∈ before, sp p.block = true) → DataW.TrodAll enc P W' 0 sp true f.params.toList args.toList (s.fn H (ds ++ gs)).args pa)
    (hvars : ∀ sp : Nat → Bool, (∀ p ∈ before, sp p.block = true) → DataW.TrodVars enc P W' sp s.vars (s.fn H (ds ++ gs)).vars pv)
    (hps : before = pa ++ pv) (hb : Below W.heap.size W W')
    (hok : ∀ (j : Nat) (t : TypeId) (r : Value), f.resultTypes[j]? = some t → (v.resultList f.resultTypes.size)[j]? = some r → Value.okWide P W' .any 0 t r) :
    s.post enc P f apart fresh handsOn again W args v W' := by
  have old : ∀ p ∈ before, decide (p.block < W.heap.size) = true := fun p hp => decide_eq_true (hW.lt p hp)
  subst hps
  refine ⟨ds, gs, pa ++ pv, [], pa, pv, hW, hres _ _ _, hargs _ old, hvars _ old, World.keptBut_mono (fun p hp => ⟨hp, ?_⟩) (hb.frame (· ∈ pa ++ pv)), fun _ => ?_⟩
  · exact .inr (List.mem_append.1 hp)
  · obtain ⟨_, _, _, _, _, hz, hn⟩ := hW
    refine ⟨hok, _, _, ([] ++ pa) ++ pv, ⟨[] ++ pa, pv, trodAll_append (hargs _ (fun _ _ => rfl)) (hres _ _ _), hvars _ (fun _ _ => rfl), rfl, ?_, ?_⟩, ?_⟩
    · intro b off hp
      have hin : MemPlace.cell b off ∈ pa ++ pv := by simpa using hp
      rw [hb.frozen (of_decide_eq_true (old _ hin))]
      exact hz b off hin
    · intro ha
      simpa using hn ha
    · intro p hp _
      simpa using hp
end
end Go.Proofs.YtglhanblbojkhaaGreatDoor
