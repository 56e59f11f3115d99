/- Walks and plain laws of this proof, joined from smaller texts (1). -/
import Derived.WalkKit
import Derived.Laws.StructEq
import Derived.Deep.QuietTactic
import Derived.ProofKit
import Derived.OpenShut
import Derived.Lib.SmallJoins
import Derived.Deep.Slices
import Derived.Deep.Fields
import Derived.ChangeSame
import Derived.Test.YtglhanblbojkhaaGreatDoorK5
set_option linter.unusedSimpArgs false
set_option linter.unusedVariables false
namespace Go.Proofs.YtglhanblbojkhaaGreatDoor
open Go.RowKit

theorem R_of_wf {n : Int} (h : (Lit.int .i64 n).wf = true) : R n := by
  simp [Lit.wf, IntKind.min, IntKind.max, IntKind.signed, IntKind.bits] at h
  unfold R; omega
end Go.Proofs.YtglhanblbojkhaaGreatDoor
namespace Go.Proofs.YtglhanblbojkhaaGreatDoor
open Go.RowKit
/-- Are cells more than a statement goes through? -/
def greatV (V : List Cel) (most : Nat) : Bool := (V.take most).any (fun c => decide (300 < c.name.length) || decide (3000 < c.text.length)) || decide (most < V.length)
set_option maxRecDepth 100000 in
set_option maxHeartbeats 1000000 in
theorem rgreat03_row (V : List Cel) (most b off cap : Nat) (hl : V.length ≤ 9223372036854775807) (hm : most ≤ 100000) (w : World) (hr : CelRow b off V w) (hsz : ∀ c ∈ V, c.name.length ≤ 9223372036854775807 ∧ c.text.length ≤ 9223372036854775807) :
    Calls Tryz.prog 14 #[.slice (some ⟨b, off, none⟩) V.length cap, .int .i64 (most : Int)] w fun e w' => e = .returned (.bool (greatV V most)) ∧ w = w' := by
  have HT := Lib.hid hr
  have HZ := Lib.hid hsz
  obtain ⟨r, hr2⟩ : ∃ r, greatV V most = r := ⟨_, rfl⟩
  have HR : Hid ((((V.drop 0).take (most - 0)).any (fun c => decide (300 < c.name.length) || decide (3000 < c.text.length)) || decide (most < V.length)) = r) := Lib.hid hr2
  rw [hr2]
  clear hr hr2 hsz
  go_enter Tryz.func14, Tryz.ntmps14
  go_wp2_with fail
  go_loop [5] (fun i => ∃ k : Nat, k ≤ V.length ∧ k ≤ most ∧ i = .int .i64 k ∧ Hid ((((V.drop k).take (most - k)).any (fun c => decide (300 < c.name.length) || decide (3000 < c.text.length)) || decide (most < V.length)) = r)) (fun i => V.length - (intOf i).toNat)
  case atStart => exact ⟨0, Nat.zero_le _, Nat.zero_le _, rfl, HR⟩
  case round =>
    obtain ⟨k, hk, hkm, rfl, HS⟩ := hrel
    by_cases hlt : k < V.length ∧ k < most
    · obtain ⟨hlt, hltm⟩ := hlt
      obtain ⟨_, c1, c2, _⟩ := HT.out k hlt
      obtain ⟨z1, z2⟩ := HZ.out V[k] (List.getElem_mem _)
      have hstep := HS.out
      rw [List.drop_eq_getElem_cons hlt, show most - k = (most - (k + 1)) + 1 from by omega, List.take_succ_cons, List.any_cons] at hstep
      have hx : (⟨V[k].name.toArray⟩ : ByteArray).size = V[k].name.length := by show V[k].name.toArray.size = _; simp
      have hy : (⟨V[k].text.toArray⟩ : ByteArray).size = V[k].text.length := by show V[k].text.toArray.size = _; simp
      rw [← hx] at hstep z1
      rw [← hy] at hstep z2
      clear hx hy
      generalize (⟨V[k].name.toArray⟩ : ByteArray) = x at *
      generalize (⟨V[k].text.toArray⟩ : ByteArray) = y at *
      by_cases hbig : 300 < x.size ∨ 3000 < y.size
      · have HF : Hid (true = r) := Lib.hid (by
          rw [← hstep]
          rcases hbig with h | h <;> simp [h])
        have hbig2 := hbig
        clear hstep HS
        rcases hbig with h | h
        · clear hbig2
          go_wp2_with fail
          go_ret
          exact ⟨ret_b HF.out, rfl⟩
        · clear hbig2
          go_wp2_with fail
          all_goals
            go_ret
            exact ⟨ret_b HF.out, rfl⟩
      · have h1 : x.size ≤ 300 := by omega
        have h2 : y.size ≤ 3000 := by omega
        have e1 : decide (300 < x.size) = false := decide_eq_false (by omega)
        have e2 : decide (3000 < y.size) = false := decide_eq_false (by omega)
        rw [e1, e2, Bool.or_false, Bool.false_or] at hstep
        have HF := Lib.hid hstep
        clear hstep HS hbig
        go_wp2_with fail
        go_round
        case rel => exact ⟨k + 1, by omega, by omega, by go_num, HF⟩
        case measure => simp [intOf]; omega
    · have HF : Hid (decide (most < V.length) = r) := Lib.hid (by
        have := HS.out
        by_cases h : k < V.length
        · rw [show most - k = 0 from by omega, List.take_zero] at this
          simpa using this
        · rw [List.drop_of_length_le (by omega), List.take_nil] at this
          simpa using this)
      clear HS
      by_cases h : k < V.length
      · have h2 : ¬ k < most := by omega
        clear hlt
        go_wp2_with fail
        go_ret
        exact ⟨ret_b HF.out, rfl⟩
      · clear hlt
        go_wp2_with fail
        go_ret
        exact ⟨ret_b HF.out, rfl⟩
set_option maxRecDepth 100000 in
theorem rgreat03_none (a : Option Addr) (cap most : Nat) (hm : most ≤ 100000) (w : World) :
    Calls Tryz.prog 14 #[.slice a 0 cap, .int .i64 (most : Int)] w fun e w' => e = .returned (.bool (greatV [] most)) ∧ w = w' := by
  have hr : Hid (greatV [] most = false) := Lib.hid (by unfold greatV; simp)
  go_enter Tryz.func14, Tryz.ntmps14
  go_wp2_with fail
  refine wp_loop_rounds 1 ?_; rw [rounds_succ]
  go_wp2_with fail
  go_ret
  exact ⟨ret_b hr.out.symm, rfl⟩
theorem rgreat03_any (V : List Cel) (v : Value) (most : Nat) (hl : V.length ≤ maxLen) (hm : most ≤ 100000) (w : World) (hv : CelSl v V w) (hsz : ∀ c ∈ V, c.name.length ≤ maxLen ∧ c.text.length ≤ maxLen) :
    Calls Tryz.prog 14 #[v, .int .i64 (most : Int)] w fun e w' => e = .returned (.bool (greatV V most)) ∧ w = w' := by
  unfold maxLen at *
  rcases hv with ⟨a, c, rfl, rfl, _⟩ | ⟨b, off, cap, rfl, hrow, hpos⟩
  · exact rgreat03_none a c most hm w
  · exact rgreat03_row V most b off cap hl hm w hrow hsz
theorem sameV_iff : ∀ (L M : List Cel), sameV L M = true ↔ L = M
  | [], [] => by simp [sameV]
  | [], _ :: _ => by simp [sameV]
  | _ :: _, [] => by simp [sameV]
  | t :: r, u :: s => by
    rw [sameV, Bool.and_eq_true, eqC_iff, sameV_iff r s]; simp
end Go.Proofs.YtglhanblbojkhaaGreatDoor
namespace Go.Proofs.YtglhanblbojkhaaGreatDoor
open Go.Lib
/-- Nothing that a number could go on with. -/
def StopJ (l : List UInt8) : Prop := ∀ c, l.head? = some c → isDig c = false ∧ c ≠ 46 ∧ c ≠ 101 ∧ c ≠ 69
theorem tk_app (w r : List UInt8) : tkJ w (w ++ r) = some r := by
  unfold tkJ
  rw [if_pos (by simp), List.drop_left]
theorem tk_one' (c : UInt8) (r : List UInt8) : tkJ [c] (c :: r) = some r := tk_app [c] r
theorem tk_ne {c d : UInt8} (r : List UInt8) (h : d ≠ c) : tkJ [c] (d :: r) = none := by
  unfold tkJ
  have hb : (c == d) = false := beq_eq_false_iff_ne.2 (Ne.symm h)
  simp [List.isPrefixOf, hb]
theorem hex_dig (n : Nat) (h : n < 16) : hexJ (hexD n) = some n := (by decide +kernel : ∀ i : Fin 16, hexJ (hexD i.val) = some i.val) ⟨n, h⟩
theorem quoteC_big (c : UInt8) (h : 128 ≤ c.toNat) : quoteC c = [c] := by
  have := (by decide +kernel : ∀ i : Fin 256, 128 ≤ i.val → quoteC (UInt8.ofNat i.val) = [UInt8.ofNat i.val]) ⟨c.toNat, UInt8.toNat_lt c⟩ h
  simpa only [UInt8.ofNat_toNat] using this
theorem strGo_q (f : Nat) (r : List UInt8) : strGo (f + 1) (34 :: r) = some ([], r) := by rw [strGo, if_pos rfl]
theorem strGo_bs (f : Nat) (t : List UInt8) : strGo (f + 1) (92 :: t) = (match escJ t with | none => none | some (p, u) => (strGo f u).map fun x => (p :: x.1, x.2)) := by
  rw [strGo, if_neg (by decide), if_neg (by decide), if_pos rfl]
  rfl
theorem strGo_raw (f : Nat) (c : UInt8) (r : List UInt8) (h1 : c ≠ 34) (h2 : ¬ c.toNat < 32) (h3 : c ≠ 92) : strGo (f + 1) (c :: r) = (strGo f ((c :: r).drop (decodeL (c :: r)).2)).map fun x => ((decodeL (c :: r)).1 :: x.1, x.2) := by
  rw [strGo, if_neg h1, if_neg h2, if_neg h3]
/-- An ASCII byte, quoted, is read as itself. -/
theorem strGo_ascii (f : Nat) (c : UInt8) (r : List UInt8) (h : c.toNat < 128) : strGo (f + 1) (quoteC c ++ r) = (strGo f r).map fun x => (c.toNat :: x.1, x.2) := by
  by_cases h34 : c = 34
  · subst h34; rw [show quoteC 34 ++ r = 92 :: 34 :: r from rfl, strGo_bs]; rfl
  by_cases h92 : c = 92
  · subst h92; rw [show quoteC 92 ++ r = 92 :: 92 :: r from rfl, strGo_bs]; rfl
  by_cases h8 : c = 8
  · subst h8; rw [show quoteC 8 ++ r = 92 :: 98 :: r from rfl, strGo_bs]; rfl
  by_cases h9 : c = 9
  · subst h9; rw [show quoteC 9 ++ r = 92 :: 116 :: r from rfl, strGo_bs]; rfl
  by_cases h10 : c = 10
  · subst h10; rw [show quoteC 10 ++ r = 92 :: 110 :: r from rfl, strGo_bs]; rfl
  by_cases h12 : c = 12
  · subst h12; rw [show quoteC 12 ++ r = 92 :: 102 :: r from rfl, strGo_bs]; rfl
  by_cases h13 : c = 13
  · subst h13; rw [show quoteC 13 ++ r = 92 :: 114 :: r from rfl, strGo_bs]; rfl
  by_cases h32 : c.toNat < 32
  · have hq : quoteC c = [92, 117, 48, 48, hexD (c.toNat / 16), hexD (c.toNat % 16)] := by
      unfold quoteC
      rw [if_neg (by rintro (e | e); exact h34 e; exact h92 e), if_neg h8, if_neg h9, if_neg h10, if_neg h12, if_neg h13, if_pos h32]
    have he : escJ (117 :: 48 :: 48 :: hexD (c.toNat / 16) :: hexD (c.toNat % 16) :: r) = some (c.toNat, r) := by
      have h0 : hexsJ 4 0 (48 :: 48 :: hexD (c.toNat / 16) :: hexD (c.toNat % 16) :: r) = some (c.toNat, r) := by
        rw [hexsJ, show hexJ 48 = some 0 from by decide]
        simp only
        rw [hexsJ, show hexJ 48 = some 0 from by decide]
        simp only
        rw [hexsJ, hex_dig _ (by omega)]
        simp only
        rw [hexsJ, hex_dig _ (by omega)]
        simp only
        rw [hexsJ]
        congr 2; omega
      simp only [escJ, show letJ 117 = none from by decide, h0, ne_eq, not_true_eq_false, if_false]
      rw [if_neg (by omega), if_neg (by omega)]
    rw [hq, show [92, 117, 48, 48, hexD (c.toNat / 16), hexD (c.toNat % 16)] ++ r = 92 :: 117 :: 48 :: 48 :: hexD (c.toNat / 16) :: hexD (c.toNat % 16) :: r from rfl, strGo_bs, he]
  · have hq : quoteC c = [c] := by
      unfold quoteC
      rw [if_neg (by rintro (e | e); exact h34 e; exact h92 e), if_neg h8, if_neg h9, if_neg h10, if_neg h12, if_neg h13, if_neg h32]
    rw [hq, List.singleton_append, strGo_raw f c r h34 h32 h92, decode_ascii c r h]
    rfl
theorem big_all : ∀ l : List UInt8, (∀ c ∈ l, 128 ≤ c.toNat) → l.flatMap quoteC = l
  | [], _ => rfl
  | c :: l, h => by
    rw [List.flatMap_cons, quoteC_big c (h c (by simp)), big_all l fun x hx => h x (by simp [hx])]; rfl
/-- A code point of more than one byte has no byte below 128. -/
theorem enc_big (n : Nat) (hp : isPt n = true) (h : 128 ≤ n) : ∀ c ∈ encN n, 128 ≤ c.toNat := by
  unfold isPt at hp
  rw [decide_eq_true_eq] at hp
  intro c hc
  unfold encN at hc
  rw [if_neg (by omega)] at hc
  split at hc
  · simp only [List.mem_cons, List.not_mem_nil, or_false] at hc
    rcases hc with rfl | rfl <;> (rw [ofN _ (by omega)]; omega)
  · split at hc
    · simp only [List.mem_cons, List.not_mem_nil, or_false] at hc
      rcases hc with rfl | rfl | rfl <;> (rw [ofN _ (by omega)]; omega)
    · simp only [List.mem_cons, List.not_mem_nil, or_false] at hc
      rcases hc with rfl | rfl | rfl | rfl <;> (rw [ofN _ (by omega)]; omega)
/-- What is quoted is read as itself. -/
theorem strGo_quote : ∀ (n : Nat) (t r : List UInt8) (f : Nat), t.length ≤ n → validD t = true → t.length < f → ∃ P, strGo f (t.flatMap quoteC ++ 34 :: r) = some (P, r) ∧ P.flatMap encN = t
  | n, [], r, f, _, _, hf => by
    obtain ⟨g, rfl⟩ : ∃ g, f = g + 1 := ⟨f - 1, by simp at hf; omega⟩
    exact ⟨[], strGo_q g r, rfl⟩
  | 0, c :: t, r, f, hn, _, _ => by simp at hn
  | n + 1, c :: t, r, f, hn, hv, hf => by
    obtain ⟨g, rfl⟩ : ∃ g, f = g + 1 := ⟨f - 1, by simp at hf; omega⟩
    simp only [List.length_cons] at hn hf
    by_cases hc : c.toNat < 128
    · have hv2 : validD t = true := by rw [valid_cons c t hc] at hv; exact hv
      obtain ⟨P, h1, h2⟩ := strGo_quote n t r g (by omega) hv2 (by omega)
      refine ⟨c.toNat :: P, ?_, ?_⟩
      · rw [List.flatMap_cons, List.append_assoc, strGo_ascii g c _ hc, h1]; rfl
      · rw [List.flatMap_cons, h2]
        have : encN c.toNat = [c] := by unfold encN; rw [if_pos hc, UInt8.ofNat_toNat]
        rw [this]; rfl
    · have hs := valid_step (c :: t) (by simp)
      rw [hv] at hs
      have hs2 := hs.symm
      rw [Bool.and_eq_true] at hs2
      obtain ⟨hw, hv2⟩ := hs2
      obtain ⟨d1, d2, d3, d4⟩ := decode_pt (c :: t) (by simp) hw
      obtain ⟨p, hp⟩ : ∃ p, (decodeL (c :: t)).1 = p := ⟨_, rfl⟩
      obtain ⟨m, hm⟩ : ∃ m, (decodeL (c :: t)).2 = m := ⟨_, rfl⟩
      rw [hp, hm] at d4
      rw [hp] at d1
      rw [hm] at d2 d3 hv2
      have hsplit : c :: t = encN p ++ (c :: t).drop m := by rw [d4, List.take_append_drop]
      have hml : (encN p).length = m := by rw [d4, List.length_take]; omega
      have hp128 : 128 ≤ p := by
        rcases Nat.lt_or_ge p 128 with h | h
        · have h1 : encN p = [UInt8.ofNat p] := by unfold encN; rw [if_pos h]
          rw [h1] at hsplit
          injection hsplit with h2 h3
          rw [h2, ofN p (by omega)] at hc
          exact absurd h hc
        · exact h
      have hdl : ((c :: t).drop m).length = t.length + 1 - m := by rw [List.length_drop]; rfl
      obtain ⟨P, h1, h2⟩ := strGo_quote n ((c :: t).drop m) r g (by omega) hv2 (by omega)
      refine ⟨p :: P, ?_, ?_⟩
      · have hfm : (c :: t).flatMap quoteC = encN p ++ ((c :: t).drop m).flatMap quoteC := by
          conv => lhs; rw [hsplit]
          rw [List.flatMap_append, big_all _ (enc_big p d1 hp128)]
        rw [hfm, List.append_assoc]
        obtain ⟨c0, r0, he⟩ : ∃ c0 r0, encN p = c0 :: r0 := by
          cases h : encN p with
          | nil => rw [h] at hml; simp at hml; omega
          | cons a b => exact ⟨a, b, rfl⟩
        have hc0 : 128 ≤ c0.toNat := enc_big p d1 hp128 c0 (by rw [he]; simp)
        have hdec := decode_enc p d1 (((c :: t).drop m).flatMap quoteC ++ 34 :: r)
        rw [he] at hdec ⊢
        rw [List.cons_append] at hdec ⊢
        rw [strGo_raw g c0 _ (by intro e; subst e; exact absurd hc0 (by decide)) (by omega) (by intro e; subst e; exact absurd hc0 (by decide)), hdec]
        simp only
        rw [show ((c0 :: (r0 ++ (((c :: t).drop m).flatMap quoteC ++ 34 :: r))).drop (c0 :: r0).length) = ((c :: t).drop m).flatMap quoteC ++ 34 :: r from by rw [← List.cons_append, List.drop_left], h1]
        rfl
      · rw [List.flatMap_cons, h2, ← hsplit]
theorem quoteC_pos (c : UInt8) : 1 ≤ (quoteC c).length := by
  unfold quoteC
  repeat' split
  all_goals simp
theorem flat_quote_len : ∀ t : List UInt8, t.length ≤ (t.flatMap quoteC).length
  | [] => by simp
  | c :: t => by
    rw [List.flatMap_cons, List.length_append, List.length_cons]
    have := quoteC_pos c
    have := flat_quote_len t
    omega
theorem str_quote (t r : List UInt8) (hv : validD t = true) : strJ (quoteL t ++ r) = some (t, r) := by
  unfold strJ quoteL
  rw [show [34] ++ t.flatMap quoteC ++ [34] ++ r = 34 :: (t.flatMap quoteC ++ 34 :: r) from by simp, tk_one']
  simp only
  obtain ⟨P, h1, h2⟩ := strGo_quote t.length t r (t.flatMap quoteC ++ 34 :: r).length (Nat.le_refl _) hv (by have := flat_quote_len t; rw [List.length_append, List.length_cons]; omega)
  rw [h1]
  simp only [Option.map_some, h2]
theorem dig_while : ∀ (l r : List UInt8), l.all isDig = true → (∀ c, r.head? = some c → isDig c = false) → (l ++ r).takeWhile isDig = l ∧ (l ++ r).dropWhile isDig = r
  | [], r, _, hr => by
    cases r with
    | nil => exact ⟨rfl, rfl⟩
    | cons c r =>
      have := hr c rfl
      rw [List.nil_append, List.takeWhile_cons, List.dropWhile_cons, this]
      exact ⟨rfl, rfl⟩
  | c :: l, r, h, hr => by
    rw [List.all_cons, Bool.and_eq_true] at h
    obtain ⟨h1, h2⟩ := dig_while l r h.2 hr
    rw [List.cons_append, List.takeWhile_cons, List.dropWhile_cons, h.1, if_pos rfl, if_pos rfl, h1, h2]
    exact ⟨rfl, rfl⟩
theorem point_stop (r : List UInt8) (h : StopJ r) : pointJ r = none ∧ powerJ r = none := by
  cases r with
  | nil => exact ⟨rfl, rfl⟩
  | cons c r =>
    obtain ⟨h1, h2, h3, h4⟩ := h c rfl
    unfold pointJ powerJ partJ
    have e1 : (c == 46) = false := beq_eq_false_iff_ne.2 h2
    have e2 : (c == 101) = false := beq_eq_false_iff_ne.2 h3
    have e3 : (c == 69) = false := beq_eq_false_iff_ne.2 h4
    simp [e1, e2, e3]
/-- What a number's text tells, whatever stands behind it. -/
theorem num_whole (t r : List UInt8) (ht : okDigits (body t) = true) (hr : StopJ r) : numJ (t ++ r) = if rdE t != 0 then .error 41 else .ok (rdV t, r) := by
  have hd : digitsB (body t) = true := by unfold okDigits at ht; rw [Bool.and_eq_true] at ht; exact ht.1
  have hall : (body t).all isDig = true := by unfold digitsB at hd; rw [Bool.and_eq_true] at hd; exact hd.1
  have hne : body t ≠ [] := by
    intro h
    rw [h] at hd; exact absurd hd (by decide)
  have htne : t ≠ [] := by
    intro h; subst h; exact hne rfl
  have hbl : below (t ++ r) = below t := by
    cases t with
    | nil => exact absurd rfl htne
    | cons c t => rfl
  have hbo : body (t ++ r) = body t ++ r := by
    unfold body
    rw [hbl]
    cases hb : below t with
    | true =>
      rw [if_pos rfl, if_pos rfl]
      cases t with
      | nil => exact absurd rfl htne
      | cons c t => rfl
    | false => rfl
  have hdr : ∀ c, r.head? = some c → isDig c = false := fun c hc => (hr c hc).1
  obtain ⟨w1, w2⟩ := dig_while (body t) r hall hdr
  have hwh : wholeJ (body t ++ r) = body t := by
    unfold wholeJ
    split
    · rename_i h
      have h0 : (body t).head? = some 48 := by
        cases hbt : body t with
        | nil => exact absurd hbt hne
        | cons c u => rw [hbt] at h; simpa using h
      unfold okDigits at ht
      rw [Bool.and_eq_true] at ht
      have h1 := ht.2
      rw [h0] at h1
      simp only [beq_self_eq_true, Bool.true_and, Bool.not_eq_true', decide_eq_false_iff_not] at h1
      cases hbt : body t with
      | nil => exact absurd hbt hne
      | cons c u =>
        rw [hbt] at h0 h1
        simp only [List.head?_cons, Option.some.injEq] at h0
        cases u with
        | nil => rw [h0]
        | cons a b => simp at h1
    · exact w1
  obtain ⟨q1, q2⟩ := point_stop r hr
  have hsg : (if below t then ([45] : List UInt8) else []) ++ body t = t := by
    unfold body
    cases t with
    | nil => exact absurd rfl htne
    | cons c t =>
      by_cases hc : c = 45
      · subst hc; rfl
      · have : below (c :: t) = false := by unfold below; exact beq_eq_false_iff_ne.2 hc
        rw [this]; rfl
  unfold numJ
  simp only
  rw [hbo, hwh, hbl]
  have hie : (body t).isEmpty = false := by
    cases hbt : body t with
    | nil => exact absurd hbt hne
    | cons a b => rfl
  rw [hie]
  simp only [Bool.false_eq_true, if_false, List.drop_left, q1, q2, Option.getD_none, Option.isSome_none, Bool.false_or, hsg]
theorem num_itoa (n : Int) (hr : R n) (r : List UInt8) (h : StopJ r) : numJ (Lib.itoa n ++ r) = .ok (n, r) := by
  rw [num_whole _ r (read_itoa n).1 h, rdE_itoa n hr, rdV_itoa n hr]
  rfl
theorem bl_not (c : UInt8) (r : List UInt8) (h : blankJ c = false) : blJ (c :: r) = c :: r := by
  unfold blJ
  rw [List.dropWhile_cons, h]; rfl
theorem itoa_head (n : Int) : ∃ c r, Lib.itoa n = c :: r ∧ (c = 45 ∨ isDig c = true) := by
  have h := (read_itoa n).1
  cases hi : Lib.itoa n with
  | nil => rw [hi] at h; exact absurd h (by decide)
  | cons c r =>
    refine ⟨c, r, rfl, ?_⟩
    by_cases hc : c = 45
    · exact Or.inl hc
    · right
      rw [hi] at h
      have hb : body (c :: r) = c :: r := by
        unfold body
        have : below (c :: r) = false := by unfold below; exact beq_eq_false_iff_ne.2 hc
        rw [this]; rfl
      rw [hb] at h
      unfold okDigits digitsB at h
      simp only [Bool.and_eq_true, List.all_cons] at h
      exact h.1.1.1
theorem dig_rng (c : UInt8) : isDig c = true ↔ 48 ≤ c.toNat ∧ c.toNat ≤ 57 := by unfold isDig; exact decide_eq_true_iff
/-- A value's text, at its head: one of those that a value begins with. -/
theorem lit_head (c : Cel) (h1 : oneC c = true) (hn : nestC c = false) : ∃ a r, litJ c = a :: r ∧ begJ a = true ∧ a ≠ 123 ∧ a ≠ 91 ∧ blankJ a = false := by
  unfold litJ
  split
  · exact ⟨110, _, rfl, by decide, by decide, by decide, by decide⟩
  · split
    · split
      · exact ⟨116, _, rfl, by decide, by decide, by decide, by decide⟩
      · exact ⟨102, _, rfl, by decide, by decide, by decide, by decide⟩
    · split
      · obtain ⟨a, r, h, ha⟩ := itoa_head c.num
        refine ⟨a, r, h, ?_⟩
        rcases ha with rfl | ha
        · exact ⟨by decide, by decide, by decide, by decide⟩
        · have := (dig_rng a).1 ha
          refine ⟨?_, ?_, ?_, ?_⟩
          · unfold begJ; rw [ha]; simp
          · intro e; subst e; exact absurd this (by decide)
          · intro e; subst e; exact absurd this (by decide)
          · unfold blankJ
            simp only [Bool.or_eq_false_iff, beq_eq_false_iff_ne, ne_eq]
            refine ⟨⟨⟨?_, ?_⟩, ?_⟩, ?_⟩ <;> (intro e; subst e; exact absurd this (by decide))
      · exact ⟨34, _, rfl, by decide, by decide, by decide, by decide⟩
end Go.Proofs.YtglhanblbojkhaaGreatDoor
namespace Go.Proofs.YtglhanblbojkhaaGreatDoor
open Go.Lib
/-- A cell that JSON can tell. -/
def GoodC (c : Cel) : Prop := (c.kind == 4 || c.kind == 5) = false ∧ R c.num
def renJ (name : List UInt8) : List Cel → List Cel
  | [] => []
  | c :: r => { c with name := name } :: r
theorem dig_ne (a : UInt8) (h : isDig a = true) (x : Nat) (hx : x < 256) (ho : x < 48 ∨ 57 < x) : a ≠ UInt8.ofNat x := by
  intro e
  have h1 := (dig_rng a).1 h
  rw [e, ofN x hx] at h1
  omega
theorem leaf_good (c : Cel) (h1 : oneC c = true) (hn : nestC c = false) (hg : GoodC c) (name rest : List UInt8) (out : List Cel) (hs : StopJ rest) :
    ∃ a r, litJ c ++ rest = a :: r ∧ begJ a = true ∧ a ≠ 123 ∧ a ≠ 91 ∧ blankJ a = false ∧ leafJ name a (litJ c ++ rest) out = .ok (rest, out ++ [{ c with name := name }]) := by
  obtain ⟨a, r, hl, b1, b2, b3, b4⟩ := lit_head c h1 hn
  refine ⟨a, r ++ rest, by rw [hl]; rfl, b1, b2, b3, b4, ?_⟩
  obtain ⟨kind, nm, text, num, many⟩ := c
  obtain ⟨he, hR⟩ := hg
  simp only at he hR
  unfold nestC at hn
  simp only [Bool.or_eq_false_iff, beq_eq_false_iff_ne] at hn he
  unfold oneC at h1
  simp only at h1
  unfold litJ at hl ⊢
  simp only at hl ⊢
  by_cases k0 : kind = 0
  · rw [if_pos k0] at h1 hl ⊢
    simp only [Bool.and_eq_true, List.isEmpty_iff, beq_iff_eq] at h1
    obtain ⟨⟨e1, e2⟩, e3⟩ := h1
    injection hl with hl _
    subst hl
    unfold leafJ
    rw [if_neg (by decide), if_neg (by decide), if_neg (by decide), if_pos rfl, tk_app, k0, e1, e2, e3]
  rw [if_neg k0] at h1 hl ⊢
  by_cases k1 : kind = 1
  · rw [if_pos k1] at h1 hl ⊢
    simp only [Bool.and_eq_true, Bool.or_eq_true, List.isEmpty_iff, beq_iff_eq] at h1
    obtain ⟨⟨e1, e2⟩, e3⟩ := h1
    by_cases hb : num = 1
    · rw [if_pos hb] at hl ⊢
      injection hl with hl _
      subst hl
      unfold leafJ
      rw [if_neg (by decide), if_pos rfl, tk_app, k1, e1, hb, e3]
    · rw [if_neg hb] at hl ⊢
      injection hl with hl _
      subst hl
      have hb0 : num = 0 := e2.resolve_right hb
      unfold leafJ
      rw [if_neg (by decide), if_neg (by decide), if_pos rfl, tk_app, k1, e1, hb0, e3]
  rw [if_neg k1] at h1 hl ⊢
  by_cases k2 : kind = 2
  · rw [if_pos k2] at h1 hl ⊢
    simp only [Bool.and_eq_true, List.isEmpty_iff, beq_iff_eq] at h1
    obtain ⟨e1, e3⟩ := h1
    have ha : a = 45 ∨ isDig a = true := by
      obtain ⟨a', r', h', ha'⟩ := itoa_head num
      rw [hl] at h'
      injection h' with h' _
      rw [h']; exact ha'
    have hne : ∀ x : Nat, x < 256 → 57 < x ∨ x = 34 → a ≠ UInt8.ofNat x := fun x hx ho => by
      rcases ha with rfl | ha
      · intro e
        have := congrArg UInt8.toNat e
        rw [ofN x hx] at this
        have h45 : (45 : UInt8).toNat = 45 := rfl
        omega
      · exact dig_ne a ha x hx (by omega)
    unfold leafJ
    rw [if_neg (show ¬ a = 34 from hne 34 (by decide) (by decide)), if_neg (show ¬ a = 116 from hne 116 (by decide) (by decide)), if_neg (show ¬ a = 102 from hne 102 (by decide) (by decide)), if_neg (show ¬ a = 110 from hne 110 (by decide) (by decide)), num_itoa num hR rest hs, k2, e1, e3]
  rw [if_neg k2] at h1 hl ⊢
  by_cases k3 : kind = 3
  · rw [if_pos k3] at h1
    simp only [Bool.and_eq_true, beq_iff_eq] at h1
    obtain ⟨⟨e1, e2⟩, e3⟩ := h1
    unfold textB at e1
    rw [Bool.and_eq_true] at e1
    have ha : a = 34 := by
      unfold quoteL at hl
      simp only [List.cons_append, List.nil_append] at hl
      injection hl with hl _
      exact hl.symm
    subst ha
    unfold leafJ
    rw [if_pos rfl, str_quote text rest e1.2, k3, e2, e3]
  rw [if_neg k3, if_neg (by rintro (e | e); exact he.1 e; exact he.2 e), if_neg (by rintro (e | e); exact hn.1 e; exact hn.2 e)] at h1
  cases h1
theorem text_head : ∀ (d : Nat) (V : List Cel) (k : Nat), valN d V = some k → ∃ a r, textJ d V = a :: r ∧ begJ a = true ∧ blankJ a = false
  | d, [], k, h => by cases d <;> cases h
  | d, c :: r, k, h => by
    have hone : oneC c = true := by
      cases d <;> (first | rw [valN_zero, headN_cons] at h | rw [valN_more, headN_cons] at h) <;> (cases h1 : oneC c with | true => rfl | false => rw [h1] at h; cases h)
    cases hn : nestC c with
    | false =>
      obtain ⟨a, r', hl, b1, _, _, b4⟩ := lit_head c hone hn
      refine ⟨a, r', ?_, b1, b4⟩
      cases d <;> (first | rw [textJ_zero, headJ_cons, hn] | rw [textJ_more, headJ_cons, hn]) <;> exact hl
    | true =>
      cases d with
      | zero => rw [valN_zero, headN_cons, hone, hn] at h; cases h
      | succ d =>
        rw [textJ_more, headJ_cons, hn, if_pos rfl]
        cases hk : c.kind == 6 with
        | true => exact ⟨91, _, rfl, by decide, by decide⟩
        | false => exact ⟨123, _, rfl, by decide, by decide⟩
theorem bl_head (l : List UInt8) (h : ∀ c, l.head? = some c → blankJ c = false) : blJ l = l := by
  cases l with
  | nil => rfl
  | cons c r => exact bl_not c r (h c rfl)
theorem among_cont (L : List (List UInt8)) (n : List UInt8) : amongB L n = L.contains n := by
  unfold amongB
  induction L with
  | nil => rfl
  | cons a L ih =>
    rw [List.any_cons, List.contains_cons, ih]
    congr 1
    exact BEq.comm
theorem kidsN_names (val : List Cel → Option Nat) : ∀ (n : Nat) (nm nm' : List (List UInt8)) (V : List Cel), kidsN val true n nm V = kidsN val true n nm' V
  | 0, nm, nm', V => rfl
  | n + 1, nm, nm', [] => rfl
  | n + 1, nm, nm', c :: r => by
    rw [kidsN, kidsN]
    have : okN true nm c.name = okN true nm' c.name := rfl
    rw [this]
    split
    · cases val (c :: r) with
      | none => rfl
      | some k => simp only; rw [kidsN_names val n (c.name :: nm) (c.name :: nm')]
    · rfl
def endJ (isO : Bool) : UInt8 := if isO then 125 else 93
/-- What is said of a value at a depth. -/
def ValT (d : Nat) : Prop := ∀ (V : List Cel) (k : Nat) (name rest : List UInt8) (out : List Cel), valN d V = some k → (∀ x ∈ V.take k, GoodC x) → StopJ rest → out.length + k ≤ 2048 → valJ d name (textJ d V ++ rest) out = .ok (rest, out ++ renJ name (V.take k))
theorem kids_head (d : Nat) (isO : Bool) (n : Nat) (V : List Cel) (rest : List UInt8) : ∃ a r, kidsJ (valN d) (textJ d) isO n false V ++ endJ isO :: rest = a :: r ∧ (a = 44 ∨ a = endJ isO) := by
  cases n with
  | zero => exact ⟨endJ isO, rest, rfl, Or.inr rfl⟩
  | succ n =>
    rw [kidsJ]
    unfold preJ
    exact ⟨44, _, rfl, Or.inl rfl⟩
theorem end_stop (isO : Bool) (a : UInt8) (r : List UInt8) (h : a = 44 ∨ a = endJ isO) : StopJ (a :: r) ∧ blankJ a = false := by
  have : a = 44 ∨ a = 125 ∨ a = 93 := by
    rcases h with h | h
    · exact Or.inl h
    · cases isO
      · exact Or.inr (Or.inr h)
      · exact Or.inr (Or.inl h)
  refine ⟨fun c hc => ?_, ?_⟩
  · injection hc with hc
    subst hc
    rcases this with rfl | rfl | rfl <;> decide
  · rcases this with rfl | rfl | rfl <;> decide
theorem items_text (d : Nat) (ih : ValT d) (isO : Bool) : ∀ (n m : Nat) (nm : List (List UInt8)) (V : List Cel) (k : Nat) (rest : List UInt8) (out : List Cel) (f : Nat), kidsN (valN d) (!isO) n nm V = some k → (∀ x ∈ V.take k, GoodC x) → out.length + k ≤ 2048 → n < f →
    itemsJ (valJ d) isO f m nm (kidsJ (valN d) (textJ d) isO n (m == 0) V ++ endJ isO :: rest) out = .ok (m + n, rest, out ++ V.take k)
  | 0, m, nm, V, k, rest, out, f, h, hg, hl, hf => by
    obtain ⟨g, rfl⟩ : ∃ g, f = g + 1 := ⟨f - 1, by omega⟩
    have hk : k = 0 := (Option.some.inj h).symm
    subst hk
    rw [kidsJ, List.nil_append, itemsJ]
    rw [show (if isO then (125 : UInt8) else 93) = endJ isO from rfl, tk_one']
    simp
  | n + 1, m, nm, [], k, rest, out, f, h, hg, hl, hf => by cases h
  | n + 1, m, nm, c :: r, k, rest, out, f, h, hg, hl, hf => by
    obtain ⟨g, rfl⟩ : ∃ g, f = g + 1 := ⟨f - 1, by omega⟩
    rw [kidsN] at h
    split at h
    · rename_i hok
      split at h
      · cases h
      · rename_i k1 hk1
        rw [Option.map_eq_some_iff] at h
        obtain ⟨k2, hk2, rfl⟩ := h
        obtain ⟨v1, v2⟩ := valN_le d _ _ hk1
        obtain ⟨a0, r0, ht, hb, hbl⟩ := text_head d _ _ hk1
        obtain ⟨ka, kr, hkh, hka⟩ := kids_head d isO n ((c :: r).drop k1) rest
        obtain ⟨hst, hkb⟩ := end_stop isO ka kr hka
        have htake : (c :: r).take (k1 + k2) = (c :: r).take k1 ++ ((c :: r).drop k1).take k2 := List.take_add
        have hv : ∀ name, name = c.name → valJ d name (textJ d (c :: r) ++ (ka :: kr)) out = .ok (ka :: kr, out ++ (c :: r).take k1) := fun name hnm => by
          rw [ih (c :: r) k1 name (ka :: kr) out hk1 (fun x hx => hg x (by rw [htake]; exact List.mem_append_left _ hx)) hst (by omega)]
          congr 3
          obtain ⟨k1', rfl⟩ : ∃ k1', k1 = k1' + 1 := ⟨k1 - 1, by omega⟩
          rw [List.take_succ_cons, renJ, hnm]
        have hrec := fun nm' (hk2' : kidsN (valN d) (!isO) n nm' ((c :: r).drop k1) = some k2) => items_text d ih isO n (m + 1) nm' ((c :: r).drop k1) k2 rest (out ++ (c :: r).take k1) g hk2' (fun x hx => hg x (by rw [htake]; exact List.mem_append_right _ hx)) (by
          rw [List.length_append, List.length_take, Nat.min_eq_left v2]; omega) (by omega)
        rw [show ((m + 1 == 0) : Bool) = false from by simp, hkh] at hrec
        have hend : ∀ (x : UInt8) (y : List UInt8), x ≠ endJ isO → tkJ [if isO then 125 else 93] (x :: y) = none := fun x y hx => tk_ne y hx
        have hbeg : a0 ≠ endJ isO := by
          intro e
          rw [e] at hb
          cases isO <;> exact absurd hb (by decide)
        have hfin : itemsJ (valJ d) isO g (m + 1) (c.name :: nm) (blJ (ka :: kr)) (out ++ (c :: r).take k1) = .ok (m + (n + 1), rest, out ++ (c :: r).take (k1 + k2)) := by
          rw [bl_not ka kr hkb, hrec _ hk2, htake, List.append_assoc]
          congr 2
          omega
        cases isO with
        | true =>
          simp only [Bool.not_true, okN, Bool.false_eq_true, if_false, Bool.and_eq_true, Bool.not_eq_true'] at hok
          obtain ⟨⟨hne, htx⟩, ham⟩ := hok
          unfold textB at htx
          rw [Bool.and_eq_true] at htx
          -- the member's own text
          have hmem : memJ nm (quoteL c.name ++ ([58] ++ (textJ d (c :: r) ++ (ka :: kr)))) = .ok (c.name, textJ d (c :: r) ++ (ka :: kr)) := by
            unfold memJ
            rw [str_quote c.name _ htx.2]
            simp only
            rw [if_neg (by rw [← among_cont, ham]; simp), if_neg (by rw [hne]; simp)]
            rw [show ([58] ++ (textJ d (c :: r) ++ (ka :: kr))) = 58 :: (textJ d (c :: r) ++ (ka :: kr)) from rfl, bl_not 58 _ (by decide), tk_one']
          have hq : ∃ y, quoteL c.name ++ ([58] ++ (textJ d (c :: r) ++ (ka :: kr))) = 34 :: y := ⟨_, rfl⟩
          obtain ⟨y, hq⟩ := hq
          have hL : kidsJ (valN d) (textJ d) true (n + 1) (m == 0) (c :: r) ++ endJ true :: rest = (if m = 0 then [] else [44]) ++ (quoteL c.name ++ ([58] ++ (textJ d (c :: r) ++ (ka :: kr)))) := by
            rw [kidsJ, hk1, Option.getD_some, ← hkh]
            unfold preJ
            simp only [if_true, List.headD_cons]
            by_cases hm : m = 0
            · subst hm; simp
            · have : (m == 0) = false := by simp [hm]
              rw [this]; simp [hm]
          rw [hL, itemsJ]
          by_cases hm : m = 0
          · rw [if_pos hm, List.nil_append]
            rw [show tkJ [if (true : Bool) = true then 125 else 93] (quoteL c.name ++ ([58] ++ (textJ d (c :: r) ++ (ka :: kr)))) = none from by rw [hq]; exact tk_ne y (by decide)]
            simp only
            rw [if_pos hm]
            simp only [if_true]
            rw [hmem]
            simp only
            rw [hv c.name rfl]
            simp only
            exact hfin
          · rw [if_neg hm, show ([44] : List UInt8) ++ (quoteL c.name ++ ([58] ++ (textJ d (c :: r) ++ (ka :: kr)))) = 44 :: (quoteL c.name ++ ([58] ++ (textJ d (c :: r) ++ (ka :: kr)))) from rfl]
            rw [show tkJ [if (true : Bool) = true then 125 else 93] (44 :: (quoteL c.name ++ ([58] ++ (textJ d (c :: r) ++ (ka :: kr))))) = none from tk_ne _ (by decide)]
            simp only
            rw [if_neg hm, tk_one', Option.map_some]
            simp only [if_true]
            rw [show blJ (quoteL c.name ++ ([58] ++ (textJ d (c :: r) ++ (ka :: kr)))) = quoteL c.name ++ ([58] ++ (textJ d (c :: r) ++ (ka :: kr))) from by rw [hq]; exact bl_not 34 y (by decide), hmem]
            simp only
            rw [hv c.name rfl]
            simp only
            exact hfin
        | false =>
          simp only [Bool.not_false, okN, if_true, List.isEmpty_iff] at hok
          have hL : kidsJ (valN d) (textJ d) false (n + 1) (m == 0) (c :: r) ++ endJ false :: rest = (if m = 0 then [] else [44]) ++ (textJ d (c :: r) ++ (ka :: kr)) := by
            rw [kidsJ, hk1, Option.getD_some, ← hkh]
            unfold preJ
            by_cases hm : m = 0
            · subst hm; simp
            · have : (m == 0) = false := by simp [hm]
              rw [this]; simp [hm]
          have hfin2 : itemsJ (valJ d) false g (m + 1) nm (blJ (ka :: kr)) (out ++ (c :: r).take k1) = .ok (m + (n + 1), rest, out ++ (c :: r).take (k1 + k2)) := by
            have hk3 : kidsN (valN d) (!false) n nm ((c :: r).drop k1) = some k2 := by
              rw [← hk2]; exact kidsN_names (valN d) n _ _ _
            rw [bl_not ka kr hkb, hrec _ hk3, htake, List.append_assoc]
            congr 2
            omega
          have hvl := hv [] hok.symm
          rw [ht] at hvl
          rw [hL, itemsJ, ht]
          by_cases hm : m = 0
          · rw [if_pos hm, List.nil_append, List.cons_append]
            rw [show tkJ [if (false : Bool) = true then 125 else 93] (a0 :: (r0 ++ (ka :: kr))) = none from tk_ne _ hbeg]
            simp only
            rw [if_pos hm]
            simp only [Bool.false_eq_true, if_false]
            rw [List.cons_append] at hvl
            rw [hvl]
            simp only
            exact hfin2
          · rw [if_neg hm, show ([44] : List UInt8) ++ (a0 :: r0 ++ ka :: kr) = 44 :: (a0 :: (r0 ++ (ka :: kr))) from rfl]
            rw [show tkJ [if (false : Bool) = true then 125 else 93] (44 :: (a0 :: (r0 ++ (ka :: kr)))) = none from tk_ne _ (by decide)]
            simp only
            rw [if_neg hm, tk_one', Option.map_some]
            simp only [Bool.false_eq_true, if_false]
            rw [bl_not a0 _ hbl]
            rw [List.cons_append] at hvl
            rw [hvl]
            simp only
            exact hfin2
    · cases h
theorem kids_ge (d : Nat) (isL isO : Bool) : ∀ (n : Nat) (first : Bool) (nm : List (List UInt8)) (V : List Cel) (k : Nat), kidsN (valN d) isL n nm V = some k → n ≤ (kidsJ (valN d) (textJ d) isO n first V).length
  | 0, first, nm, V, k, h => Nat.zero_le _
  | n + 1, first, nm, [], k, h => by cases h
  | n + 1, first, nm, c :: r, k, h => by
    rw [kidsN] at h
    split at h
    · split at h
      · cases h
      · rename_i k1 hk1
        rw [Option.map_eq_some_iff] at h
        obtain ⟨k2, hk2, rfl⟩ := h
        have ih := kids_ge d isL isO n false _ _ k2 hk2
        obtain ⟨a0, r0, ht, _⟩ := text_head d _ _ hk1
        rw [kidsJ, hk1, Option.getD_some, List.length_append, List.length_append, ht, List.length_cons]
        omega
    · cases h
theorem val_text_step (d : Nat) (ih : ∀ e, d = e + 1 → ValT e) : ValT d := by
  intro V k name rest out h hg hs hl
  obtain ⟨c, r, rfl⟩ : ∃ c r, V = c :: r := by
    cases V with
    | nil => cases d <;> cases h
    | cons c r => exact ⟨c, r, rfl⟩
  have hone : oneC c = true := by
    cases d <;> (first | rw [valN_zero, headN_cons] at h | rw [valN_more, headN_cons] at h) <;> (cases h1 : oneC c with | true => rfl | false => rw [h1] at h; cases h)
  obtain ⟨v1, v2⟩ := valN_le d _ _ h
  have hfull : out.length ≠ 2048 := by omega
  have hgc : GoodC c := hg c (by
    obtain ⟨k', rfl⟩ : ∃ k', k = k' + 1 := ⟨k - 1, by omega⟩
    rw [List.take_succ_cons]; exact List.mem_cons_self ..)
  cases hn : nestC c with
  | false =>
    have hk1 : k = 1 := by
      cases d <;> (first | rw [valN_zero, headN_cons, hone, hn] at h | rw [valN_more, headN_cons, hone, hn] at h) <;> exact (Option.some.inj h).symm
    subst hk1
    have htx : textJ d (c :: r) = litJ c := by
      cases d <;> (first | rw [textJ_zero, headJ_cons, hn] | rw [textJ_more, headJ_cons, hn]) <;> rfl
    obtain ⟨a, r', hl', b1, b2, b3, b4, hleaf⟩ := leaf_good c hone hn hgc name rest out hs
    rw [htx, valJ, hl', bl_not a r' b4]
    simp only [b1, Bool.not_true, Bool.false_eq_true, if_false]
    rw [if_neg hfull, if_neg (by rintro (e | e); exact b2 e; exact b3 e), ← hl', hleaf]
    rfl
  | true =>
    cases d with
    | zero => rw [valN_zero, headN_cons, hone, hn] at h; cases h
    | succ d =>
      rw [valN_more, headN_cons, hone, hn, if_pos rfl, if_pos rfl, Option.map_eq_some_iff] at h
      obtain ⟨k2, hk2, rfl⟩ := h
      rw [textJ_more, headJ_cons, hn, if_pos rfl]
      obtain ⟨kind, nm, text, num, many⟩ := c
      have hkk : kind = 6 ∨ kind = 7 := by
        unfold nestC at hn
        simpa using hn
      have hone2 : text = [] ∧ num = 0 ∧ 0 ≤ many := by
        unfold oneC at hone
        simp only at hone
        rcases hkk with rfl | rfl
        all_goals
          rw [if_neg (by decide), if_neg (by decide), if_neg (by decide), if_neg (by decide), if_neg (by decide), if_pos (by decide)] at hone
          simpa [Bool.and_eq_true, and_assoc] using hone
      obtain ⟨e1, e2, e3⟩ := hone2
      subst e1; subst e2
      have hmany : ((many.toNat : Nat) : Int) = many := Int.toNat_of_nonneg e3
      simp only at hk2 ⊢
      have hgo := fun (isO : Bool) (hc : (!isO) = (kind == 6)) => items_text d (ih d rfl) isO many.toNat 0 [] r k2 rest (out ++ [⟨if isO then 7 else 6, name, [], 0, 0⟩]) ((kidsJ (valN d) (textJ d) isO many.toNat true r ++ endJ isO :: rest).length + 1) (by rw [hc]; exact hk2) (fun x hx => hg x (by
          rw [show (1 + k2) = k2 + 1 from by omega, List.take_succ_cons]; exact List.mem_cons_of_mem _ hx)) (by rw [List.length_append]; simp only [List.length_cons, List.length_nil]; omega) (by
          have := kids_ge d (kind == 6) isO many.toNat true [] r k2 hk2
          rw [List.length_append]; omega)
      have hbl : ∀ isO, (!isO) = (kind == 6) → blJ (kidsJ (valN d) (textJ d) isO many.toNat true r ++ endJ isO :: rest) = kidsJ (valN d) (textJ d) isO many.toNat true r ++ endJ isO :: rest := fun isO hc => bl_head _ fun x hx => by
        cases hmm : many.toNat with
        | zero =>
          rw [hmm, kidsJ, List.nil_append, List.head?_cons] at hx
          injection hx with hx
          rw [← hx]; cases isO <;> decide
        | succ n =>
          rw [hmm] at hx hk2
          cases r with
          | nil => cases hk2
          | cons c2 r2 =>
            rw [kidsJ] at hx
            cases isO with
            | true =>
              have : ((preJ true true (c2 :: r2) ++ (textJ d (c2 :: r2) ++ kidsJ (valN d) (textJ d) true n false ((c2 :: r2).drop ((valN d (c2 :: r2)).getD 0)))) ++ endJ true :: rest).head? = some 34 := rfl
              rw [this] at hx
              injection hx with hx
              rw [← hx]; decide
            | false =>
              rw [kidsN] at hk2
              split at hk2
              · split at hk2
                · cases hk2
                · rename_i k1 hk1
                  obtain ⟨a0, r0, ht, _, hb0⟩ := text_head d _ _ hk1
                  unfold preJ at hx
                  simp only [if_true, Bool.false_eq_true, if_false, List.nil_append, ht, List.cons_append, List.head?_cons] at hx
                  injection hx with hx
                  rw [← hx]; exact hb0
              · cases hk2
      have hend : (⟨kind, nm, [], 0, many⟩ :: r : List Cel).take (1 + k2) = ⟨kind, nm, [], 0, many⟩ :: r.take k2 := by
        rw [show (1 + k2) = k2 + 1 from by omega, List.take_succ_cons]
      rw [hend, renJ]
      rcases hkk with rfl | rfl
      · have h6 := hgo false rfl
        have hb6 := hbl false rfl
        rw [show ((0 : Nat) == 0) = true from rfl] at h6
        show valJ (d + 1) name ([91] ++ (kidsJ (valN d) (textJ d) false many.toNat true r ++ [93]) ++ rest) out = _
        rw [show [91] ++ (kidsJ (valN d) (textJ d) false many.toNat true r ++ [93]) ++ rest = 91 :: (kidsJ (valN d) (textJ d) false many.toNat true r ++ endJ false :: rest) from by simp [endJ]]
        rw [valJ, bl_not 91 _ (by decide)]
        simp only
        rw [if_neg (show ¬ ((!begJ 91) = true) from by decide), if_neg hfull, if_pos (show (91 : UInt8) = 123 ∨ True from Or.inr trivial), show ((91 : UInt8) == 123) = false from by decide, show (if (91 : UInt8) = 123 then (7 : UInt8) else 6) = 6 from by decide]
        rw [hb6, show (if (false : Bool) = true then (7 : UInt8) else 6) = 6 from rfl] at *
        rw [h6]
        simp only
        rw [Nat.zero_add, List.append_assoc, List.singleton_append, modify_app _ _ _ _ _ rfl, hmany]
      · have h7 := hgo true rfl
        have hb7 := hbl true rfl
        rw [show ((0 : Nat) == 0) = true from rfl] at h7
        show valJ (d + 1) name ([123] ++ (kidsJ (valN d) (textJ d) true many.toNat true r ++ [125]) ++ rest) out = _
        rw [show [123] ++ (kidsJ (valN d) (textJ d) true many.toNat true r ++ [125]) ++ rest = 123 :: (kidsJ (valN d) (textJ d) true many.toNat true r ++ endJ true :: rest) from by simp [endJ]]
        rw [valJ, bl_not 123 _ (by decide)]
        simp only
        rw [if_neg (show ¬ ((!begJ 123) = true) from by decide), if_neg hfull, if_pos (show True ∨ (123 : UInt8) = 91 from Or.inl trivial), show ((123 : UInt8) == 123) = true from by decide, if_pos trivial]
        rw [hb7, show (if (true : Bool) = true then (7 : UInt8) else 6) = 7 from rfl] at *
        rw [h7]
        simp only
        rw [Nat.zero_add, List.append_assoc, List.singleton_append, modify_app _ _ _ _ _ rfl, hmany]
theorem val_text : ∀ d : Nat, ValT d
  | 0 => val_text_step 0 fun e h => by omega
  | d + 1 => val_text_step (d + 1) fun e h => by
    have : e = d := by omega
    subst this
    exact val_text e
theorem bl_blanks (B l : List UInt8) (hB : B.all blankJ = true) : blJ (B ++ l) = blJ l := by
  induction B with
  | nil => rfl
  | cons b B ih =>
    rw [List.all_cons, Bool.and_eq_true] at hB
    unfold blJ at ih ⊢
    rw [List.cons_append, List.dropWhile_cons, hB.1, if_pos rfl]
    exact ih hB.2
theorem val_bl (d : Nat) (name l l' : List UInt8) (out : List Cel) (h : blJ l = blJ l') : valJ d name l out = valJ d name l' out := by
  cases d <;> (rw [valJ, valJ, h])
/-- THE LAW: what is written is read as the same value, blanks around it or none. -/
theorem read_text (V : List Cel) (B B' : List UInt8) (hV : plainB V = true) (hR : ∀ c ∈ V, R c.num) (hB : B.all blankJ = true) (hB' : B'.all blankJ = true) : readJ (B ++ (textJ 16 V ++ B')) = .ok V := by
  unfold plainB mayB at hV
  simp only [Bool.and_eq_true, decide_eq_true_eq, beq_iff_eq, List.all_eq_true, Bool.not_eq_true'] at hV
  obtain ⟨⟨⟨⟨h1, h2⟩, h3⟩, h4⟩, h5⟩ := hV
  obtain ⟨a, r, ht, hb, hbl⟩ := text_head 16 V _ h4
  have hs : StopJ B' := fun c hc => by
    have hcb : blankJ c = true := by
      cases B' with
      | nil => cases hc
      | cons x y =>
        injection hc with hc
        subst hc
        rw [List.all_cons, Bool.and_eq_true] at hB'
        exact hB'.1
    unfold blankJ at hcb
    simp only [Bool.or_eq_true, beq_iff_eq] at hcb
    rcases hcb with ((rfl | rfl) | rfl) | rfl <;> decide
  have hv := val_text 16 V V.length [] B' [] h4 (by
    rw [List.take_length]
    exact fun x hx => ⟨h5 x hx, hR x hx⟩) hs (by simpa using h2)
  unfold readJ
  rw [val_bl 16 [] (B ++ (textJ 16 V ++ B')) (textJ 16 V ++ B') [] (bl_blanks B _ hB), hv]
  simp only
  have hbe : blJ B' = [] := by
    have := bl_blanks B' [] hB'
    rw [List.append_nil] at this
    exact this
  rw [hbe, List.isEmpty_nil, if_pos rfl, List.nil_append, List.take_length]
  cases V with
  | nil => simp at h1
  | cons c r =>
    rw [renJ]
    have : c.name = [] := by simpa using h3
    rw [← this]
end Go.Proofs.YtglhanblbojkhaaGreatDoor
namespace Go.Proofs.YtglhanblbojkhaaGreatDoor
open Go.Lib
theorem valid_ascii : ∀ (l r : List UInt8), (∀ c ∈ l, c.toNat < 128) → validD (l ++ r) = validD r
  | [], r, _ => rfl
  | c :: l, r, h => by
    rw [List.cons_append, valid_cons c _ (h c (by simp)), valid_ascii l r fun x hx => h x (by simp [hx])]
theorem quoteC_ascii (c : UInt8) (h : c.toNat < 128) : ∀ x ∈ quoteC c, x.toNat < 128 := by
  have := (by decide +kernel : ∀ i : Fin 256, i.val < 128 → (quoteC (UInt8.ofNat i.val)).all (fun x => decide (x.toNat < 128)) = true) ⟨c.toNat, UInt8.toNat_lt c⟩ h
  simp only [UInt8.ofNat_toNat] at this
  exact fun x hx => of_decide_eq_true (List.all_eq_true.1 this x hx)
theorem valid_enc (p : Nat) (hp : isPt p = true) (r : List UInt8) : validD (encN p ++ r) = validD r := by
  have hd := decode_enc p hp r
  have hpos : 0 < (encN p).length := by rw [enc_len p hp]; repeat' split
                                        all_goals decide
  have hne : encN p ++ r ≠ [] := by
    intro h
    have := congrArg List.length h
    rw [List.length_append, List.length_nil] at this
    omega
  rw [valid_step _ hne]
  have hw : wellB (encN p ++ r) = true := by
    unfold wellB
    rw [hd]
    simp only [Bool.not_eq_true', decide_eq_false_iff_not]
    rintro ⟨h1, h2⟩
    rw [enc_len p hp, h1] at h2
    exact absurd h2 (by decide)
  rw [hw, Bool.true_and, hd]
  simp only [List.drop_left]
theorem valid_quote : ∀ (n : Nat) (t r : List UInt8), t.length ≤ n → validD t = true → validD (t.flatMap quoteC ++ r) = validD r
  | n, [], r, _, _ => rfl
  | 0, c :: t, r, hn, _ => by simp at hn
  | n + 1, c :: t, r, hn, hv => by
    simp only [List.length_cons] at hn
    by_cases hc : c.toNat < 128
    · have hv2 : validD t = true := by rw [valid_cons c t hc] at hv; exact hv
      rw [List.flatMap_cons, List.append_assoc, valid_ascii _ _ (quoteC_ascii c hc), valid_quote n t r (by omega) hv2]
    · have hs := valid_step (c :: t) (by simp)
      rw [hv] at hs
      have hs2 := hs.symm
      rw [Bool.and_eq_true] at hs2
      obtain ⟨hw, hv2⟩ := hs2
      obtain ⟨d1, d2, d3, d4⟩ := decode_pt (c :: t) (by simp) hw
      obtain ⟨p, hp⟩ : ∃ p, (decodeL (c :: t)).1 = p := ⟨_, rfl⟩
      obtain ⟨m, hm⟩ : ∃ m, (decodeL (c :: t)).2 = m := ⟨_, rfl⟩
      rw [hp, hm] at d4
      rw [hp] at d1
      rw [hm] at d2 d3 hv2
      have hsplit : c :: t = encN p ++ (c :: t).drop m := by rw [d4, List.take_append_drop]
      have hp128 : 128 ≤ p := by
        rcases Nat.lt_or_ge p 128 with h | h
        · have h1 : encN p = [UInt8.ofNat p] := by unfold encN; rw [if_pos h]
          rw [h1] at hsplit
          injection hsplit with h2 h3
          rw [h2, ofN p (by omega)] at hc
          exact absurd h hc
        · exact h
      have hdl : ((c :: t).drop m).length = t.length + 1 - m := by rw [List.length_drop]; rfl
      have hfm : (c :: t).flatMap quoteC = encN p ++ ((c :: t).drop m).flatMap quoteC := by
        conv => lhs; rw [hsplit]
        rw [List.flatMap_append, big_all _ (enc_big p d1 hp128)]
      rw [hfm, List.append_assoc, valid_enc p d1, valid_quote n _ r (by omega) hv2]
theorem valid_quoteL (t r : List UInt8) (hv : validD t = true) : validD (quoteL t ++ r) = validD r := by
  unfold quoteL
  rw [show [34] ++ t.flatMap quoteC ++ [34] ++ r = 34 :: (t.flatMap quoteC ++ 34 :: r) from by simp]
  rw [valid_cons 34 _ (by decide), valid_quote t.length t _ (Nat.le_refl _) hv, valid_cons 34 _ (by decide)]
theorem itoa_ascii (n : Int) : ∀ c ∈ Lib.itoa n, c.toNat < 128 := by
  have h := (read_itoa n).1
  unfold okDigits digitsB at h
  simp only [Bool.and_eq_true, List.all_eq_true] at h
  intro c hc
  have hb : ∀ x ∈ body (Lib.itoa n), isDig x = true := h.1.1
  by_cases h45 : c = 45
  · subst h45; decide
  · refine dig_ascii c (hb c ?_)
    unfold body
    split
    · rename_i hbl
      cases hi : Lib.itoa n with
      | nil => rw [hi] at hc; cases hc
      | cons x y =>
        rw [hi] at hc hbl
        unfold below at hbl
        simp only [beq_iff_eq] at hbl
        rcases List.mem_cons.1 hc with e | e
        · exact absurd (e.trans hbl) h45
        · exact e
    · exact hc
theorem valid_lit (c : Cel) (h1 : oneC c = true) (hn : nestC c = false) (hg : GoodC c) (r : List UInt8) : validD (litJ c ++ r) = validD r := by
  obtain ⟨he, _⟩ := hg
  unfold nestC at hn
  simp only [Bool.or_eq_false_iff, beq_eq_false_iff_ne] at hn he
  unfold oneC at h1
  unfold litJ
  by_cases k0 : c.kind = 0
  · rw [if_pos k0]; exact valid_ascii _ _ (by decide)
  rw [if_neg k0] at h1 ⊢
  by_cases k1 : c.kind = 1
  · rw [if_pos k1]
    split
    · exact valid_ascii _ _ (by decide)
    · exact valid_ascii _ _ (by decide)
  rw [if_neg k1] at h1 ⊢
  by_cases k2 : c.kind = 2
  · rw [if_pos k2]; exact valid_ascii _ _ (itoa_ascii _)
  rw [if_neg k2] at h1 ⊢
  by_cases k3 : c.kind = 3
  · rw [if_pos k3] at h1
    simp only [Bool.and_eq_true] at h1
    unfold textB at h1
    rw [Bool.and_eq_true] at h1
    exact valid_quoteL _ _ h1.1.1.2
  rw [if_neg k3, if_neg (by rintro (e | e); exact he.1 e; exact he.2 e), if_neg (by rintro (e | e); exact hn.1 e; exact hn.2 e)] at h1
  cases h1
def ValV (d : Nat) : Prop := ∀ (V : List Cel) (k : Nat) (r : List UInt8), valN d V = some k → (∀ x ∈ V.take k, GoodC x) → validD (textJ d V ++ r) = validD r
theorem valid_kids (d : Nat) (ih : ValV d) (isO : Bool) : ∀ (n : Nat) (first : Bool) (nm : List (List UInt8)) (V : List Cel) (k : Nat) (r : List UInt8), kidsN (valN d) (!isO) n nm V = some k → (∀ x ∈ V.take k, GoodC x) → validD (kidsJ (valN d) (textJ d) isO n first V ++ r) = validD r
  | 0, first, nm, V, k, r, h, hg => rfl
  | n + 1, first, nm, [], k, r, h, hg => by cases h
  | n + 1, first, nm, c :: t, k, r, h, hg => by
    rw [kidsN] at h
    split at h
    · rename_i hok
      split at h
      · cases h
      · rename_i k1 hk1
        rw [Option.map_eq_some_iff] at h
        obtain ⟨k2, hk2, rfl⟩ := h
        have htake : (c :: t).take (k1 + k2) = (c :: t).take k1 ++ ((c :: t).drop k1).take k2 := List.take_add
        rw [kidsJ, hk1, Option.getD_some, List.append_assoc, List.append_assoc]
        have hpre : ∀ x, validD (preJ isO first (c :: t) ++ x) = validD x := fun x => by
          unfold preJ
          rw [List.append_assoc]
          have hb : ∀ y, validD ((if isO then quoteL ((c :: t).headD ⟨0, [], [], 0, 0⟩).name ++ [58] else []) ++ y) = validD y := fun y => by
            cases isO with
            | false => rfl
            | true =>
              simp only [Bool.not_true, okN, Bool.false_eq_true, if_false, Bool.and_eq_true] at hok
              have htx := hok.1.2
              unfold textB at htx
              rw [Bool.and_eq_true] at htx
              simp only [if_true, List.headD_cons]
              rw [List.append_assoc, valid_quoteL _ _ htx.2]
              exact valid_cons 58 y (by decide)
          cases first with
          | true => exact hb x
          | false =>
            show validD ([44] ++ _) = _
            rw [show ∀ z : List UInt8, ([44] : List UInt8) ++ z = 44 :: z from fun z => rfl, valid_cons 44 _ (by decide)]
            exact hb x
        rw [hpre, ih (c :: t) k1 _ hk1 (fun x hx => hg x (by rw [htake]; exact List.mem_append_left _ hx))]
        exact valid_kids d ih isO n false _ _ k2 r hk2 (fun x hx => hg x (by rw [htake]; exact List.mem_append_right _ hx))
    · cases h
theorem valid_text_step (d : Nat) (ih : ∀ e, d = e + 1 → ValV e) : ValV d := by
  intro V k r h hg
  obtain ⟨c, t, rfl⟩ : ∃ c t, V = c :: t := by
    cases V with
    | nil => cases d <;> cases h
    | cons c t => exact ⟨c, t, rfl⟩
  have hone : oneC c = true := by
    cases d <;> (first | rw [valN_zero, headN_cons] at h | rw [valN_more, headN_cons] at h) <;> (cases h1 : oneC c with | true => rfl | false => rw [h1] at h; cases h)
  obtain ⟨v1, v2⟩ := valN_le d _ _ h
  have hgc : GoodC c := hg c (by
    obtain ⟨k', rfl⟩ : ∃ k', k = k' + 1 := ⟨k - 1, by omega⟩
    rw [List.take_succ_cons]; exact List.mem_cons_self ..)
  cases hn : nestC c with
  | false =>
    have htx : textJ d (c :: t) = litJ c := by
      cases d <;> (first | rw [textJ_zero, headJ_cons, hn] | rw [textJ_more, headJ_cons, hn]) <;> rfl
    rw [htx]; exact valid_lit c hone hn hgc r
  | true =>
    cases d with
    | zero => rw [valN_zero, headN_cons, hone, hn] at h; cases h
    | succ d =>
      rw [valN_more, headN_cons, hone, hn, if_pos rfl, if_pos rfl, Option.map_eq_some_iff] at h
      obtain ⟨k2, hk2, rfl⟩ := h
      rw [textJ_more, headJ_cons, hn, if_pos rfl, List.append_assoc, List.append_assoc]
      rw [valid_ascii _ _ (by cases c.kind == 6 <;> decide)]
      rw [valid_kids d (ih d rfl) (!(c.kind == 6)) _ true [] t k2 _ (by rw [Bool.not_not]; exact hk2) (fun x hx => hg x (by
        rw [show (1 + k2) = k2 + 1 from by omega, List.take_succ_cons]; exact List.mem_cons_of_mem _ hx))]
      exact valid_ascii _ _ (by cases c.kind == 6 <;> decide)
theorem valid_text : ∀ d : Nat, ValV d
  | 0 => valid_text_step 0 fun e h => by omega
  | d + 1 => valid_text_step (d + 1) fun e h => by
    have : e = d := by omega
    subst this
    exact valid_text e
theorem plain_good (V : List Cel) (hV : plainB V = true) (hR : ∀ c ∈ V, R c.num) : valN 16 V = some V.length ∧ (∀ x ∈ V.take V.length, GoodC x) := by
  unfold plainB mayB at hV
  simp only [Bool.and_eq_true, decide_eq_true_eq, beq_iff_eq, List.all_eq_true, Bool.not_eq_true'] at hV
  refine ⟨hV.1.2, ?_⟩
  rw [List.take_length]
  exact fun x hx => ⟨hV.2 x hx, hR x hx⟩
theorem blank_asc (B : List UInt8) (hB : B.all blankJ = true) : ∀ c ∈ B, c.toNat < 128 := fun c hc => blank_ascii c (List.all_eq_true.1 hB c hc)
/-- What is written is a text that is read as the same value, blanks around it or none. -/
theorem back_read (V : List Cel) (B B' : List UInt8) (hV : plainB V = true) (hR : ∀ c ∈ V, R c.num) (hB : B.all blankJ = true) (hB' : B'.all blankJ = true) :
    validD (B ++ (textJ 16 V ++ B')) = true ∧ readJ (B ++ (textJ 16 V ++ B')) = .ok V := by
  obtain ⟨g1, g2⟩ := plain_good V hV hR
  refine ⟨?_, read_text V B B' hV hR hB hB'⟩
  rw [valid_ascii B _ (blank_asc B hB), valid_text 16 V V.length B' g1 g2]
  have := valid_ascii B' [] (blank_asc B' hB')
  rw [List.append_nil] at this
  rw [this]
  rfl
end Go.Proofs.YtglhanblbojkhaaGreatDoor
namespace Go.Proofs.YtglhanblbojkhaaGreatDoor
open Go.RowKit
theorem short_of_great' (V : List Cel) (h : greatV V 200 = false) (hn : ∀ c ∈ V, R c.num ∧ R c.many) : V.length ≤ 200 ∧ ShortV V := by
  unfold greatV at h
  rw [Bool.or_eq_false_iff] at h
  have hl : V.length ≤ 200 := by have := of_decide_eq_false h.2; omega
  refine ⟨hl, fun c hc => ?_⟩
  have h1 := h.1
  rw [List.take_of_length_le hl] at h1
  have := List.any_eq_false.1 h1 c hc
  simp only [Bool.or_eq_true, decide_eq_true_eq, not_or] at this
  obtain ⟨r1, r2⟩ := hn c hc
  exact ⟨by omega, by omega, r1, r2⟩
theorem readB_text (V : List Cel) (B B' : List UInt8) (hV : plainB V = true) (hR : ∀ c ∈ V, R c.num) (hB : B.all blankJ = true) (hB' : B'.all blankJ = true) (hl : (B ++ (textJ 16 V ++ B')).length ≤ 16384) : readB (B ++ (textJ 16 V ++ B')) V = true := by
  obtain ⟨h1, h2⟩ := back_read V B B' hV hR hB hB'
  unfold readB rdJ
  have hc : chkE (B ++ (textJ 16 V ++ B')) = 0 := by
    unfold chkE
    rw [if_neg (by omega), h1]; rfl
  rw [if_pos hc, h2]
  exact (sameV_iff V V).2 rfl
set_option maxRecDepth 100000 in
set_option maxHeartbeats 2000000 in
theorem jsonb_small (V : List Cel) (av : Option Addr) (cv : Nat) (bl : ByteArray) (hbz : bl.size ≤ 100) (w : World) (hv : CelSl (.slice av V.length cv) V w) (hs : ShortV V) (hl : V.length ≤ 200) (hU : EnvU w) (hE : Env w) (hT : EnvT w)
    (HG : Hid (∀ W, Below w.heap.size w W → Calls Tryz.prog 14 #[.slice av V.length cv, .int .i64 200] W fun e w' => e = .returned (.bool false) ∧ W = w')) :
    Calls Tryz.prog 4 #[.slice av V.length cv, .string bl] w fun e w' => e = .returned (.bool true) ∧ Below w.heap.size w w' := by
  have HA : Hid (Calls Tryz.prog 13 #[] w fun x w' => x = .returned (.bool true) ∧ Below w.heap.size w w') := Lib.hid (lalive_any w hU hE hT)
  have HW : Hid (∀ W, Below w.heap.size w W → Calls Tryz.prog 15 #[.slice av V.length cv] W fun e w' => e = .returned (jsonE V) ∧ Below W.heap.size W w') := Lib.hid fun W hW => jwrite_any V _ W (hv.below hW) hs (by omega) (hU.below hW) (hT.stays hW)
  have HP : Hid (∀ W, Below w.heap.size w W → Calls Tryz.prog 16 #[.slice av V.length cv] W fun e w' => e = .returned (.bool (plainB V)) ∧ Below W.heap.size W w') := Lib.hid fun W hW => cplain_any V _ W (hv.below hW) (hs.small (by omega)) (hU.below hW)
  have HRD : Hid (∀ (s : ByteArray) W, s.size ≤ 17000 → Below w.heap.size w W → Calls Tryz.prog 17 #[.string s, .slice av V.length cv] W fun x w' => x = .returned (.bool (readB s.data.toList V)) ∧ Below W.heap.size W w') := Lib.hid fun s W h1 hW => lreads_any s h1 V (by omega) _ W (hv.below hW) (hU.below hW) (hE.stays hW)
  have hR : ∀ c ∈ V, R c.num := fun c hc => (hs c hc).2.2.1
  have t1 : decide ((100 : Int) < (bl.size : Int)) = false := decide_eq_false (by omega)
  obtain ⟨nv, hnv⟩ : ∃ nv, V.length = nv := ⟨_, rfl⟩
  rw [hnv] at HG HW HP HRD ⊢
  cases hp : plainB V with
  | false =>
    rw [hp] at HP
    rw [show jsonE V = .tuple #[.string ⟨#[]⟩, .int .i64 8] from by unfold jsonE; rw [hp]; rfl] at HW
    clear hv hs hU hE hT hnv hl hR hbz hp
    go_enter Tryz.func4, Tryz.ntmps4
    go_wp2_with fail
    refine HA.out.mono ?_; rintro e w1 ⟨rfl, hb⟩
    have HB1 := Lib.hid hb
    clear hb
    go_wp2_with fail
    refine (HG.out _ HB1.out).mono ?_; rintro e w2 ⟨rfl, rfl⟩
    go_wp2_with fail
    refine (HW.out _ HB1.out).mono ?_; rintro e w2 ⟨rfl, hb⟩
    have HB2 := Lib.hid (HB1.out.trans (hb.mono HB1.out.size))
    clear hb
    go_wp2_with fail
    refine (HP.out _ HB2.out).mono ?_; rintro e w3 ⟨rfl, hb⟩
    have HB3 := Lib.hid (HB2.out.trans (hb.mono HB2.out.size))
    clear hb
    go_wp2_with fail
    go_ret
    exact ⟨rfl, HB3.out⟩
  | true =>
    obtain ⟨js, hjs⟩ : ∃ js : ByteArray, (⟨(textJ 16 V).toArray⟩ : ByteArray) = js := ⟨_, rfl⟩
    have hjl : js.data.toList = textJ 16 V := by rw [← hjs]
    rw [show jsonE V = .tuple #[.string js, .int .i64 0] from by unfold jsonE; rw [hp, ← hjs]; rfl] at HW
    by_cases hbig : 16000 < js.size
    · have t2 : decide ((16000 : Int) < (js.size : Int)) = true := decide_eq_true (by omega)
      clear hv hs hU hE hT hnv hl hR hbz hp hjs hjl hbig
      go_enter Tryz.func4, Tryz.ntmps4
      go_wp2_with fail
      refine HA.out.mono ?_; rintro e w1 ⟨rfl, hb⟩
      have HB1 := Lib.hid hb
      clear hb
      go_wp2_with fail
      refine (HG.out _ HB1.out).mono ?_; rintro e w2 ⟨rfl, rfl⟩
      go_wp2_with fail
      refine (HW.out _ HB1.out).mono ?_; rintro e w2 ⟨rfl, hb⟩
      have HB2 := Lib.hid (HB1.out.trans (hb.mono HB1.out.size))
      clear hb
      go_wp2_with fail
      go_ret
      exact ⟨rfl, HB2.out⟩
    · have t2 : decide ((16000 : Int) < (js.size : Int)) = false := decide_eq_false (by omega)
      have HR1 : Hid (∀ W, Below w.heap.size w W → Calls Tryz.prog 17 #[.string js, .slice av nv cv] W fun x w' => x = .returned (.bool true) ∧ Below W.heap.size W w') := Lib.hid fun W hW => by
        have h0 := readB_text V [] [] hp hR rfl rfl (by rw [List.nil_append, List.append_nil, ← hjl, bsz]; omega)
        rw [List.nil_append, List.append_nil, ← hjl] at h0
        have := HRD.out js W (by omega) hW
        rw [h0] at this
        exact this
      have HR2 : Hid (bl.data.toList.all blankJ = true → ∀ W, Below w.heap.size w W → Calls Tryz.prog 17 #[.string (bl ++ js ++ bl), .slice av nv cv] W fun x w' => x = .returned (.bool true) ∧ Below W.heap.size W w') := Lib.hid fun hbb W hW => by
        have hll : (bl ++ js ++ bl).data.toList = bl.data.toList ++ (textJ 16 V ++ bl.data.toList) := by rw [← hjl]; simp
        have hsz : (bl ++ js ++ bl).size = bl.size + js.size + bl.size := by simp
        have h0 := readB_text V bl.data.toList bl.data.toList hp hR hbb hbb (by rw [← hll, bsz, hsz]; omega)
        rw [← hll] at h0
        have := HRD.out (bl ++ js ++ bl) W (by rw [hsz]; omega) hW
        rw [h0] at this
        exact this
      have hjz : js.size ≤ 16000 := by omega
      have HBL : Hid (∀ j (h : j < bl.size), bl.data.toList.take (j + 1) = bl.data.toList.take j ++ [bl[j]'h]) := Lib.hid fun j h => by
        have h2 : j < bl.data.toList.length := by rw [bsz]; exact h
        rw [List.take_succ_eq_append_getElem h2]
        congr 2
      clear hv hs hU hE hT hnv hl hR hp hjs hjl hbig HRD HP
      go_enter Tryz.func4, Tryz.ntmps4
      go_wp2_with fail
      refine HA.out.mono ?_; rintro e w1 ⟨rfl, hb⟩
      have HB1 := Lib.hid hb
      clear hb
      go_wp2_with fail
      refine (HG.out _ HB1.out).mono ?_; rintro e w2 ⟨rfl, rfl⟩
      go_wp2_with fail
      refine (HW.out _ HB1.out).mono ?_; rintro e w2 ⟨rfl, hb⟩
      have HB2 := Lib.hid (HB1.out.trans (hb.mono HB1.out.size))
      clear hb t1
      go_wp2_with fail
      clear t2
      go_loopg [8] bl.size (fun gk iv wr => ∃ j : Nat, iv = .int .i64 (j : Int) ∧ gk + j = bl.size ∧ wr = w2 ∧ Hid ((bl.data.toList.take j).all blankJ = true))
      case atStart => exact ⟨0, rfl, rfl, rfl, Lib.hid (by simp)⟩
      case round =>
        obtain ⟨j, rfl, hg, rfl, HJ⟩ := hrel
        by_cases hlt : j < bl.size
        · have hlti : (j : Int) < (bl.size : Int) := by omega
          have hj1 : IntKind.i64.wrap ((j : Int) + 1) = ((j + 1 : Nat) : Int) := by rw [IntWalk.i64_in _ (by omega)]; omega
          cases hbk : blankJ (bl[j]'hlt) with
          | false =>
            unfold blankJ at hbk
            simp only [Bool.or_eq_false_iff, beq_eq_false_iff_ne] at hbk
            obtain ⟨⟨⟨h1, h2⟩, h3⟩, h4⟩ := hbk
            have hne : ∀ x : Nat, x < 256 → (bl[j]'hlt) ≠ UInt8.ofNat x → ¬ ((bl[j]'hlt).toNat : Int) = (x : Int) := fun x hx h e => h (UInt8.toNat_inj.1 (by rw [ofN x hx]; omega))
            have u1 : (((bl[j]'hlt).toNat : Int) != 32) = true := bne_iff_ne.2 (hne 32 (by decide) h1)
            have u2 : (((bl[j]'hlt).toNat : Int) != 9) = true := bne_iff_ne.2 (hne 9 (by decide) h2)
            have u3 : (((bl[j]'hlt).toNat : Int) != 13) = true := bne_iff_ne.2 (hne 13 (by decide) h3)
            have u4 : (((bl[j]'hlt).toNat : Int) != 10) = true := bne_iff_ne.2 (hne 10 (by decide) h4)
            clear hne h1 h2 h3 h4 hj1
            generalize hci : ((bl[j]'hlt).toNat : Int) = ci at *
            go_wp2_with fail
            refine (HR1.out _ HB2.out).mono ?_; rintro e w3 ⟨rfl, hb⟩
            have HB3 := Lib.hid (HB2.out.trans (hb.mono HB2.out.size))
            clear hb
            go_wp2_with fail
            go_ret
            exact ⟨rfl, HB3.out⟩
          | true =>
            have HJ2 : Hid ((bl.data.toList.take (j + 1)).all blankJ = true) := Lib.hid (by
              rw [HBL.out j hlt, List.all_append, HJ.out, Bool.true_and, List.all_cons, hbk]; rfl)
            unfold blankJ at hbk
            simp only [Bool.or_eq_true, beq_iff_eq] at hbk
            have hcase : ((bl[j]'hlt).toNat : Int) = 32 ∨ ((bl[j]'hlt).toNat : Int) = 9 ∨ ((bl[j]'hlt).toNat : Int) = 13 ∨ ((bl[j]'hlt).toNat : Int) = 10 := by
              rcases hbk with ((h | h) | h) | h <;> rw [h]
              · exact Or.inl rfl
              · exact Or.inr (Or.inl rfl)
              · exact Or.inr (Or.inr (Or.inl rfl))
              · exact Or.inr (Or.inr (Or.inr rfl))
            clear hbk
            generalize hci : ((bl[j]'hlt).toNat : Int) = ci at *
            rcases hcase with rfl | rfl | rfl | rfl
            all_goals
              go_wp2_with fail
              go_roundg (gk - 1)
              case measure => omega
              case rel => exact ⟨j + 1, by first | rfl | go_num, by omega, rfl, HJ2⟩
        · have hall : bl.data.toList.all blankJ = true := by
            have := HJ.out
            rw [List.take_of_length_le (by rw [bsz]; omega)] at this
            exact this
          have HR3 := Lib.hid (HR2.out hall)
          clear hall
          go_wp2_with fail
          refine (HR3.out _ HB2.out).mono ?_; rintro e w3 ⟨rfl, hb⟩
          have HB3 := Lib.hid (HB2.out.trans (hb.mono HB2.out.size))
          clear hb
          go_wp2_with fail
          go_ret
          exact ⟨rfl, HB3.out⟩
set_option maxRecDepth 100000 in
theorem jsonb_great (u : Value) (bl : ByteArray) (w : World) (hU : EnvU w) (hE : Env w) (hT : EnvT w) (HG : Hid (∀ W, Below w.heap.size w W → Calls Tryz.prog 14 #[u, .int .i64 200] W fun e w' => e = .returned (.bool true) ∧ W = w')) :
    Calls Tryz.prog 4 #[u, .string bl] w fun e w' => e = .returned (.bool true) ∧ Below w.heap.size w w' := by
  have HA : Hid (Calls Tryz.prog 13 #[] w fun x w' => x = .returned (.bool true) ∧ Below w.heap.size w w') := Lib.hid (lalive_any w hU hE hT)
  clear hU hE hT
  go_enter Tryz.func4, Tryz.ntmps4
  go_wp2_with fail
  refine HA.out.mono ?_; rintro e w1 ⟨rfl, hb⟩
  have HB1 := Lib.hid hb
  clear hb
  go_wp2_with fail
  refine (HG.out _ HB1.out).mono ?_; rintro e w2 ⟨rfl, rfl⟩
  go_wp2_with fail
  go_ret
  exact ⟨rfl, HB1.out⟩
set_option maxRecDepth 100000 in
theorem jsonb_long (u : Value) (bl : ByteArray) (hbz : 100 < bl.size) (w : World) (hU : EnvU w) (hE : Env w) (hT : EnvT w) (HG : Hid (∀ W, Below w.heap.size w W → Calls Tryz.prog 14 #[u, .int .i64 200] W fun e w' => e = .returned (.bool false) ∧ W = w')) :
    Calls Tryz.prog 4 #[u, .string bl] w fun e w' => e = .returned (.bool true) ∧ Below w.heap.size w w' := by
  have HA : Hid (Calls Tryz.prog 13 #[] w fun x w' => x = .returned (.bool true) ∧ Below w.heap.size w w') := Lib.hid (lalive_any w hU hE hT)
  have t1 : decide ((100 : Int) < (bl.size : Int)) = true := decide_eq_true (by omega)
  clear hU hE hT hbz
  go_enter Tryz.func4, Tryz.ntmps4
  go_wp2_with fail
  refine HA.out.mono ?_; rintro e w1 ⟨rfl, hb⟩
  have HB1 := Lib.hid hb
  clear hb
  go_wp2_with fail
  refine (HG.out _ HB1.out).mono ?_; rintro e w2 ⟨rfl, rfl⟩
  go_wp2_with fail
  go_ret
  exact ⟨rfl, HB1.out⟩
theorem jsonb_walk (V : List Cel) (u : Value) (hl : V.length ≤ maxLen) (hz : ∀ c ∈ V, c.name.length ≤ maxLen ∧ c.text.length ≤ maxLen ∧ R c.num ∧ R c.many) (bl : ByteArray) (w : World) (h1 : CelSl u V w) (he : EnvU w ∧ Env w ∧ EnvT w) :
    Calls Tryz.prog 4 #[u, .string bl] w fun e w' => e = .returned (.bool true) ∧ Below w.heap.size w w' := by
  obtain ⟨hU, hE, hT⟩ := he
  have HG := Lib.hid (fun (W : World) (hW : Below w.heap.size w W) => rgreat03_any V u 200 hl (by decide) W (h1.below hW) (fun c hc => ⟨(hz c hc).1, (hz c hc).2.1⟩))
  cases hg : greatV V 200 with
  | true => rw [hg] at HG; exact jsonb_great u bl w hU hE hT HG
  | false =>
    rw [hg] at HG
    by_cases hbz : 100 < bl.size
    · exact jsonb_long u bl hbz w hU hE hT HG
    · obtain ⟨s1, s2⟩ := short_of_great' V hg (fun c hc => (hz c hc).2.2)
      obtain ⟨av, cv, rfl⟩ := h1.form
      exact jsonb_small V av cv bl (by omega) w h1 s2 s1 hU hE hT HG
end Go.Proofs.YtglhanblbojkhaaGreatDoor
namespace Go.Proofs.YtglhanblbojkhaaGreatDoor
open Go.RowKit Go.WideShapes Go.ChangeShapes Go.Joins Go.Deep
theorem cells_cell : Tryz.prog.cellsOf 41 = 5 := by kernel_rfl
section
variable {H : Type} {enc : TypeId × Value → H} {w : World} {base : Nat} {spare : Nat → Bool} {held : Bool}
theorem cels_of (w : World) (a : Addr) : ∀ n : Nat, (∀ i, i < n → ∃ (k : UInt8) (s t : ByteArray) (p q : Int), w.cell? (a.add (i * 5)) = some (.int .u8 (k.toNat : Int)) ∧ w.cell? (a.add (i * 5 + 1)) = some (.string s) ∧ w.cell? (a.add (i * 5 + 2)) = some (.string t) ∧ w.cell? (a.add (i * 5 + 3)) = some (.int .i64 p) ∧ w.cell? (a.add (i * 5 + 4)) = some (.int .i64 q) ∧ s.size ≤ maxLen ∧ t.size ≤ maxLen ∧ R p ∧ R q) →
    ∃ L : List Cel, L.length = n ∧ (∀ t ∈ L, t.name.length ≤ maxLen ∧ t.text.length ≤ maxLen ∧ R t.num ∧ R t.many) ∧ ∀ (i : Nat) (h : i < L.length), w.cell? (a.add (i * 5)) = some (.int .u8 (L[i].kind.toNat : Int)) ∧ w.cell? (a.add (i * 5 + 1)) = some (.string ⟨L[i].name.toArray⟩) ∧ w.cell? (a.add (i * 5 + 2)) = some (.string ⟨L[i].text.toArray⟩) ∧ w.cell? (a.add (i * 5 + 3)) = some (.int .i64 L[i].num) ∧ w.cell? (a.add (i * 5 + 4)) = some (.int .i64 L[i].many)
  | 0, _ => ⟨[], rfl, (fun t h => by cases h), (fun i h => absurd h (by simp))⟩
  | n + 1, h => by
    obtain ⟨L, hl, hz, hc⟩ := cels_of w a n fun i hi => h i (by omega)
    obtain ⟨k, s, t, p, q, c0, c1, c2, c3, c4, hs, ht, hp, hq⟩ := h n (by omega)
    refine ⟨L ++ [⟨k, s.data.toList, t.data.toList, p, q⟩], by simp [hl], ?_, ?_⟩
    · intro x hx
      rcases List.mem_append.1 hx with hx | hx
      · exact hz x hx
      · rw [List.mem_singleton] at hx
        rw [hx]
        refine ⟨?_, ?_, hp, hq⟩
        · show s.data.toList.length ≤ maxLen
          rw [Array.length_toList]
          exact hs
        · show t.data.toList.length ≤ maxLen
          rw [Array.length_toList]
          exact ht
    · intro i hi
      by_cases hin : i < L.length
      · rw [List.getElem_append_left hin]
        exact hc i hin
      · have hin' : i = L.length := by
          rw [List.length_append] at hi
          simp at hi
          omega
        subst hin'
        rw [List.getElem_append_right (Nat.le_refl _)]
        simp only [Nat.sub_self, List.getElem_cons_zero]
        rw [hl]
        refine ⟨c0, ?_, ?_, c3, c4⟩
        · rw [c1]
        · rw [c2]
/-- An element of a slice of structs, whose fields have one cell each: each field's cell, and its reading. -/
theorem elem_fields {P : Program} {H : Type} {enc : TypeId × Value → H} {w : World} {base : Nat} {spare : Nat → Bool} {held : Bool} {e : TypeId} {fs : Array Field} (he : P.underlying e = some (.struct fs)) (hone : oneCellFields P fs = true) {a : Addr} {k n : Nat} {cs : List Value} {x : DataW H × List MemPlace}
    (hk : k = P.cellsOf e) (hk2 : k = fs.size) (hc : w.cells? base a k = some cs) (ht : DataW.trod enc P w base spare held n e cs = some x) (j : Nat) (f : Field) (hj : fs[j]? = some f) :
    ∃ (v : Value) (y : DataW H × List MemPlace) (n' : Nat), w.cell? (a.add j) = some v ∧ DataW.trod enc P w base spare held n' f.type [v] = some y := by
  obtain ⟨ys, n', hn', hy, hlen, hyl, hf⟩ := DataW.trod_struct he ht
  obtain ⟨_, hcl, hat⟩ := World.cells?_some hc
  obtain ⟨ho, h1⟩ := hone_of hone j f hj
  have hjl : j < fs.size := (Array.getElem?_eq_some_iff.1 hj).1
  have hjc : j < cs.length := by omega
  have hcell := hat j (by omega)
  have g := hf j f hj
  rw [ho, h1, List.drop_eq_getElem_cons hjc] at g
  have hys : ys[j]? = some (ys[j]'(by omega)) := List.getElem?_eq_getElem (by omega)
  refine ⟨cs[j], ys[j]'(by omega), n', ?_, ?_⟩
  · rw [hcell]; exact List.getElem?_eq_getElem hjc
  · exact g.trans hys
theorem open_cells {v : Value} {d : DataW H} {p : List MemPlace} (hv : ∃ a l c, v = .slice a l c) (h : DataW.Trod enc Tryz.prog w base spare held 22 v d p) :
    ∃ L : List Cel, CelSl v L w ∧ L.length ≤ maxLen ∧ ∀ t ∈ L, t.name.length ≤ maxLen ∧ t.text.length ≤ maxLen ∧ R t.num ∧ R t.many := by
  obtain ⟨fuel, hf⟩ := h
  obtain ⟨sa, sl, sc, rfl⟩ := hv
  have hcs : (Value.slice sa sl sc).cells.toList = [.slice sa sl sc] := rfl
  rw [hcs] at hf
  rcases open_slice Tryz.underlying22 hf with ⟨h0, _⟩ | ⟨a, len, cap, m, n, D, Pl, h0, hb, hl, hm, hmm, hx, hi⟩
  · injection h0 with h0
    exact ⟨[], Or.inl ⟨_, _, h0, rfl, fun _ => rfl⟩, by decide, fun t h => by cases h⟩
  · injection h0 with h0
    have hlm : len ≤ m := by rw [hmm]; split <;> omega
    obtain ⟨L, hL, hz, hc⟩ := cels_of w a len (fun i hil => by
      obtain ⟨cs', hc, ht⟩ := hi i (by omega)
      rw [cells_cell] at hc
      have F := fun j f hj => elem_fields Tryz.underlying41 (by kernel_rfl) cells_cell.symm rfl hc ht j f hj
      obtain ⟨v0, y0, n0, g0, t0⟩ := F 0 _ rfl
      obtain ⟨v1, y1, n1, g1, t1⟩ := F 1 _ rfl
      obtain ⟨v2, y2, n2, g2, t2⟩ := F 2 _ rfl
      obtain ⟨v3, y3, n3, g3, t3⟩ := F 3 _ rfl
      obtain ⟨v4, y4, n4, g4, t4⟩ := F 4 _ rfl
      obtain ⟨k, e0, _, wk⟩ := DataW.trod_int Tryz.underlying5 t0
      obtain ⟨s, e1, _, ws⟩ := DataW.trod_string Tryz.underlying9 t1
      obtain ⟨t, e2, _, wt⟩ := DataW.trod_string Tryz.underlying9 t2
      obtain ⟨p, e3, _, wp⟩ := DataW.trod_int Tryz.underlying2 t3
      obtain ⟨q, e4, _, wq⟩ := DataW.trod_int Tryz.underlying3 t4
      injection e0 with e0
      injection e1 with e1
      injection e2 with e2
      injection e3 with e3
      injection e4 with e4
      subst e0 e1 e2 e3 e4
      obtain ⟨k1, k2⟩ := Go.bounds_u8 wk
      have hk : ((UInt8.ofNat k.toNat).toNat : Int) = k := by
        rw [UInt8.toNat_ofNat']
        omega
      refine ⟨UInt8.ofNat k.toNat, s, t, p, q, ?_, ?_, ?_, ?_, ?_, ws, wt, Go.bounds_i64 wp, Go.bounds_i64 wq⟩
      · rw [hk, ← g0]
        rw [Go.Deep.add_add]; rfl
      · rw [← g1, Go.Deep.add_add]
      · rw [← g2, Go.Deep.add_add]
      · rw [← g3, Go.Deep.add_add]
      · rw [← g4, Go.Deep.add_add])
    refine ⟨L, ?_, by omega, hz⟩
    by_cases h0l : L = []
    · rw [h0l] at hL
      refine Or.inl ⟨some a, cap, ?_, h0l, fun h => by cases h⟩
      rw [h0, ← hL]; rfl
    · have hpos : 0 < L.length := List.length_pos_iff.2 h0l
      obtain ⟨ab, ao, asp⟩ := a
      have hspot : asp = none := by simpa [Addr.add] using World.cell?_spot (hc 0 hpos).1
      subst hspot
      have hadd : ∀ j, (⟨ab, ao, none⟩ : Addr).add j = ⟨ab, ao + j, none⟩ := by
        intro j
        unfold Addr.add
        split
        · rename_i hz; rw [hz]; rfl
        · rfl
      refine Or.inr ⟨ab, ao, cap, by rw [h0, hL], ?_, hpos⟩
      intro k hk
      obtain ⟨q0, q1, q2, q3, q4⟩ := hc k hk
      rw [hadd] at q0 q1 q2 q3 q4
      exact ⟨q0, q1, q2, q3, q4⟩
end
end Go.Proofs.YtglhanblbojkhaaGreatDoor
namespace Go.Proofs.YtglhanblbojkhaaGreatDoor
open Go.Lib
/-- A beginning, not the whole. -/
def PP (p L : List UInt8) : Prop := ∃ q, q ≠ [] ∧ p ++ q = L
theorem pp_app {p A B : List UInt8} (h : PP p (A ++ B)) : PP p A ∨ ∃ p', p = A ++ p' ∧ PP p' B := by
  obtain ⟨q, hq, h⟩ := h
  rcases List.append_eq_append_iff.1 h with ⟨a, h1, h2⟩ | ⟨a, h1, h2⟩
  · cases a with
    | nil =>
      right
      rw [List.append_nil] at h1
      exact ⟨[], by rw [h1, List.append_nil], q, hq, by rw [List.nil_append]; simpa using h2⟩
    | cons x y => exact Or.inl ⟨x :: y, by simp, h1.symm⟩
  · exact Or.inr ⟨a, h1, q, hq, h2.symm⟩
theorem pp_one {p : List UInt8} {c : UInt8} (h : PP p [c]) : p = [] := by
  obtain ⟨q, hq, h⟩ := h
  cases p with
  | nil => rfl
  | cons x y =>
    injection h with h1 h2
    exact absurd (List.append_eq_nil_iff.1 h2).2 hq
theorem pp_cons {p L : List UInt8} {c : UInt8} (h : PP p (c :: L)) : p = [] ∨ ∃ p', p = c :: p' ∧ PP p' L := by
  rcases pp_app (A := [c]) (B := L) h with h | ⟨p', h1, h2⟩
  · exact Or.inl (pp_one h)
  · exact Or.inr ⟨p', h1, h2⟩
theorem pp_len {p L : List UInt8} (h : PP p L) : p.length < L.length := by
  obtain ⟨q, hq, h⟩ := h
  rw [← h, List.length_append]
  have := List.length_pos_iff.2 hq
  omega
theorem tk_short (w p : List UInt8) (h : p.length < w.length) : tkJ w p = none := by
  unfold tkJ
  rw [if_neg]
  intro hp
  have := (List.isPrefixOf_iff_prefix.1 hp).length_le
  omega
theorem strGo_none (f : Nat) : strGo f [] = none := by cases f <;> rfl
theorem strGo_big : ∀ (f : Nat) (p : List UInt8), (∀ c ∈ p, 128 ≤ c.toNat) → strGo f p = none
  | 0, p, _ => rfl
  | f + 1, [], _ => rfl
  | f + 1, c :: r, h => by
    have hc := h c (by simp)
    rw [strGo_raw f c r (by intro e; subst e; exact absurd hc (by decide)) (by omega) (by intro e; subst e; exact absurd hc (by decide)), strGo_big f _ fun x hx => h x (List.mem_of_mem_drop hx)]
    rfl
theorem esc_cut (p : List UInt8) (c : UInt8) (hc : c.toNat < 32) (h : PP p [117, 48, 48, hexD (c.toNat / 16), hexD (c.toNat % 16)]) : escJ p = none := by
  have hl := pp_len h
  rcases pp_cons h with rfl | ⟨p1, rfl, h1⟩
  · rfl
  · have hh : hexsJ 4 0 p1 = none := by
      have hl1 := pp_len h1
      cases hx : hexsJ 4 0 p1 with
      | none => rfl
      | some y =>
        obtain ⟨m, t⟩ := y
        have := (cut_hexs 4 0 p1 m t hx).2
        simp at hl1
        omega
    simp only [escJ, show letJ 117 = none from by decide, hh, ne_eq, not_true_eq_false, if_false]
theorem strGo_cut1 (f : Nat) (c : UInt8) (p : List UInt8) (hc : c.toNat < 128) (h : PP p (quoteC c)) : strGo f p = none := by
  cases f with
  | zero => rfl
  | succ f =>
  have hb : ∀ a : UInt8, PP p [92, a] → strGo (f + 1) p = none := fun a h => by
    rcases pp_cons h with rfl | ⟨p1, rfl, h1⟩
    · rfl
    · have := pp_one h1
      subst this
      rw [strGo_bs]; rfl
  unfold quoteC at h
  split at h
  · exact hb _ h
  · split at h
    · exact hb _ h
    · split at h
      · exact hb _ h
      · split at h
        · exact hb _ h
        · split at h
          · exact hb _ h
          · split at h
            · exact hb _ h
            · split at h
              · rename_i h32
                rcases pp_cons h with rfl | ⟨p1, rfl, h1⟩
                · rfl
                · rw [strGo_bs, esc_cut p1 c h32 h1]
              · rw [pp_one h]; rfl
theorem strGo_cut : ∀ (n : Nat) (t p : List UInt8) (f : Nat), t.length ≤ n → validD t = true → PP p (t.flatMap quoteC ++ [34]) → strGo f p = none
  | n, [], p, f, _, _, h => by
    have := pp_one h
    subst this
    exact strGo_none f
  | 0, c :: t, p, f, hn, _, _ => by simp at hn
  | n + 1, c :: t, p, f, hn, hv, h => by
    simp only [List.length_cons] at hn
    by_cases hc : c.toNat < 128
    · have hv2 : validD t = true := by rw [valid_cons c t hc] at hv; exact hv
      rw [List.flatMap_cons, List.append_assoc] at h
      rcases pp_app h with h1 | ⟨p', rfl, h1⟩
      · exact strGo_cut1 f c p hc h1
      · cases f with
        | zero => rfl
        | succ f => rw [strGo_ascii f c p' hc, strGo_cut n t p' f (by omega) hv2 h1]; rfl
    · have hs := valid_step (c :: t) (by simp)
      rw [hv] at hs
      have hs2 := hs.symm
      rw [Bool.and_eq_true] at hs2
      obtain ⟨hw, hv2⟩ := hs2
      obtain ⟨d1, d2, d3, d4⟩ := decode_pt (c :: t) (by simp) hw
      obtain ⟨q, hp⟩ : ∃ q, (decodeL (c :: t)).1 = q := ⟨_, rfl⟩
      obtain ⟨m, hm⟩ : ∃ m, (decodeL (c :: t)).2 = m := ⟨_, rfl⟩
      rw [hp, hm] at d4
      rw [hp] at d1
      rw [hm] at d2 d3 hv2
      have hsplit : c :: t = encN q ++ (c :: t).drop m := by rw [d4, List.take_append_drop]
      have hp128 : 128 ≤ q := by
        rcases Nat.lt_or_ge q 128 with h | h
        · have h1 : encN q = [UInt8.ofNat q] := by unfold encN; rw [if_pos h]
          rw [h1] at hsplit
          injection hsplit with h2 h3
          rw [h2, ofN q (by omega)] at hc
          exact absurd h hc
        · exact h
      have hdl : ((c :: t).drop m).length = t.length + 1 - m := by rw [List.length_drop]; rfl
      have hfm : (c :: t).flatMap quoteC = encN q ++ ((c :: t).drop m).flatMap quoteC := by
        conv => lhs; rw [hsplit]
        rw [List.flatMap_append, big_all _ (enc_big q d1 hp128)]
      rw [hfm, List.append_assoc] at h
      have hbig := enc_big q d1 hp128
      rcases pp_app h with h1 | ⟨p', rfl, h1⟩
      · obtain ⟨y, hy, hpy⟩ := h1
        exact strGo_big f p fun x hx => hbig x (by rw [← hpy]; exact List.mem_append_left _ hx)
      · cases f with
        | zero => rfl
        | succ f =>
          obtain ⟨c0, r0, he⟩ : ∃ c0 r0, encN q = c0 :: r0 := by
            cases h : encN q with
            | nil =>
              have := enc_len q d1
              rw [h] at this
              repeat' split at this
              all_goals simp at this
            | cons a b => exact ⟨a, b, rfl⟩
          have hc0 : 128 ≤ c0.toNat := hbig c0 (by rw [he]; simp)
          have hdec := decode_enc q d1 p'
          rw [he] at hdec ⊢
          rw [List.cons_append] at hdec ⊢
          rw [strGo_raw f c0 _ (by intro e; subst e; exact absurd hc0 (by decide)) (by omega) (by intro e; subst e; exact absurd hc0 (by decide)), hdec]
          simp only
          rw [show ((c0 :: (r0 ++ p')).drop (c0 :: r0).length) = p' from by rw [← List.cons_append, List.drop_left], strGo_cut n _ p' f (by omega) hv2 h1]
          rfl
theorem str_cut (t p : List UInt8) (hv : validD t = true) (h : PP p (quoteL t)) : strJ p = none := by
  have h' : PP p (34 :: (t.flatMap quoteC ++ [34])) := by
    unfold quoteL at h
    rw [List.append_assoc] at h
    exact h
  rcases pp_cons h' with rfl | ⟨p1, rfl, h1⟩
  · rfl
  · unfold strJ
    rw [tk_one']
    simp only
    rw [strGo_cut t.length t p1 _ (Nat.le_refl _) hv h1]
    rfl
theorem num_cut (n : Int) (p : List UInt8) (h : PP p (Lib.itoa n)) : (∃ e, numJ p = .error e) ∨ ∃ v, numJ p = .ok (v, []) := by
  obtain ⟨q, hq, h⟩ := h
  have hi := (read_itoa n).1
  by_cases hb : body p = []
  · left
    cases p with
    | nil => exact ⟨40, rfl⟩
    | cons c r =>
      unfold body at hb
      split at hb
      · rename_i hbl
        unfold below at hbl
        simp only [beq_iff_eq] at hbl
        simp only [List.tail_cons] at hb
        subst hbl; subst hb
        exact ⟨40, rfl⟩
      · cases hb
  · have hok : okDigits (body p) = true := by
      rw [← h] at hi
      have hpn : p ≠ [] := by intro e; subst e; exact hb rfl
      have hbo : body (p ++ q) = body p ++ q := by
        have hbl : below (p ++ q) = below p := by
          cases p with
          | nil => exact absurd rfl hpn
          | cons c t => rfl
        unfold body
        rw [hbl]
        cases hx : below p with
        | true =>
          rw [if_pos rfl, if_pos rfl]
          cases p with
          | nil => exact absurd rfl hpn
          | cons c t => rfl
        | false => rfl
      rw [hbo] at hi
      unfold okDigits digitsB at hi ⊢
      simp only [Bool.and_eq_true, List.all_append, Bool.not_eq_true'] at hi ⊢
      obtain ⟨⟨⟨h1, _⟩, _⟩, h3⟩ := hi
      refine ⟨⟨h1, ?_⟩, ?_⟩
      · cases hbp : body p with
        | nil => exact absurd hbp hb
        | cons a b => rfl
      · cases hbp : body p with
        | nil => exact absurd hbp hb
        | cons a b =>
          rw [hbp] at h3
          simp only [List.cons_append, List.head?_cons, List.length_cons, Bool.and_eq_false_iff, decide_eq_false_iff_not] at h3 ⊢
          rcases h3 with h3 | h3
          · exact Or.inl h3
          · right
            rw [List.length_append] at h3
            omega
    have hw := num_whole p [] hok (fun c hc => by cases hc)
    rw [List.append_nil] at hw
    rw [hw]
    split
    · exact Or.inl ⟨41, rfl⟩
    · exact Or.inr ⟨_, rfl⟩
def IsErr {α : Type} (x : Except Int α) : Prop := ∃ e, x = .error e
def CutT (d : Nat) : Prop := ∀ (V : List Cel) (k : Nat) (name p : List UInt8) (out : List Cel), valN d V = some k → (∀ x ∈ V.take k, GoodC x) → out.length + k ≤ 2048 → PP p (textJ d V) →
  IsErr (valJ d name p out) ∨ ((∃ c r, V = c :: r ∧ c.kind = 2) ∧ ∃ x, valJ d name p out = .ok ([], x))
theorem val_nil (d : Nat) (name : List UInt8) (out : List Cel) : valJ d name [] out = .error 40 := by
  cases d <;> (rw [valJ]; rfl)
theorem items_nil (d : Nat) (isO : Bool) (f m : Nat) (nm : List (List UInt8)) (out : List Cel) : IsErr (itemsJ (valJ d) isO f m nm [] out) := by
  cases f with
  | zero => exact ⟨40, by rw [itemsJ]⟩
  | succ f =>
    rw [itemsJ]
    rw [show tkJ [if isO then (125 : UInt8) else 93] [] = none from by cases isO <;> rfl]
    simp only
    by_cases hm : m = 0
    · rw [if_pos hm]
      simp only
      cases isO with
      | true => exact ⟨40, rfl⟩
      | false =>
        simp only [Bool.false_eq_true, if_false]
        rw [val_nil]
        exact ⟨40, rfl⟩
    · rw [if_neg hm, show tkJ [44] ([] : List UInt8) = none from rfl]
      exact ⟨40, rfl⟩
theorem leaf_cut (c : Cel) (h1 : oneC c = true) (hn : nestC c = false) (hg : GoodC c) (d : Nat) (name p : List UInt8) (out : List Cel) (hf : out.length ≠ 2048) (h : PP p (litJ c)) :
    IsErr (valJ d name p out) ∨ (c.kind = 2 ∧ ∃ x, valJ d name p out = .ok ([], x)) := by
  obtain ⟨a, r, hl, b1, b2, b3, b4⟩ := lit_head c h1 hn
  rw [hl] at h
  rcases pp_cons h with rfl | ⟨p1, rfl, hp1⟩
  · left; exact ⟨40, val_nil d name out⟩
  have hv : valJ d name (a :: p1) out = leafJ name a (a :: p1) out := by
    rw [valJ, bl_not a p1 b4]
    simp only
    rw [if_neg (by rw [b1]; decide), if_neg hf, if_neg (by rintro (e | e); exact b2 e; exact b3 e)]
  rw [hv]
  have hpp : PP (a :: p1) (litJ c) := by rw [hl]; exact h
  have hlen := pp_len hpp
  obtain ⟨he, hR⟩ := hg
  unfold nestC at hn
  simp only [Bool.or_eq_false_iff, beq_eq_false_iff_ne] at hn he
  unfold oneC at h1
  unfold litJ at hl hpp hlen
  by_cases k0 : c.kind = 0
  · rw [if_pos k0] at hl hlen
    injection hl with hl _
    subst hl
    left
    unfold leafJ
    rw [if_neg (by decide), if_neg (by decide), if_neg (by decide), if_pos rfl, tk_short _ _ hlen]
    exact ⟨40, rfl⟩
  rw [if_neg k0] at h1 hl hpp hlen
  by_cases k1 : c.kind = 1
  · rw [if_pos k1] at hl hlen
    left
    by_cases hb : c.num = 1
    · rw [if_pos hb] at hl hlen
      injection hl with hl _
      subst hl
      unfold leafJ
      rw [if_neg (by decide), if_pos rfl, tk_short _ _ hlen]
      exact ⟨40, rfl⟩
    · rw [if_neg hb] at hl hlen
      injection hl with hl _
      subst hl
      unfold leafJ
      rw [if_neg (by decide), if_neg (by decide), if_pos rfl, tk_short _ _ hlen]
      exact ⟨40, rfl⟩
  rw [if_neg k1] at h1 hl hpp hlen
  by_cases k2 : c.kind = 2
  · rw [if_pos k2] at hl hpp
    have ha : a = 45 ∨ isDig a = true := by
      obtain ⟨a', r', h', ha'⟩ := itoa_head c.num
      rw [hl] at h'
      injection h' with h' _
      rw [h']; exact ha'
    have hne : ∀ x : Nat, x < 256 → 57 < x ∨ x = 34 → a ≠ UInt8.ofNat x := fun x hx ho => by
      rcases ha with rfl | ha
      · intro e
        have := congrArg UInt8.toNat e
        rw [ofN x hx] at this
        have h45 : (45 : UInt8).toNat = 45 := rfl
        omega
      · exact dig_ne a ha x hx (by omega)
    unfold leafJ
    rw [if_neg (show ¬ a = 34 from hne 34 (by decide) (by decide)), if_neg (show ¬ a = 116 from hne 116 (by decide) (by decide)), if_neg (show ¬ a = 102 from hne 102 (by decide) (by decide)), if_neg (show ¬ a = 110 from hne 110 (by decide) (by decide))]
    rcases num_cut c.num _ hpp with ⟨e, hx⟩ | ⟨v, hx⟩
    · left; rw [hx]; exact ⟨e, rfl⟩
    · right; rw [hx]; exact ⟨k2, _, rfl⟩
  rw [if_neg k2] at h1 hl hpp hlen
  by_cases k3 : c.kind = 3
  · rw [if_pos k3] at h1
    simp only [Bool.and_eq_true] at h1
    have hx := h1.1.1
    unfold textB at hx
    rw [Bool.and_eq_true] at hx
    have ha : a = 34 := by
      unfold quoteL at hl
      simp only [List.cons_append, List.nil_append] at hl
      injection hl with hl _
      exact hl.symm
    subst ha
    left
    unfold leafJ
    rw [if_pos rfl, str_cut c.text _ hx.2 hpp]
    exact ⟨40, rfl⟩
  rw [if_neg k3, if_neg (by rintro (e | e); exact he.1 e; exact he.2 e), if_neg (by rintro (e | e); exact hn.1 e; exact hn.2 e)] at h1
  cases h1
theorem items_cut (d : Nat) (ih : CutT d) (isO : Bool) : ∀ (n m : Nat) (nm : List (List UInt8)) (V : List Cel) (k : Nat) (p : List UInt8) (out : List Cel) (f : Nat), kidsN (valN d) (!isO) n nm V = some k → (∀ x ∈ V.take k, GoodC x) → out.length + k ≤ 2048 →
    PP p (kidsJ (valN d) (textJ d) isO n (m == 0) V ++ [endJ isO]) → IsErr (itemsJ (valJ d) isO f m nm p out)
  | 0, m, nm, V, k, p, out, f, h, hg, hl, hp => by
    have := pp_one hp
    subst this
    exact items_nil d isO f m nm out
  | n + 1, m, nm, [], k, p, out, f, h, hg, hl, hp => by cases h
  | n + 1, m, nm, c :: r, k, p, out, f, h, hg, hl, hp => by
    cases f with
    | zero => exact ⟨40, by rw [itemsJ]⟩
    | succ g =>
    rw [kidsN] at h
    split at h
    · rename_i hok
      split at h
      · cases h
      · rename_i k1 hk1
        rw [Option.map_eq_some_iff] at h
        obtain ⟨k2, hk2, rfl⟩ := h
        obtain ⟨v1, v2⟩ := valN_le d _ _ hk1
        obtain ⟨a0, r0, ht, hb, hbl⟩ := text_head d _ _ hk1
        have htake : (c :: r).take (k1 + k2) = (c :: r).take k1 ++ ((c :: r).drop k1).take k2 := List.take_add
        have hg1 : ∀ x ∈ (c :: r).take k1, GoodC x := fun x hx => hg x (by rw [htake]; exact List.mem_append_left _ hx)
        have hbeg : a0 ≠ endJ isO := by
          intro e
          rw [e] at hb
          cases isO <;> exact absurd hb (by decide)
        -- what stands behind a name
        have hval : ∀ (name p2 : List UInt8) (nm' : List (List UInt8)), kidsN (valN d) (!isO) n nm' ((c :: r).drop k1) = some k2 → PP p2 (textJ d (c :: r) ++ (kidsJ (valN d) (textJ d) isO n false ((c :: r).drop k1) ++ [endJ isO])) →
            IsErr (match valJ d name p2 out with | .error e => (.error e : Except Int (Nat × List UInt8 × List Cel)) | .ok (l3, out2) => itemsJ (valJ d) isO g (m + 1) nm' (blJ l3) out2) := fun name p2 nm' hk2' hp2 => by
          rcases pp_app hp2 with h1 | ⟨p3, rfl, h3⟩
          · rcases ih (c :: r) k1 name p2 out hk1 hg1 (by omega) h1 with ⟨e, he⟩ | ⟨_, x, hx⟩
            · rw [he]; exact ⟨e, rfl⟩
            · rw [hx]
              simp only
              rw [show blJ ([] : List UInt8) = [] from rfl]
              exact items_nil d isO g (m + 1) nm' x
          · have hst : StopJ p3 ∧ blJ p3 = p3 := by
              cases p3 with
              | nil => exact ⟨(fun c hc => by cases hc), rfl⟩
              | cons x y =>
                obtain ⟨q, hq, hpq⟩ := h3
                obtain ⟨ka, kr, hkh, hka⟩ := kids_head d isO n ((c :: r).drop k1) []
                rw [hkh] at hpq
                injection hpq with hx _
                subst hx
                obtain ⟨e1, e2⟩ := end_stop isO x y hka
                exact ⟨e1, bl_not x y e2⟩
            rw [val_text d (c :: r) k1 name p3 out hk1 hg1 hst.1 (by omega)]
            simp only
            rw [hst.2]
            refine items_cut d ih isO n (m + 1) nm' ((c :: r).drop k1) k2 p3 _ g hk2' (fun x hx => hg x (by rw [htake]; exact List.mem_append_right _ hx)) ?_ ?_
            · have hrl : (renJ name ((c :: r).take k1)).length = k1 := by
                obtain ⟨k1', rfl⟩ : ∃ k1', k1 = k1' + 1 := ⟨k1 - 1, by omega⟩
                rw [List.take_succ_cons, renJ, List.length_cons, List.length_take]
                simp only [List.length_cons] at v2
                omega
              rw [List.length_append, hrl]; omega
            · rw [show ((m + 1 == 0) : Bool) = false from by simp]
              exact h3
        -- behind the comma
        have hbody : ∀ p1 : List UInt8, PP p1 ((if isO then quoteL c.name ++ [58] else []) ++ (textJ d (c :: r) ++ (kidsJ (valN d) (textJ d) isO n false ((c :: r).drop k1) ++ [endJ isO]))) →
            blJ p1 = p1 ∧ IsErr (match (if isO then memJ nm p1 else .ok ([], p1)) with | .error e => (.error e : Except Int (Nat × List UInt8 × List Cel)) | .ok (s, l2) => match valJ d s l2 out with | .error e => .error e | .ok (l3, out2) => itemsJ (valJ d) isO g (m + 1) (if isO then s :: nm else nm) (blJ l3) out2) := fun p1 hp1 => by
          cases isO with
          | true =>
            simp only [Bool.not_true, okN, Bool.false_eq_true, if_false, Bool.and_eq_true, Bool.not_eq_true'] at hok
            obtain ⟨⟨hne, htx⟩, ham⟩ := hok
            unfold textB at htx
            rw [Bool.and_eq_true] at htx
            simp only [if_true] at hp1 ⊢
            rw [List.append_assoc] at hp1
            have hbl1 : blJ p1 = p1 := by
              obtain ⟨q, hq, hpq⟩ := hp1
              cases p1 with
              | nil => rfl
              | cons x y =>
                have : x = 34 := by
                  unfold quoteL at hpq
                  simp only [List.cons_append, List.nil_append] at hpq
                  injection hpq
                subst this
                exact bl_not 34 y (by decide)
            refine ⟨hbl1, ?_⟩
            rcases pp_app hp1 with h1 | ⟨p2, rfl, h2⟩
            · have : memJ nm p1 = .error 40 := by unfold memJ; rw [str_cut c.name p1 htx.2 h1]
              rw [this]
              exact ⟨40, rfl⟩
            · rcases pp_app h2 with h3 | ⟨p3, rfl, h3⟩
              · have := pp_one h3
                subst this
                have : memJ nm (quoteL c.name ++ []) = .error 40 := by
                  unfold memJ
                  rw [str_quote c.name [] htx.2]
                  simp only
                  rw [if_neg (by rw [← among_cont, ham]; simp), if_neg (by rw [hne]; simp)]
                  rfl
                rw [this]
                exact ⟨40, rfl⟩
              · have : memJ nm (quoteL c.name ++ ([58] ++ p3)) = .ok (c.name, p3) := by
                  unfold memJ
                  rw [str_quote c.name _ htx.2]
                  simp only
                  rw [if_neg (by rw [← among_cont, ham]; simp), if_neg (by rw [hne]; simp)]
                  rw [show ([58] ++ p3) = 58 :: p3 from rfl, bl_not 58 _ (by decide), tk_one']
                rw [this]
                exact hval c.name p3 (c.name :: nm) hk2 h3
          | false =>
            simp only [Bool.false_eq_true, if_false, List.nil_append] at hp1 ⊢
            have hbl1 : blJ p1 = p1 := by
              obtain ⟨q, hq, hpq⟩ := hp1
              rw [ht] at hpq
              cases p1 with
              | nil => rfl
              | cons x y =>
                injection hpq with hx _
                subst hx
                exact bl_not x y hbl
            refine ⟨hbl1, ?_⟩
            have hk3 : kidsN (valN d) (!false) n nm ((c :: r).drop k1) = some k2 := by
              rw [← hk2]; exact kidsN_names (valN d) n _ _ _
            exact hval [] p1 nm hk3 hp1
        rw [kidsJ, hk1, Option.getD_some] at hp
        unfold preJ at hp
        simp only [List.headD_cons, List.append_assoc] at hp
        rw [itemsJ]
        by_cases hm : m = 0
        · subst hm
          simp only [beq_self_eq_true, if_true, List.nil_append] at hp
          have hp' : PP p ((if isO then quoteL c.name ++ [58] else []) ++ (textJ d (c :: r) ++ (kidsJ (valN d) (textJ d) isO n false ((c :: r).drop k1) ++ [endJ isO]))) := by
            cases isO <;> simpa using hp
          obtain ⟨hbl1, herr⟩ := hbody p hp'
          have hno : tkJ [if isO then (125 : UInt8) else 93] p = none := by
            cases p with
            | nil => cases isO <;> rfl
            | cons x y =>
              obtain ⟨q, hq, hpq⟩ := hp'
              refine tk_ne y ?_
              cases isO with
              | true =>
                have : x = 34 := by
                  unfold quoteL at hpq
                  simp only [if_true, List.cons_append, List.nil_append] at hpq
                  injection hpq
                rw [this]; decide
              | false =>
                simp only [Bool.false_eq_true, if_false, List.nil_append] at hpq
                rw [ht] at hpq
                injection hpq with hx _
                rw [hx]; exact hbeg
          rw [hno]
          simp only
          rw [if_pos trivial]
          exact herr
        · have hm0 : (m == 0) = false := by simp [hm]
          rw [hm0] at hp
          simp only [Bool.false_eq_true, if_false] at hp
          have hp' : PP p (44 :: ((if isO then quoteL c.name ++ [58] else []) ++ (textJ d (c :: r) ++ (kidsJ (valN d) (textJ d) isO n false ((c :: r).drop k1) ++ [endJ isO])))) := by
            cases isO <;> simpa using hp
          rcases pp_cons hp' with rfl | ⟨p1, rfl, h1⟩
          · have := items_nil d isO (g + 1) m nm out
            rw [itemsJ] at this
            exact this
          · obtain ⟨hbl1, herr⟩ := hbody p1 h1
            rw [show tkJ [if isO then (125 : UInt8) else 93] (44 :: p1) = none from by cases isO <;> exact tk_ne p1 (by decide)]
            simp only
            rw [if_neg hm, tk_one', Option.map_some, hbl1]
            exact herr
    · cases h
theorem cut_text_step (d : Nat) (ih : ∀ e, d = e + 1 → CutT e) : CutT d := by
  intro V k name p out h hg hl hp
  obtain ⟨c, r, rfl⟩ : ∃ c r, V = c :: r := by
    cases V with
    | nil => cases d <;> cases h
    | cons c r => exact ⟨c, r, rfl⟩
  have hone : oneC c = true := by
    cases d <;> (first | rw [valN_zero, headN_cons] at h | rw [valN_more, headN_cons] at h) <;> (cases h1 : oneC c with | true => rfl | false => rw [h1] at h; cases h)
  obtain ⟨v1, v2⟩ := valN_le d _ _ h
  have hfull : out.length ≠ 2048 := by omega
  have hgc : GoodC c := hg c (by
    obtain ⟨k', rfl⟩ : ∃ k', k = k' + 1 := ⟨k - 1, by omega⟩
    rw [List.take_succ_cons]; exact List.mem_cons_self ..)
  cases hn : nestC c with
  | false =>
    have htx : textJ d (c :: r) = litJ c := by
      cases d <;> (first | rw [textJ_zero, headJ_cons, hn] | rw [textJ_more, headJ_cons, hn]) <;> rfl
    rw [htx] at hp
    rcases leaf_cut c hone hn hgc d name p out hfull hp with h1 | ⟨h1, h2⟩
    · exact Or.inl h1
    · exact Or.inr ⟨⟨c, r, rfl, h1⟩, h2⟩
  | true =>
    left
    cases d with
    | zero => rw [valN_zero, headN_cons, hone, hn] at h; cases h
    | succ d =>
      rw [valN_more, headN_cons, hone, hn, if_pos rfl, if_pos rfl, Option.map_eq_some_iff] at h
      obtain ⟨k2, hk2, rfl⟩ := h
      rw [textJ_more, headJ_cons, hn, if_pos rfl] at hp
      have hg2 : ∀ x ∈ r.take k2, GoodC x := fun x hx => hg x (by
        rw [show (1 + k2) = k2 + 1 from by omega, List.take_succ_cons]; exact List.mem_cons_of_mem _ hx)
      have hgo : ∀ (isO : Bool) (p1 : List UInt8) (hd : Cel), (!isO) = (c.kind == 6) → PP p1 (kidsJ (valN d) (textJ d) isO c.many.toNat true r ++ [endJ isO]) → blJ p1 = p1 ∧ IsErr (itemsJ (valJ d) isO (p1.length + 1) 0 [] p1 (out ++ [hd])) := fun isO p1 hd hc hp1 => by
        refine ⟨?_, items_cut d (ih d rfl) isO c.many.toNat 0 [] r k2 p1 (out ++ [hd]) _ (by rw [hc]; exact hk2) hg2 (by rw [List.length_append]; simp only [List.length_cons, List.length_nil]; omega) hp1⟩
        refine bl_head _ fun x hx => ?_
        obtain ⟨q, hq, hpq⟩ := hp1
        cases p1 with
        | nil => cases hx
        | cons y z =>
          injection hx with hx
          subst hx
          cases hmm : c.many.toNat with
          | zero =>
            rw [hmm, kidsJ, List.nil_append] at hpq
            injection hpq with hx _
            rw [hx]; cases isO <;> decide
          | succ n =>
            rw [hmm] at hpq hk2
            cases r with
            | nil => cases hk2
            | cons c2 r2 =>
              rw [kidsJ] at hpq
              cases isO with
              | true =>
                have : y = 34 := by
                  have h9 := congrArg List.head? hpq
                  simp only [List.cons_append, List.head?_cons] at h9
                  have h10 : ((preJ true true (c2 :: r2) ++ (textJ d (c2 :: r2) ++ kidsJ (valN d) (textJ d) true n false ((c2 :: r2).drop ((valN d (c2 :: r2)).getD 0)))) ++ [endJ true]).head? = some 34 := rfl
                  rw [h10] at h9
                  injection h9
                rw [this]; decide
              | false =>
                rw [kidsN] at hk2
                split at hk2
                · split at hk2
                  · cases hk2
                  · rename_i k1 hk1
                    obtain ⟨a0, r0, ht, _, hb0⟩ := text_head d _ _ hk1
                    unfold preJ at hpq
                    simp only [if_true, Bool.false_eq_true, if_false, List.nil_append, ht, List.cons_append] at hpq
                    injection hpq with hx _
                    rw [hx]; exact hb0
                · cases hk2
      have hk67 : c.kind = 6 ∨ c.kind = 7 := by
        unfold nestC at hn
        simpa using hn
      rcases hk67 with h6 | h7
      · have hb6 : (c.kind == 6) = true := by rw [h6]; rfl
        rw [hb6] at hp hk2
        have hp' : PP p (91 :: (kidsJ (valN d) (textJ d) false c.many.toNat true r ++ [endJ false])) := by simpa [endJ] using hp
        rcases pp_cons hp' with rfl | ⟨p1, rfl, h1⟩
        · exact ⟨40, val_nil _ name out⟩
        · obtain ⟨hbl1, e, he⟩ := hgo false p1 ⟨6, name, [], 0, 0⟩ (by rw [hb6]; rfl) h1
          rw [valJ, bl_not 91 _ (by decide)]
          simp only
          rw [if_neg (show ¬ ((!begJ 91) = true) from by decide), if_neg hfull, if_pos (show (91 : UInt8) = 123 ∨ True from Or.inr trivial), show ((91 : UInt8) == 123) = false from by decide, show (if (91 : UInt8) = 123 then (7 : UInt8) else 6) = 6 from by decide, hbl1, he]
          exact ⟨e, rfl⟩
      · have hb7 : (c.kind == 6) = false := by rw [h7]; rfl
        rw [hb7] at hp hk2
        have hp' : PP p (123 :: (kidsJ (valN d) (textJ d) true c.many.toNat true r ++ [endJ true])) := by simpa [endJ] using hp
        rcases pp_cons hp' with rfl | ⟨p1, rfl, h1⟩
        · exact ⟨40, val_nil _ name out⟩
        · obtain ⟨hbl1, e, he⟩ := hgo true p1 ⟨7, name, [], 0, 0⟩ (by rw [hb7]; rfl) h1
          rw [valJ, bl_not 123 _ (by decide)]
          simp only
          rw [if_neg (show ¬ ((!begJ 123) = true) from by decide), if_neg hfull, if_pos (show True ∨ (123 : UInt8) = 91 from Or.inl trivial), show ((123 : UInt8) == 123) = true from by decide, if_pos trivial, hbl1, he]
          exact ⟨e, rfl⟩
theorem cut_text : ∀ d : Nat, CutT d
  | 0 => cut_text_step 0 fun e h => by omega
  | d + 1 => cut_text_step (d + 1) fun e h => by
    have : e = d := by omega
    subst this
    exact cut_text e
/-- THE LAW: no beginning of what is written is read, unless it is a number's. -/
theorem read_cut (V : List Cel) (p : List UInt8) (hV : plainB V = true) (hR : ∀ c ∈ V, R c.num) (hp : PP p (textJ 16 V)) : IsErr (readJ p) ∨ ∃ c r, V = c :: r ∧ c.kind = 2 := by
  have hl : V.length ≤ 2048 := by
    unfold plainB mayB at hV
    simp only [Bool.and_eq_true, decide_eq_true_eq] at hV
    exact hV.1.1.1.2
  obtain ⟨g1, g2⟩ := plain_good V hV hR
  rcases cut_text 16 V V.length [] p [] g1 g2 (by simpa using hl) hp with ⟨e, he⟩ | ⟨h, _⟩
  · left; unfold readJ; rw [he]; exact ⟨e, rfl⟩
  · exact Or.inr h
end Go.Proofs.YtglhanblbojkhaaGreatDoor
namespace Go.Proofs.YtglhanblbojkhaaGreatDoor
open Go.RowKit
theorem rd_cut (V : List Cel) (p : List UInt8) (hV : plainB V = true) (hR : ∀ c ∈ V, R c.num) (hp : PP p (textJ 16 V)) : (rdErr (rdJ p) ≠ 0 ∧ rdOut (rdJ p) = []) ∨ ∃ c r, V = c :: r ∧ c.kind = 2 := by
  cases h : rdJ p with
  | error e => exact Or.inl ⟨rdJ_err p e h, rfl⟩
  | ok L =>
    right
    unfold rdJ at h
    split at h
    · rcases read_cut V p hV hR hp with ⟨e, he⟩ | h2
      · rw [he] at h; cases h
      · exact h2
    · cases h
set_option maxRecDepth 100000 in
set_option maxHeartbeats 2000000 in
theorem jsonc_small (V : List Cel) (b off cv : Nat) (n : Int) (hn : R n) (w : World) (hrow : CelRow b off V w) (h0 : 0 < V.length) (hs : ShortV V) (hl : V.length ≤ 200) (hU : EnvU w) (hE : Env w) (hT : EnvT w)
    (HG : Hid (∀ W, Below w.heap.size w W → Calls Tryz.prog 14 #[.slice (some ⟨b, off, none⟩) V.length cv, .int .i64 200] W fun e w' => e = .returned (.bool false) ∧ W = w')) :
    Calls Tryz.prog 6 #[.slice (some ⟨b, off, none⟩) V.length cv, .int .i64 n] w fun e w' => e = .returned (.bool true) ∧ Below w.heap.size w w' := by
  have hv : CelSl (.slice (some ⟨b, off, none⟩) V.length cv) V w := Or.inr ⟨b, off, cv, rfl, hrow, h0⟩
  have HA : Hid (Calls Tryz.prog 13 #[] w fun x w' => x = .returned (.bool true) ∧ Below w.heap.size w w') := Lib.hid (lalive_any w hU hE hT)
  have HW : Hid (∀ W, Below w.heap.size w W → Calls Tryz.prog 15 #[.slice (some ⟨b, off, none⟩) V.length cv] W fun e w' => e = .returned (jsonE V) ∧ Below W.heap.size W w') := Lib.hid fun W hW => jwrite_any V _ W (hv.below hW) hs (by omega) (hU.below hW) (hT.stays hW)
  have hR : ∀ c ∈ V, R c.num := fun c hc => (hs c hc).2.2.1
  have HC : Hid (∀ W, Below w.heap.size w W → W.cell? ⟨b, off, none⟩ = some (.int .u8 (V[0].kind.toNat : Int))) := Lib.hid fun W hW => by
    have := (hrow.below' hW 0 h0).1
    simpa using this
  obtain ⟨nv, hnv⟩ : ∃ nv, V.length = nv := ⟨_, rfl⟩
  have hnv0 : (0 : Int) < (nv : Int) := by omega
  rw [hnv] at HG HW ⊢
  cases hp : plainB V with
  | false =>
    rw [show jsonE V = .tuple #[.string ⟨#[]⟩, .int .i64 8] from by unfold jsonE; rw [hp]; rfl] at HW
    clear hv hs hU hE hT hl hR hp hrow HC hn h0
    go_enter Tryz.func6, Tryz.ntmps6
    go_wp2_with fail
    refine HA.out.mono ?_; rintro e w1 ⟨rfl, hb⟩
    have HB1 := Lib.hid hb
    clear hb
    go_wp2_with fail
    refine (HG.out _ HB1.out).mono ?_; rintro e w2 ⟨rfl, rfl⟩
    go_wp2_with fail
    refine (HW.out _ HB1.out).mono ?_; rintro e w2 ⟨rfl, hb⟩
    have HB2 := Lib.hid (HB1.out.trans (hb.mono HB1.out.size))
    clear hb
    go_wp2_with fail
    go_ret
    exact ⟨rfl, HB2.out⟩
  | true =>
    obtain ⟨js, hjs⟩ : ∃ js : ByteArray, (⟨(textJ 16 V).toArray⟩ : ByteArray) = js := ⟨_, rfl⟩
    have hjl : js.data.toList = textJ 16 V := by rw [← hjs]
    rw [show jsonE V = .tuple #[.string js, .int .i64 0] from by unfold jsonE; rw [hp, ← hjs]; rfl] at HW
    by_cases hgo : 0 ≤ n ∧ n < (js.size : Int) ∧ js.size ≤ 16000
    · obtain ⟨g1, g2, g3⟩ := hgo
      obtain ⟨m, rfl⟩ : ∃ m : Nat, n = (m : Int) := ⟨n.toNat, by omega⟩
      have hm : m < js.size := by omega
      obtain ⟨ps, hps⟩ : ∃ ps, js.extract 0 m = ps := ⟨_, rfl⟩
      have hpl : ps.data.toList = js.data.toList.take m := by
        have h5 := ext_list js 0 m
        rw [Nat.zero_add, List.drop_zero, hps, ByteArray.toList_eq] at h5
        exact h5
      have hpz : ps.size ≤ 16000 := by
        rw [← bsz, hpl, List.length_take, bsz]; omega
      have hpp : PP ps.data.toList (textJ 16 V) := by
        rw [hpl, ← hjl]
        refine ⟨js.data.toList.drop m, ?_, List.take_append_drop _ _⟩
        intro e
        have := congrArg List.length e
        rw [List.length_drop, bsz, List.length_nil] at this
        omega
      have HPR : Hid (∀ W, Below w.heap.size w W → Calls Tryz.prog 8 #[.string ps] W fun x w' => (∃ u, x = .returned (.tuple #[u, .int .i64 (rdErr (rdJ ps.data.toList))]) ∧ CelSl u (rdOut (rdJ ps.data.toList)) w') ∧ Below W.heap.size W w') := Lib.hid fun W hW => pread_sl ps (by omega) W (hU.below hW) (hE.stays hW)
      have t1 : decide ((m : Int) < 0) = false := decide_eq_false (by omega)
      have t2 : decide ((js.size : Int) ≤ (m : Int)) = false := decide_eq_false (by omega)
      have t3 : decide ((16000 : Int) < (js.size : Int)) = false := decide_eq_false (by omega)
      have t4 : (m : Int) ≤ (js.size : Int) := by omega
      have t5 : m ≤ js.size := by omega
      have t6 : ¬ js.size ≤ m := by omega
      obtain ⟨E, hEE⟩ : ∃ E, rdErr (rdJ ps.data.toList) = E := ⟨_, rfl⟩
      obtain ⟨L, hLL⟩ : ∃ L, rdOut (rdJ ps.data.toList) = L := ⟨_, rfl⟩
      have hcut := rd_cut V ps.data.toList hp hR hpp
      rw [hEE, hLL] at HPR hcut
      obtain ⟨kd, hkd⟩ : ∃ kd : Int, (V[0].kind.toNat : Int) = kd := ⟨_, rfl⟩
      rw [hkd] at HC
      by_cases hok : E ≠ 0 ∧ L = []
      · obtain ⟨hne, rfl⟩ := hok
        have te : (E != 0) = true := bne_iff_ne.2 hne
        clear hv hs hU hE hT hl hR hp hrow HC hn h0 hjs hjl g1 g2 g3 hm hpl hpz hpp hEE hLL hcut hkd hne
        go_enter Tryz.func6, Tryz.ntmps6
        go_wp2_with fail
        refine HA.out.mono ?_; rintro e w1 ⟨rfl, hb⟩
        have HB1 := Lib.hid hb
        clear hb
        go_wp2_with fail
        refine (HG.out _ HB1.out).mono ?_; rintro e w2 ⟨rfl, rfl⟩
        go_wp2_with fail
        refine (HW.out _ HB1.out).mono ?_; rintro e w2 ⟨rfl, hb⟩
        have HB2 := Lib.hid (HB1.out.trans (hb.mono HB1.out.size))
        clear hb
        go_wp2_with fail
        refine (HPR.out _ HB2.out).mono ?_; rintro e w3 ⟨⟨u, rfl, hsl⟩, hb⟩
        have HB3 := Lib.hid (HB2.out.trans (hb.mono HB2.out.size))
        obtain ⟨au, cu, rfl⟩ := hsl.form
        clear hb hsl
        go_wp2_with fail
        go_ret
        exact ⟨rfl, HB3.out⟩
      · obtain ⟨c, r, hV, hc2⟩ : ∃ c r, V = c :: r ∧ c.kind = 2 := by
          rcases hcut with h | h
          · exact absurd h hok
          · exact h
        have hk2 : kd = 2 := by
          rw [← hkd]
          subst hV
          show ((c.kind).toNat : Int) = 2
          rw [hc2]; rfl
        subst hk2
        obtain ⟨ln, hln⟩ : ∃ ln, L.length = ln := ⟨_, rfl⟩
        have HLN := Lib.hid hln
        have hcase : (E != 0) = false ∨ ((E != 0) = true ∧ ((ln : Int) == 0) = false) := by
          by_cases he : E = 0
          · left; rw [he]; rfl
          · right
            refine ⟨bne_iff_ne.2 he, ?_⟩
            rw [beq_eq_false_iff_ne]
            intro h
            refine hok ⟨he, List.eq_nil_of_length_eq_zero (by omega)⟩
        clear hv hs hU hE hT hl hR hp hrow hn h0 hjs hjl g1 g2 g3 hm hpl hpz hpp hEE hLL hcut hkd hok hV hc2 hln
        rcases hcase with te | ⟨te, tl⟩
        all_goals
          go_enter Tryz.func6, Tryz.ntmps6
          go_wp2_with fail
          refine HA.out.mono ?_; rintro e w1 ⟨rfl, hb⟩
          have HB1 := Lib.hid hb
          clear hb
          go_wp2_with fail
          refine (HG.out _ HB1.out).mono ?_; rintro e w2 ⟨rfl, rfl⟩
          go_wp2_with fail
          refine (HW.out _ HB1.out).mono ?_; rintro e w2 ⟨rfl, hb⟩
          have HB2 := Lib.hid (HB1.out.trans (hb.mono HB1.out.size))
          clear hb
          go_wp2_with fail
          refine (HPR.out _ HB2.out).mono ?_; rintro e w3 ⟨⟨u, rfl, hsl⟩, hb⟩
          have HB3 := Lib.hid (HB2.out.trans (hb.mono HB2.out.size))
          obtain ⟨au, cu, rfl⟩ := hsl.form
          rw [HLN.out]
          have cc := HC.out _ HB3.out
          clear hb hsl
          go_wp2_with fail
          go_ret
          exact ⟨rfl, HB3.out⟩
    · have hcase : n < 0 ∨ (0 ≤ n ∧ (js.size : Int) ≤ n) ∨ (0 ≤ n ∧ n < (js.size : Int) ∧ 16000 < js.size) := by omega
      clear hv hs hU hE hT hl hR hp hrow HC hn h0 hjs hjl hgo
      rcases hcase with h1 | ⟨h1, h2⟩ | ⟨h1, h2, h3⟩
      · have t1 : decide (n < 0) = true := decide_eq_true h1
        clear h1
        go_enter Tryz.func6, Tryz.ntmps6
        go_wp2_with fail
        refine HA.out.mono ?_; rintro e w1 ⟨rfl, hb⟩
        have HB1 := Lib.hid hb
        clear hb
        go_wp2_with fail
        refine (HG.out _ HB1.out).mono ?_; rintro e w2 ⟨rfl, rfl⟩
        go_wp2_with fail
        refine (HW.out _ HB1.out).mono ?_; rintro e w2 ⟨rfl, hb⟩
        have HB2 := Lib.hid (HB1.out.trans (hb.mono HB1.out.size))
        clear hb
        go_wp2_with fail
        go_ret
        exact ⟨rfl, HB2.out⟩
      · have t1 : decide (n < 0) = false := decide_eq_false (by omega)
        have t2 : decide ((js.size : Int) ≤ n) = true := decide_eq_true (by omega)
        clear h1 h2
        go_enter Tryz.func6, Tryz.ntmps6
        go_wp2_with fail
        refine HA.out.mono ?_; rintro e w1 ⟨rfl, hb⟩
        have HB1 := Lib.hid hb
        clear hb
        go_wp2_with fail
        refine (HG.out _ HB1.out).mono ?_; rintro e w2 ⟨rfl, rfl⟩
        go_wp2_with fail
        refine (HW.out _ HB1.out).mono ?_; rintro e w2 ⟨rfl, hb⟩
        have HB2 := Lib.hid (HB1.out.trans (hb.mono HB1.out.size))
        clear hb
        go_wp2_with fail
        go_ret
        exact ⟨rfl, HB2.out⟩
      · have t1 : decide (n < 0) = false := decide_eq_false (by omega)
        have t2 : decide ((js.size : Int) ≤ n) = false := decide_eq_false (by omega)
        have t3 : decide ((16000 : Int) < (js.size : Int)) = true := decide_eq_true (by omega)
        clear h1 h2 h3
        go_enter Tryz.func6, Tryz.ntmps6
        go_wp2_with fail
        refine HA.out.mono ?_; rintro e w1 ⟨rfl, hb⟩
        have HB1 := Lib.hid hb
        clear hb
        go_wp2_with fail
        refine (HG.out _ HB1.out).mono ?_; rintro e w2 ⟨rfl, rfl⟩
        go_wp2_with fail
        refine (HW.out _ HB1.out).mono ?_; rintro e w2 ⟨rfl, hb⟩
        have HB2 := Lib.hid (HB1.out.trans (hb.mono HB1.out.size))
        clear hb
        go_wp2_with fail
        go_ret
        exact ⟨rfl, HB2.out⟩
set_option maxRecDepth 100000 in
theorem jsonc_great (u : Value) (n : Int) (w : World) (hU : EnvU w) (hE : Env w) (hT : EnvT w) (HG : Hid (∀ W, Below w.heap.size w W → Calls Tryz.prog 14 #[u, .int .i64 200] W fun e w' => e = .returned (.bool true) ∧ W = w')) :
    Calls Tryz.prog 6 #[u, .int .i64 n] w fun e w' => e = .returned (.bool true) ∧ Below w.heap.size w w' := by
  have HA : Hid (Calls Tryz.prog 13 #[] w fun x w' => x = .returned (.bool true) ∧ Below w.heap.size w w') := Lib.hid (lalive_any w hU hE hT)
  clear hU hE hT
  go_enter Tryz.func6, Tryz.ntmps6
  go_wp2_with fail
  refine HA.out.mono ?_; rintro e w1 ⟨rfl, hb⟩
  have HB1 := Lib.hid hb
  clear hb
  go_wp2_with fail
  refine (HG.out _ HB1.out).mono ?_; rintro e w2 ⟨rfl, rfl⟩
  go_wp2_with fail
  go_ret
  exact ⟨rfl, HB1.out⟩
set_option maxRecDepth 100000 in
theorem jsonc_none (a : Option Addr) (cv : Nat) (hac : a = none → cv = 0) (n : Int) (w : World) (hU : EnvU w) (hE : Env w) (hT : EnvT w)
    (HG : Hid (∀ W, Below w.heap.size w W → Calls Tryz.prog 14 #[.slice a 0 cv, .int .i64 200] W fun e w' => e = .returned (.bool false) ∧ W = w')) :
    Calls Tryz.prog 6 #[.slice a 0 cv, .int .i64 n] w fun e w' => e = .returned (.bool true) ∧ Below w.heap.size w w' := by
  have hv : CelSl (.slice a 0 cv) [] w := Or.inl ⟨a, cv, rfl, rfl, hac⟩
  have HA : Hid (Calls Tryz.prog 13 #[] w fun x w' => x = .returned (.bool true) ∧ Below w.heap.size w w') := Lib.hid (lalive_any w hU hE hT)
  have HW : Hid (∀ W, Below w.heap.size w W → Calls Tryz.prog 15 #[.slice a 0 cv] W fun e w' => e = .returned (.tuple #[.string ⟨#[]⟩, .int .i64 8]) ∧ Below W.heap.size W w') := Lib.hid fun W hW => jwrite_any [] _ W (hv.below hW) (fun c hc => by cases hc) (by decide) (hU.below hW) (hT.stays hW)
  clear hv hU hE hT hac
  go_enter Tryz.func6, Tryz.ntmps6
  go_wp2_with fail
  refine HA.out.mono ?_; rintro e w1 ⟨rfl, hb⟩
  have HB1 := Lib.hid hb
  clear hb
  go_wp2_with fail
  refine (HG.out _ HB1.out).mono ?_; rintro e w2 ⟨rfl, rfl⟩
  go_wp2_with fail
  refine (HW.out _ HB1.out).mono ?_; rintro e w2 ⟨rfl, hb⟩
  have HB2 := Lib.hid (HB1.out.trans (hb.mono HB1.out.size))
  clear hb
  go_wp2_with fail
  go_ret
  exact ⟨rfl, HB2.out⟩
theorem jsonc_walk (V : List Cel) (u : Value) (hl : V.length ≤ maxLen) (hz : ∀ c ∈ V, c.name.length ≤ maxLen ∧ c.text.length ≤ maxLen ∧ R c.num ∧ R c.many) (n : Int) (hn : R n) (w : World) (h1 : CelSl u V w) (he : EnvU w ∧ Env w ∧ EnvT w) :
    Calls Tryz.prog 6 #[u, .int .i64 n] w fun e w' => e = .returned (.bool true) ∧ Below w.heap.size w w' := by
  obtain ⟨hU, hE, hT⟩ := he
  have HG := Lib.hid (fun (W : World) (hW : Below w.heap.size w W) => rgreat03_any V u 200 hl (by decide) W (h1.below hW) (fun c hc => ⟨(hz c hc).1, (hz c hc).2.1⟩))
  cases hg : greatV V 200 with
  | true => rw [hg] at HG; exact jsonc_great u n w hU hE hT HG
  | false =>
    rw [hg] at HG
    obtain ⟨s1, s2⟩ := short_of_great' V hg (fun c hc => (hz c hc).2.2)
    rcases h1 with ⟨a, cap, rfl, rfl, hac⟩ | ⟨b, off, cap, rfl, hrow, h0⟩
    · exact jsonc_none a cap hac n w hU hE hT HG
    · exact jsonc_small V b off cap n hn w hrow h0 s2 s1 hU hE hT HG
end Go.Proofs.YtglhanblbojkhaaGreatDoor
