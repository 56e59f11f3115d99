/- Walks of this proof, several texts joined into one: Cs, Lq, Lf. -/
import Derived.Test.YtglhanblbojkhaaGreatDoorCr
import Derived.Laws.StructEq
import Derived.Test.YtglhanblbojkhaaGreatDoorTv
import Derived.Deep.QuietTactic
import Derived.Test.YtglhanblbojkhaaGreatDoorLp
import Derived.Test.YtglhanblbojkhaaGreatDoorTx
import Derived.Test.YtglhanblbojkhaaGreatDoorShelf
import Derived.Test.YtglhanblbojkhaaGreatDoorTc
set_option linter.unusedSimpArgs false
set_option linter.unusedVariables false
namespace Go.Proofs.YtglhanblbojkhaaGreatDoor
open Go.RowKit
/-- Are cells more than a statement goes through? -/
def greatV (V : List Cel) (most : Nat) : Bool := (V.take most).any (fun c => decide (300 < c.name.length) || decide (3000 < c.text.length)) || decide (most < V.length)
set_option maxRecDepth 100000 in
set_option maxHeartbeats 1000000 in
theorem rgreat03_row (V : List Cel) (most b off cap : Nat) (hl : V.length ≤ 9223372036854775807) (hm : most ≤ 100000) (w : World) (hr : CelRow b off V w) (hsz : ∀ c ∈ V, c.name.length ≤ 9223372036854775807 ∧ c.text.length ≤ 9223372036854775807) :
    Calls Tryz.prog 14 #[.slice (some ⟨b, off, none⟩) V.length cap, .int .i64 (most : Int)] w fun e w' => e = .returned (.bool (greatV V most)) ∧ w = w' := by
  have HT := Lib.hid hr
  have HZ := Lib.hid hsz
  obtain ⟨r, hr2⟩ : ∃ r, greatV V most = r := ⟨_, rfl⟩
  have HR : Hid ((((V.drop 0).take (most - 0)).any (fun c => decide (300 < c.name.length) || decide (3000 < c.text.length)) || decide (most < V.length)) = r) := Lib.hid hr2
  rw [hr2]
  clear hr hr2 hsz
  go_enter Tryz.func14, Tryz.ntmps14
  go_wp2_with fail
  go_loop [5] (fun i => ∃ k : Nat, k ≤ V.length ∧ k ≤ most ∧ i = .int .i64 k ∧ Hid ((((V.drop k).take (most - k)).any (fun c => decide (300 < c.name.length) || decide (3000 < c.text.length)) || decide (most < V.length)) = r)) (fun i => V.length - (intOf i).toNat)
  case atStart => exact ⟨0, Nat.zero_le _, Nat.zero_le _, rfl, HR⟩
  case round =>
    obtain ⟨k, hk, hkm, rfl, HS⟩ := hrel
    by_cases hlt : k < V.length ∧ k < most
    · obtain ⟨hlt, hltm⟩ := hlt
      obtain ⟨_, c1, c2, _⟩ := HT.out k hlt
      obtain ⟨z1, z2⟩ := HZ.out V[k] (List.getElem_mem _)
      have hstep := HS.out
      rw [List.drop_eq_getElem_cons hlt, show most - k = (most - (k + 1)) + 1 from by omega, List.take_succ_cons, List.any_cons] at hstep
      have hx : (⟨V[k].name.toArray⟩ : ByteArray).size = V[k].name.length := by show V[k].name.toArray.size = _; simp
      have hy : (⟨V[k].text.toArray⟩ : ByteArray).size = V[k].text.length := by show V[k].text.toArray.size = _; simp
      rw [← hx] at hstep z1
      rw [← hy] at hstep z2
      clear hx hy
      generalize (⟨V[k].name.toArray⟩ : ByteArray) = x at *
      generalize (⟨V[k].text.toArray⟩ : ByteArray) = y at *
      by_cases hbig : 300 < x.size ∨ 3000 < y.size
      · have HF : Hid (true = r) := Lib.hid (by
          rw [← hstep]
          rcases hbig with h | h <;> simp [h])
        have hbig2 := hbig
        clear hstep HS
        rcases hbig with h | h
        · clear hbig2
          go_wp2_with fail
          go_ret
          exact ⟨ret_b HF.out, rfl⟩
        · clear hbig2
          go_wp2_with fail
          all_goals
            go_ret
            exact ⟨ret_b HF.out, rfl⟩
      · have h1 : x.size ≤ 300 := by omega
        have h2 : y.size ≤ 3000 := by omega
        have e1 : decide (300 < x.size) = false := decide_eq_false (by omega)
        have e2 : decide (3000 < y.size) = false := decide_eq_false (by omega)
        rw [e1, e2, Bool.or_false, Bool.false_or] at hstep
        have HF := Lib.hid hstep
        clear hstep HS hbig
        go_wp2_with fail
        go_round
        case rel => exact ⟨k + 1, by omega, by omega, by go_num, HF⟩
        case measure => simp [intOf]; omega
    · have HF : Hid (decide (most < V.length) = r) := Lib.hid (by
        have := HS.out
        by_cases h : k < V.length
        · rw [show most - k = 0 from by omega, List.take_zero] at this
          simpa using this
        · rw [List.drop_of_length_le (by omega), List.take_nil] at this
          simpa using this)
      clear HS
      by_cases h : k < V.length
      · have h2 : ¬ k < most := by omega
        clear hlt
        go_wp2_with fail
        go_ret
        exact ⟨ret_b HF.out, rfl⟩
      · clear hlt
        go_wp2_with fail
        go_ret
        exact ⟨ret_b HF.out, rfl⟩
set_option maxRecDepth 100000 in
theorem rgreat03_none (a : Option Addr) (cap most : Nat) (hm : most ≤ 100000) (w : World) :
    Calls Tryz.prog 14 #[.slice a 0 cap, .int .i64 (most : Int)] w fun e w' => e = .returned (.bool (greatV [] most)) ∧ w = w' := by
  have hr : Hid (greatV [] most = false) := Lib.hid (by unfold greatV; simp)
  go_enter Tryz.func14, Tryz.ntmps14
  go_wp2_with fail
  refine wp_loop_rounds 1 ?_; rw [rounds_succ]
  go_wp2_with fail
  go_ret
  exact ⟨ret_b hr.out.symm, rfl⟩
theorem rgreat03_any (V : List Cel) (v : Value) (most : Nat) (hl : V.length ≤ maxLen) (hm : most ≤ 100000) (w : World) (hv : CelSl v V w) (hsz : ∀ c ∈ V, c.name.length ≤ maxLen ∧ c.text.length ≤ maxLen) :
    Calls Tryz.prog 14 #[v, .int .i64 (most : Int)] w fun e w' => e = .returned (.bool (greatV V most)) ∧ w = w' := by
  unfold maxLen at *
  rcases hv with ⟨a, c, rfl, rfl, _⟩ | ⟨b, off, cap, rfl, hrow, hpos⟩
  · exact rgreat03_none a c most hm w
  · exact rgreat03_row V most b off cap hl hm w hrow hsz
def eqC (a c : Cel) : Bool := a.kind == c.kind && (a.name == c.name && (a.text == c.text && (a.num == c.num && a.many == c.many)))
def sameV : List Cel → List Cel → Bool
  | [], [] => true
  | a :: r, c :: s => eqC a c && sameV r s
  | _, _ => false
theorem sameV_len : ∀ (L M : List Cel), L.length ≠ M.length → sameV L M = false
  | [], [], h => absurd rfl h
  | [], _ :: _, _ => rfl
  | _ :: _, [], _ => rfl
  | t :: r, u :: s, h => by
    rw [sameV, sameV_len r s (by simpa using h), Bool.and_false]
theorem eqC_iff (a c : Cel) : eqC a c = true ↔ a = c := by
  obtain ⟨k, n, t, i, m⟩ := a
  obtain ⟨k', n', t', i', m'⟩ := c
  unfold eqC
  simp
theorem sameV_iff : ∀ (L M : List Cel), sameV L M = true ↔ L = M
  | [], [] => by simp [sameV]
  | [], _ :: _ => by simp [sameV]
  | _ :: _, [] => by simp [sameV]
  | t :: r, u :: s => by
    rw [sameV, Bool.and_eq_true, eqC_iff, sameV_iff r s]; simp
theorem sameV_drop (L M : List Cel) (k : Nat) (h : k < L.length) (h' : k < M.length) : sameV (L.drop k) (M.drop k) = (eqC L[k] M[k] && sameV (L.drop (k + 1)) (M.drop (k + 1))) := by
  rw [List.drop_eq_getElem_cons h, List.drop_eq_getElem_cons h', sameV]
theorem eqC_no (a c : Cel) (h : ¬ (a.kind.toNat : Int) = (c.kind.toNat : Int) ∨ ¬ a.name = c.name ∨ ¬ a.text = c.text ∨ ¬ a.num = c.num ∨ ¬ a.many = c.many) : eqC a c = false := by
  rw [Bool.eq_false_iff]
  intro e
  have := (eqC_iff a c).1 e
  subst this
  simp at h
set_option maxRecDepth 100000 in
theorem rsame03_len (v1 v2 : Option Addr) (c1 c2 : Nat) (n m : Nat) (hn : n ≤ 100000) (hm : m ≤ 100000) (hne : n ≠ m) (w : World) :
    Calls Tryz.prog 12 #[.slice v1 n c1, .slice v2 m c2] w fun e w' => e = .returned (.bool false) ∧ Below w.heap.size w w' := by
  have h1 : ((n : Int) != (m : Int)) = true := by rw [bne_iff_ne]; omega
  clear hne
  go_enter Tryz.func12, Tryz.ntmps12
  go_wp2_with fail
  go_ret
  exact ⟨rfl, Below.refl _ _⟩
set_option maxRecDepth 100000 in
set_option maxHeartbeats 1000000 in
theorem rsame03_row (L M : List Cel) (b1 o1 c1 b2 o2 c2 : Nat) (hl : L.length ≤ 100000) (hlm : L.length = M.length) (w : World) (h1 : CelRow b1 o1 L w) (h2 : CelRow b2 o2 M w) :
    Calls Tryz.prog 12 #[.slice (some ⟨b1, o1, none⟩) L.length c1, .slice (some ⟨b2, o2, none⟩) L.length c2] w fun e w' => e = .returned (.bool (sameV L M)) ∧ Below w.heap.size w w' := by
  have H1 := Lib.hid h1
  have H2 := Lib.hid h2
  have HM := Lib.hid hlm
  obtain ⟨r, hr⟩ : ∃ r, sameV L M = r := ⟨_, rfl⟩
  have HR : Hid (sameV (L.drop 0) (M.drop 0) = r) := Lib.hid hr
  rw [hr]
  clear hr h1 h2 hlm
  have hnn : ((L.length : Int) != (L.length : Int)) = false := by rw [bne_eq_false_iff_eq]
  have hg : Tryz.prog.eqGuardType Tryz.prog.depth 41 = false := by kernel_rfl
  go_enter Tryz.func12, Tryz.ntmps12
  go_wp2_with fail
  go_loopw [5] (fun i wr => ∃ k : Nat, k ≤ L.length ∧ i = .int .i64 k ∧ Hid (sameV (L.drop k) (M.drop k) = r) ∧ Hid (Below w.heap.size w wr)) (fun i wr => L.length - (intOf i).toNat)
  case atStart => exact ⟨0, Nat.zero_le _, rfl, HR, Lib.hid (Below.refl _ _)⟩
  case round =>
    rename World => wr
    obtain ⟨k, hk, rfl, HS, HB⟩ := hrel
    by_cases hlt : k < L.length
    · have hltm : k < M.length := by rw [← HM.out]; exact hlt
      obtain ⟨a0, a1, a2, a3, a4⟩ := (H1.out.below' HB.out) k hlt
      obtain ⟨d0, d1, d2, d3, d4⟩ := (H2.out.below' HB.out) k hltm
      have hstep := HS.out
      rw [sameV_drop _ _ k hlt hltm] at hstep
      have HNO : Hid ((¬ (L[k].kind.toNat : Int) = (M[k].kind.toNat : Int) ∨ ¬ L[k].name = M[k].name ∨ ¬ L[k].text = M[k].text ∨ ¬ L[k].num = M[k].num ∨ ¬ L[k].many = M[k].many) → false = r) := Lib.hid fun h => by rw [← hstep, eqC_no _ _ h]; rfl
      have HYES : Hid ((L[k].kind.toNat : Int) = (M[k].kind.toNat : Int) → L[k].name = M[k].name → L[k].text = M[k].text → L[k].num = M[k].num → L[k].many = M[k].many → sameV (L.drop (k + 1)) (M.drop (k + 1)) = r) := Lib.hid fun h1 h2 h3 h4 h5 => by
        have : eqC L[k] M[k] = true := by
          unfold eqC
          rw [beq_iff_eq.2 (UInt8.toNat_inj.1 (by omega)), beq_iff_eq.2 h2, beq_iff_eq.2 h3, beq_iff_eq.2 h4, beq_iff_eq.2 h5]; rfl
        rw [← hstep, this, Bool.true_and]
      have hx1 : (⟨L[k].name.toArray⟩ : ByteArray).toList = L[k].name := by rw [ByteArray.toList_eq]
      have hx2 : (⟨M[k].name.toArray⟩ : ByteArray).toList = M[k].name := by rw [ByteArray.toList_eq]
      have hy1 : (⟨L[k].text.toArray⟩ : ByteArray).toList = L[k].text := by rw [ByteArray.toList_eq]
      have hy2 : (⟨M[k].text.toArray⟩ : ByteArray).toList = M[k].text := by rw [ByteArray.toList_eq]
      rw [← hx1, ← hx2, ← hy1, ← hy2] at HNO HYES
      clear hstep hx1 hx2 hy1 hy2
      generalize (L[k].kind.toNat : Int) = ka at *
      generalize (M[k].kind.toNat : Int) = kb at *
      generalize L[k].num = na at *
      generalize M[k].num = nb at *
      generalize L[k].many = ma at *
      generalize M[k].many = mb at *
      generalize (⟨L[k].name.toArray⟩ : ByteArray) = x at *
      generalize (⟨M[k].name.toArray⟩ : ByteArray) = x' at *
      generalize (⟨L[k].text.toArray⟩ : ByteArray) = y at *
      generalize (⟨M[k].text.toArray⟩ : ByteArray) = y' at *
      by_cases e0 : ka = kb
      · by_cases e1 : x.toList = x'.toList
        · by_cases e2 : y.toList = y'.toList
          · by_cases e3 : na = nb
            · by_cases e4 : ma = mb
              · have HEQ := HYES.out e0 e1 e2 e3 e4
                subst e0 e3 e4
                clear HYES HNO
                have HF := Lib.hid HEQ
                clear HEQ HS
                go_wp2_with fail
                go_quiet (fail)
                go_wp2_with fail
                go_roundw
                case rel => exact ⟨k + 1, by omega, by go_num, HF, Lib.hid (below_dN _ HB.out)⟩
                case measure => simp [intOf]; omega
              · have HN := Lib.hid (HNO.out (Or.inr (Or.inr (Or.inr (Or.inr e4)))))
                subst e0 e3
                clear HYES HNO
                clear HS
                go_wp2_with fail
                go_quiet (fail)
                go_wp2_with fail
                go_ret
                exact ⟨ret_b HN.out, below_dN _ HB.out⟩
            · have HN := Lib.hid (HNO.out (Or.inr (Or.inr (Or.inr (Or.inl e3)))))
              subst e0
              clear HYES HNO
              clear HS
              go_wp2_with fail
              go_quiet (fail)
              go_wp2_with fail
              go_ret
              exact ⟨ret_b HN.out, below_dN _ HB.out⟩
          · have HN := Lib.hid (HNO.out (Or.inr (Or.inr (Or.inl e2))))
            subst e0
            clear HYES HNO
            clear HS
            go_wp2_with fail
            go_quiet (fail)
            go_wp2_with fail
            go_ret
            exact ⟨ret_b HN.out, below_dN _ HB.out⟩
        · have HN := Lib.hid (HNO.out (Or.inr (Or.inl e1)))
          subst e0
          clear HYES HNO
          clear HS
          go_wp2_with fail
          go_quiet (fail)
          go_wp2_with fail
          go_ret
          exact ⟨ret_b HN.out, below_dN _ HB.out⟩
      · have HN := Lib.hid (HNO.out (Or.inl e0))
        clear HYES HNO
        clear HS
        go_wp2_with fail
        go_quiet (fail)
        go_wp2_with fail
        go_ret
        exact ⟨ret_b HN.out, below_dN _ HB.out⟩
    · have HF : Hid (true = r) := Lib.hid (by
        have hm : M.length = L.length := HM.out.symm
        rw [← HS.out, List.drop_of_length_le (by omega), List.drop_of_length_le (by omega)]; rfl)
      clear HS
      go_wp2_with fail
      go_ret
      exact ⟨ret_b HF.out, HB.out⟩
set_option maxRecDepth 100000 in
theorem rsame03_none (a v : Option Addr) (c1 c2 : Nat) (w : World) :
    Calls Tryz.prog 12 #[.slice a 0 c1, .slice v 0 c2] w fun e w' => e = .returned (.bool true) ∧ Below w.heap.size w w' := by
  go_enter Tryz.func12, Tryz.ntmps12
  go_wp2_with fail
  refine wp_loop_rounds 1 ?_; rw [rounds_succ]
  go_wp2_with fail
  go_ret
  exact ⟨rfl, Below.refl _ _⟩
theorem rsame03_any (L M : List Cel) (u v : Value) (hl : L.length ≤ 100000) (hm : M.length ≤ 100000) (w : World) (h1 : CelSl u L w) (h2 : CelSl v M w) :
    Calls Tryz.prog 12 #[u, v] w fun e w' => e = .returned (.bool (sameV L M)) ∧ Below w.heap.size w w' := by
  by_cases hlm : L.length = M.length
  · rcases h1 with ⟨a1, c1, rfl, rfl, _⟩ | ⟨b1, o1, c1, rfl, h1, p1⟩
    · obtain rfl : M = [] := List.eq_nil_of_length_eq_zero hlm.symm
      rcases h2 with ⟨a2, c2, rfl, _, _⟩ | ⟨b2, o2, c2, rfl, h2, p2⟩
      · exact rsame03_none a1 a2 c1 c2 w
      · exact rsame03_none a1 _ c1 c2 w
    · rcases h2 with ⟨a2, c2, rfl, rfl, _⟩ | ⟨b2, o2, c2, rfl, h2, p2⟩
      · obtain rfl : L = [] := List.eq_nil_of_length_eq_zero hlm
        exact rsame03_none _ a2 c1 c2 w
      · rw [← hlm]
        exact rsame03_row L M b1 o1 c1 b2 o2 c2 hl hlm w h1 h2
  · rw [sameV_len _ _ hlm]
    rcases h1 with ⟨a1, c1, rfl, rfl, _⟩ | ⟨b1, o1, c1, rfl, h1, p1⟩
    · rcases h2 with ⟨a2, c2, rfl, rfl, _⟩ | ⟨b2, o2, c2, rfl, h2, p2⟩
      · exact absurd rfl hlm
      · exact rsame03_len a1 _ _ _ 0 _ (by omega) hm hlm w
    · rcases h2 with ⟨a2, c2, rfl, rfl, _⟩ | ⟨b2, o2, c2, rfl, h2, p2⟩
      · exact rsame03_len _ a2 _ _ _ 0 hl (by omega) hlm w
      · exact rsame03_len _ _ _ _ _ _ hl hm hlm w
end Go.Proofs.YtglhanblbojkhaaGreatDoor

set_option linter.unusedSimpArgs false
set_option linter.unusedVariables false
namespace Go.Proofs.YtglhanblbojkhaaGreatDoor
open Go.RowKit Go.Lib
theorem all256 {f : UInt8 → Bool} (h : ∀ i : Fin 256, f (UInt8.ofNat i.val) = true) (c : UInt8) : f c = true := by
  have := h ⟨c.toNat, UInt8.toNat_lt c⟩
  simpa using this
theorem byte_cls (c : UInt8) : c = 34 ∨ c = 92 ∨ c = 8 ∨ c = 12 ∨ c = 10 ∨ c = 13 ∨ c = 9 ∨ c = 47 ∨ (c.toNat < 32 ∧ quoteC c = [92, 117, 48, 48, hexD (c.toNat / 16), hexD (c.toNat % 16)] ∧ c.toNat ≠ 8 ∧ c.toNat ≠ 9 ∧ c.toNat ≠ 10 ∧ c.toNat ≠ 12 ∧ c.toNat ≠ 13) ∨ (32 ≤ c.toNat ∧ quoteC c = [c] ∧ c.toNat ≠ 34 ∧ c.toNat ≠ 47 ∧ c.toNat ≠ 92) := by
  by_cases h34 : c = 34
  · simp [h34]
  by_cases h92 : c = 92
  · simp [h92]
  by_cases h8 : c = 8
  · simp [h8]
  by_cases h12 : c = 12
  · simp [h12]
  by_cases h10 : c = 10
  · simp [h10]
  by_cases h13 : c = 13
  · simp [h13]
  by_cases h9 : c = 9
  · simp [h9]
  by_cases h47 : c = 47
  · simp [h47]
  have g34 : c.toNat ≠ 34 := fun e => h34 (UInt8.toNat_inj.1 e)
  have g92 : c.toNat ≠ 92 := fun e => h92 (UInt8.toNat_inj.1 e)
  have g8 : c.toNat ≠ 8 := fun e => h8 (UInt8.toNat_inj.1 e)
  have g12 : c.toNat ≠ 12 := fun e => h12 (UInt8.toNat_inj.1 e)
  have g10 : c.toNat ≠ 10 := fun e => h10 (UInt8.toNat_inj.1 e)
  have g13 : c.toNat ≠ 13 := fun e => h13 (UInt8.toNat_inj.1 e)
  have g9 : c.toNat ≠ 9 := fun e => h9 (UInt8.toNat_inj.1 e)
  have g47 : c.toNat ≠ 47 := fun e => h47 (UInt8.toNat_inj.1 e)
  by_cases h : c.toNat < 32
  · right; right; right; right; right; right; right; right; left
    refine ⟨h, ?_, g8, g9, g10, g12, g13⟩
    unfold quoteC
    rw [if_neg (by simp [h34, h92]), if_neg h8, if_neg h9, if_neg h10, if_neg h12, if_neg h13, if_pos h]
  · right; right; right; right; right; right; right; right; right
    refine ⟨by omega, ?_, g34, g47, g92⟩
    unfold quoteC
    rw [if_neg (by simp [h34, h92]), if_neg h8, if_neg h9, if_neg h10, if_neg h12, if_neg h13, if_neg h]
theorem told_no (c : UInt8) (g8 : c.toNat ≠ 8) (g9 : c.toNat ≠ 9) (g10 : c.toNat ≠ 10) (g12 : c.toNat ≠ 12) (g13 : c.toNat ≠ 13) (g34 : c.toNat ≠ 34) (g47 : c.toNat ≠ 47) (g92 : c.toNat ≠ 92) : Lib.indexByte (⟨#[34, 92, 47, 8, 12, 10, 13, 9]⟩ : ByteArray).data.toList c = -1 := by
  have g := all256 (f := fun c => c.toNat == 8 || c.toNat == 9 || c.toNat == 10 || c.toNat == 12 || c.toNat == 13 || c.toNat == 34 || c.toNat == 47 || c.toNat == 92 || (Lib.indexByte (⟨#[34, 92, 47, 8, 12, 10, 13, 9]⟩ : ByteArray).data.toList c == -1)) (by decide +kernel) c
  simpa [g8, g9, g10, g12, g13, g34, g47, g92] using g
theorem and15 (n : Nat) (h : n < 256) : bits BinOp.and IntKind.u8 (n : Int) 15 = (n : Int) % 16 := by
  have g : ∀ i : Fin 256, bits BinOp.and IntKind.u8 (i.val : Int) 15 = (i.val : Int) % 16 := by decide +kernel
  exact g ⟨n, h⟩
theorem hexd_at (n : Nat) (h : n < (⟨#[48, 49, 50, 51, 52, 53, 54, 55, 56, 57, 97, 98, 99, 100, 101, 102]⟩ : ByteArray).size) : (⟨#[48, 49, 50, 51, 52, 53, 54, 55, 56, 57, 97, 98, 99, 100, 101, 102]⟩ : ByteArray)[n]'h = hexD n := by
  have g : ∀ i : Fin 16, (⟨#[48, 49, 50, 51, 52, 53, 54, 55, 56, 57, 97, 98, 99, 100, 101, 102]⟩ : ByteArray)[i.val]'i.isLt = hexD i.val := by decide +kernel
  exact g ⟨n, h⟩
set_option maxRecDepth 100000 in
set_option maxHeartbeats 8000000 in
theorem quote_any (s : ByteArray) (hs : s.size ≤ 100000) (w : World) :
    Calls Tryz.prog 28 #[.string s] w fun e w' => e = .returned (.string ⟨(quoteL s.data.toList).toArray⟩) ∧ Below w.heap.size w w' := by
  obtain ⟨r, hr⟩ : ∃ r, quoteL s.data.toList = r := ⟨_, rfl⟩
  have HR : Hid ([34] ++ ((s.data.toList.drop 0).flatMap quoteC ++ [34]) = r) := Lib.hid (by rw [List.drop_zero, ← hr]; unfold quoteL; simp)
  rw [hr]
  clear hr
  go_enter Tryz.func28, Tryz.ntmps28
  go_wp2_with fail
  go_loopg [3, 10] s.size (fun k u v wr => ∃ (j : Nat) (out : List UInt8) (ov : Value), ov = u ∧ v = .int .i64 j ∧ k + j = s.size ∧ out.length ≤ 6 * j + 1 ∧ Hid (Own w.heap.size ov out wr) ∧ Hid (out ++ ((s.data.toList.drop j).flatMap quoteC ++ [34]) = r) ∧ Below w.heap.size w wr)
  case atStart => exact ⟨0, [34], _, rfl, rfl, by omega, by simp, Lib.hid (Own.fresh rfl rfl (by decide) w), HR, (Below.refl _ _).alloc (Nat.le_refl _) _⟩
  case round =>
    rename World => wo
    obtain ⟨j, out, ov, rfl, rfl, hk, hout, HO, HJ, hbw⟩ := hrel
    have hsz := hbw.size
    by_cases hlt : j < s.size
    · have hd := drop_at s j hlt
      have HJ1 : (out ++ quoteC s[j]) ++ ((s.data.toList.drop (j + 1)).flatMap quoteC ++ [34]) = r := by
        have := HJ.out
        rw [hd, List.flatMap_cons] at this
        simpa [List.append_assoc] using this
      obtain ⟨g, rfl⟩ : ∃ g, gk = g + 1 := ⟨gk - 1, by omega⟩
      have hc8 : s[j].toNat < 256 := UInt8.toNat_lt _
      have hcls := byte_cls s[j]
      clear hd HJ
      rcases hcls with hx | hx | hx | hx | hx | hx | hx | hx | ⟨hx, hq, g8, g9, g10, g12, g13⟩ | ⟨hx, hq, g34, g47, g92⟩
      · have HJ2 : Hid ((out ++ [92, 34]) ++ ((s.data.toList.drop (j + 1)).flatMap quoteC ++ [34]) = r) := Lib.hid (by rw [hx] at HJ1; exact HJ1)
        have hn : s[j].toNat = 34 := by rw [hx]; rfl
        clear HJ1 hx hc8
        have HI : Hid (∀ w, Calls Tryz.prog 39 #[.string ⟨#[34, 92, 47, 8, 12, 10, 13, 9]⟩, .int .u8 34] w fun e w' => e = .returned (.int .i64 0) ∧ w = w') := Lib.hid (fun w => (Tryz.strings_IndexByte ⟨#[34, 92, 47, 8, 12, 10, 13, 9]⟩ 34 w).mono fun e w' ⟨h1, h2⟩ => ⟨h1, h2.symm⟩)
        go_wp2_with fail
        refine (HI.out _).mono ?_; rintro e w1 ⟨rfl, rfl⟩
        go_wp2_with (at_builtin; refine wpList_push rfl _ _ rfl w.heap.size ov out rfl (HO.out.alloc _) ⟨wo.heap.size, 0, none⟩ 2 [92, 34] rfl (new_bytes wo _ [92, 34]) ?c1 ?c2 ?_)
        case c1 => first | omega | (simp; omega)
        case c2 => first | omega | (simp; omega)
        intro v' w3 hown' hgrow
        have hbw3 : Below w.heap.size w w3 := (hbw.alloc hsz _).grown hgrow (by simp; omega) HO.out.lt
        have HO3 := Lib.hid hown'
        clear hown' hgrow HO
        go_wp2_with fail
        go_roundg g
        case measure => omega
        case rel => exact ⟨j + 1, out ++ [92, 34], _, rfl, by go_num, by omega, by simp; omega, HO3, HJ2, hbw3⟩
      · have HJ2 : Hid ((out ++ [92, 92]) ++ ((s.data.toList.drop (j + 1)).flatMap quoteC ++ [34]) = r) := Lib.hid (by rw [hx] at HJ1; exact HJ1)
        have hn : s[j].toNat = 92 := by rw [hx]; rfl
        clear HJ1 hx hc8
        have HI : Hid (∀ w, Calls Tryz.prog 39 #[.string ⟨#[34, 92, 47, 8, 12, 10, 13, 9]⟩, .int .u8 92] w fun e w' => e = .returned (.int .i64 1) ∧ w = w') := Lib.hid (fun w => (Tryz.strings_IndexByte ⟨#[34, 92, 47, 8, 12, 10, 13, 9]⟩ 92 w).mono fun e w' ⟨h1, h2⟩ => ⟨h1, h2.symm⟩)
        go_wp2_with fail
        refine (HI.out _).mono ?_; rintro e w1 ⟨rfl, rfl⟩
        go_wp2_with (at_builtin; refine wpList_push rfl _ _ rfl w.heap.size ov out rfl (HO.out.alloc _) ⟨wo.heap.size, 0, none⟩ 2 [92, 92] rfl (new_bytes wo _ [92, 92]) ?c1 ?c2 ?_)
        case c1 => first | omega | (simp; omega)
        case c2 => first | omega | (simp; omega)
        intro v' w3 hown' hgrow
        have hbw3 : Below w.heap.size w w3 := (hbw.alloc hsz _).grown hgrow (by simp; omega) HO.out.lt
        have HO3 := Lib.hid hown'
        clear hown' hgrow HO
        go_wp2_with fail
        go_roundg g
        case measure => omega
        case rel => exact ⟨j + 1, out ++ [92, 92], _, rfl, by go_num, by omega, by simp; omega, HO3, HJ2, hbw3⟩
      · have HJ2 : Hid ((out ++ [92, 98]) ++ ((s.data.toList.drop (j + 1)).flatMap quoteC ++ [34]) = r) := Lib.hid (by rw [hx] at HJ1; exact HJ1)
        have hn : s[j].toNat = 8 := by rw [hx]; rfl
        clear HJ1 hx hc8
        have HI : Hid (∀ w, Calls Tryz.prog 39 #[.string ⟨#[34, 92, 47, 8, 12, 10, 13, 9]⟩, .int .u8 8] w fun e w' => e = .returned (.int .i64 3) ∧ w = w') := Lib.hid (fun w => (Tryz.strings_IndexByte ⟨#[34, 92, 47, 8, 12, 10, 13, 9]⟩ 8 w).mono fun e w' ⟨h1, h2⟩ => ⟨h1, h2.symm⟩)
        go_wp2_with fail
        refine (HI.out _).mono ?_; rintro e w1 ⟨rfl, rfl⟩
        go_wp2_with (at_builtin; refine wpList_push rfl _ _ rfl w.heap.size ov out rfl (HO.out.alloc _) ⟨wo.heap.size, 0, none⟩ 2 [92, 98] rfl (new_bytes wo _ [92, 98]) ?c1 ?c2 ?_)
        case c1 => first | omega | (simp; omega)
        case c2 => first | omega | (simp; omega)
        intro v' w3 hown' hgrow
        have hbw3 : Below w.heap.size w w3 := (hbw.alloc hsz _).grown hgrow (by simp; omega) HO.out.lt
        have HO3 := Lib.hid hown'
        clear hown' hgrow HO
        go_wp2_with fail
        go_roundg g
        case measure => omega
        case rel => exact ⟨j + 1, out ++ [92, 98], _, rfl, by go_num, by omega, by simp; omega, HO3, HJ2, hbw3⟩
      · have HJ2 : Hid ((out ++ [92, 102]) ++ ((s.data.toList.drop (j + 1)).flatMap quoteC ++ [34]) = r) := Lib.hid (by rw [hx] at HJ1; exact HJ1)
        have hn : s[j].toNat = 12 := by rw [hx]; rfl
        clear HJ1 hx hc8
        have HI : Hid (∀ w, Calls Tryz.prog 39 #[.string ⟨#[34, 92, 47, 8, 12, 10, 13, 9]⟩, .int .u8 12] w fun e w' => e = .returned (.int .i64 4) ∧ w = w') := Lib.hid (fun w => (Tryz.strings_IndexByte ⟨#[34, 92, 47, 8, 12, 10, 13, 9]⟩ 12 w).mono fun e w' ⟨h1, h2⟩ => ⟨h1, h2.symm⟩)
        go_wp2_with fail
        refine (HI.out _).mono ?_; rintro e w1 ⟨rfl, rfl⟩
        go_wp2_with (at_builtin; refine wpList_push rfl _ _ rfl w.heap.size ov out rfl (HO.out.alloc _) ⟨wo.heap.size, 0, none⟩ 2 [92, 102] rfl (new_bytes wo _ [92, 102]) ?c1 ?c2 ?_)
        case c1 => first | omega | (simp; omega)
        case c2 => first | omega | (simp; omega)
        intro v' w3 hown' hgrow
        have hbw3 : Below w.heap.size w w3 := (hbw.alloc hsz _).grown hgrow (by simp; omega) HO.out.lt
        have HO3 := Lib.hid hown'
        clear hown' hgrow HO
        go_wp2_with fail
        go_roundg g
        case measure => omega
        case rel => exact ⟨j + 1, out ++ [92, 102], _, rfl, by go_num, by omega, by simp; omega, HO3, HJ2, hbw3⟩
      · have HJ2 : Hid ((out ++ [92, 110]) ++ ((s.data.toList.drop (j + 1)).flatMap quoteC ++ [34]) = r) := Lib.hid (by rw [hx] at HJ1; exact HJ1)
        have hn : s[j].toNat = 10 := by rw [hx]; rfl
        clear HJ1 hx hc8
        have HI : Hid (∀ w, Calls Tryz.prog 39 #[.string ⟨#[34, 92, 47, 8, 12, 10, 13, 9]⟩, .int .u8 10] w fun e w' => e = .returned (.int .i64 5) ∧ w = w') := Lib.hid (fun w => (Tryz.strings_IndexByte ⟨#[34, 92, 47, 8, 12, 10, 13, 9]⟩ 10 w).mono fun e w' ⟨h1, h2⟩ => ⟨h1, h2.symm⟩)
        go_wp2_with fail
        refine (HI.out _).mono ?_; rintro e w1 ⟨rfl, rfl⟩
        go_wp2_with (at_builtin; refine wpList_push rfl _ _ rfl w.heap.size ov out rfl (HO.out.alloc _) ⟨wo.heap.size, 0, none⟩ 2 [92, 110] rfl (new_bytes wo _ [92, 110]) ?c1 ?c2 ?_)
        case c1 => first | omega | (simp; omega)
        case c2 => first | omega | (simp; omega)
        intro v' w3 hown' hgrow
        have hbw3 : Below w.heap.size w w3 := (hbw.alloc hsz _).grown hgrow (by simp; omega) HO.out.lt
        have HO3 := Lib.hid hown'
        clear hown' hgrow HO
        go_wp2_with fail
        go_roundg g
        case measure => omega
        case rel => exact ⟨j + 1, out ++ [92, 110], _, rfl, by go_num, by omega, by simp; omega, HO3, HJ2, hbw3⟩
      · have HJ2 : Hid ((out ++ [92, 114]) ++ ((s.data.toList.drop (j + 1)).flatMap quoteC ++ [34]) = r) := Lib.hid (by rw [hx] at HJ1; exact HJ1)
        have hn : s[j].toNat = 13 := by rw [hx]; rfl
        clear HJ1 hx hc8
        have HI : Hid (∀ w, Calls Tryz.prog 39 #[.string ⟨#[34, 92, 47, 8, 12, 10, 13, 9]⟩, .int .u8 13] w fun e w' => e = .returned (.int .i64 6) ∧ w = w') := Lib.hid (fun w => (Tryz.strings_IndexByte ⟨#[34, 92, 47, 8, 12, 10, 13, 9]⟩ 13 w).mono fun e w' ⟨h1, h2⟩ => ⟨h1, h2.symm⟩)
        go_wp2_with fail
        refine (HI.out _).mono ?_; rintro e w1 ⟨rfl, rfl⟩
        go_wp2_with (at_builtin; refine wpList_push rfl _ _ rfl w.heap.size ov out rfl (HO.out.alloc _) ⟨wo.heap.size, 0, none⟩ 2 [92, 114] rfl (new_bytes wo _ [92, 114]) ?c1 ?c2 ?_)
        case c1 => first | omega | (simp; omega)
        case c2 => first | omega | (simp; omega)
        intro v' w3 hown' hgrow
        have hbw3 : Below w.heap.size w w3 := (hbw.alloc hsz _).grown hgrow (by simp; omega) HO.out.lt
        have HO3 := Lib.hid hown'
        clear hown' hgrow HO
        go_wp2_with fail
        go_roundg g
        case measure => omega
        case rel => exact ⟨j + 1, out ++ [92, 114], _, rfl, by go_num, by omega, by simp; omega, HO3, HJ2, hbw3⟩
      · have HJ2 : Hid ((out ++ [92, 116]) ++ ((s.data.toList.drop (j + 1)).flatMap quoteC ++ [34]) = r) := Lib.hid (by rw [hx] at HJ1; exact HJ1)
        have hn : s[j].toNat = 9 := by rw [hx]; rfl
        clear HJ1 hx hc8
        have HI : Hid (∀ w, Calls Tryz.prog 39 #[.string ⟨#[34, 92, 47, 8, 12, 10, 13, 9]⟩, .int .u8 9] w fun e w' => e = .returned (.int .i64 7) ∧ w = w') := Lib.hid (fun w => (Tryz.strings_IndexByte ⟨#[34, 92, 47, 8, 12, 10, 13, 9]⟩ 9 w).mono fun e w' ⟨h1, h2⟩ => ⟨h1, h2.symm⟩)
        go_wp2_with fail
        refine (HI.out _).mono ?_; rintro e w1 ⟨rfl, rfl⟩
        go_wp2_with (at_builtin; refine wpList_push rfl _ _ rfl w.heap.size ov out rfl (HO.out.alloc _) ⟨wo.heap.size, 0, none⟩ 2 [92, 116] rfl (new_bytes wo _ [92, 116]) ?c1 ?c2 ?_)
        case c1 => first | omega | (simp; omega)
        case c2 => first | omega | (simp; omega)
        intro v' w3 hown' hgrow
        have hbw3 : Below w.heap.size w w3 := (hbw.alloc hsz _).grown hgrow (by simp; omega) HO.out.lt
        have HO3 := Lib.hid hown'
        clear hown' hgrow HO
        go_wp2_with fail
        go_roundg g
        case measure => omega
        case rel => exact ⟨j + 1, out ++ [92, 116], _, rfl, by go_num, by omega, by simp; omega, HO3, HJ2, hbw3⟩
      · have HJ2 : Hid ((out ++ [47]) ++ ((s.data.toList.drop (j + 1)).flatMap quoteC ++ [34]) = r) := Lib.hid (by rw [hx] at HJ1; exact HJ1)
        have hn : s[j].toNat = 47 := by rw [hx]; rfl
        clear HJ1 hx hc8
        have HI : Hid (∀ w, Calls Tryz.prog 39 #[.string ⟨#[34, 92, 47, 8, 12, 10, 13, 9]⟩, .int .u8 47] w fun e w' => e = .returned (.int .i64 2) ∧ w = w') := Lib.hid (fun w => (Tryz.strings_IndexByte ⟨#[34, 92, 47, 8, 12, 10, 13, 9]⟩ 47 w).mono fun e w' ⟨h1, h2⟩ => ⟨h1, h2.symm⟩)
        go_wp2_with fail
        refine (HI.out _).mono ?_; rintro e w1 ⟨rfl, rfl⟩
        go_wp2_with (at_builtin; refine wpList_push rfl _ _ rfl w.heap.size ov out rfl (HO.out.alloc _) ⟨wo.heap.size, 0, none⟩ 1 [47] rfl (new_bytes wo _ [47]) ?c1 ?c2 ?_)
        case c1 => first | omega | (simp; omega)
        case c2 => first | omega | (simp; omega)
        intro v' w3 hown' hgrow
        have hbw3 : Below w.heap.size w w3 := (hbw.alloc hsz _).grown hgrow (by simp; omega) HO.out.lt
        have HO3 := Lib.hid hown'
        clear hown' hgrow HO
        go_wp2_with fail
        go_roundg g
        case measure => omega
        case rel => exact ⟨j + 1, out ++ [47], _, rfl, by go_num, by omega, by simp; omega, HO3, HJ2, hbw3⟩
      · have HJ2 : Hid ((out ++ [92, 117, 48, 48, hexD (s[j].toNat / 16), hexD (s[j].toNat % 16)]) ++ ((s.data.toList.drop (j + 1)).flatMap quoteC ++ [34]) = r) := Lib.hid (by rw [hq] at HJ1; exact HJ1)
        have HI : Hid (∀ w, Calls Tryz.prog 39 #[.string ⟨#[34, 92, 47, 8, 12, 10, 13, 9]⟩, .int .u8 (s[j].toNat : Int)] w fun e w' => e = .returned (.int .i64 (-1)) ∧ w = w') := Lib.hid (fun w => by
          have := Tryz.strings_IndexByte ⟨#[34, 92, 47, 8, 12, 10, 13, 9]⟩ (s[j].toNat : Int) w
          rw [show ((s[j].toNat : Int)).toNat.toUInt8 = s[j] by simp, told_no s[j] g8 g9 g10 g12 g13 (by omega) (by omega) (by omega)] at this
          exact this.mono fun e w' ⟨h1, h2⟩ => ⟨h1, h2.symm⟩)
        have n47 : ((s[j].toNat : Int) == 47) = false := by rw [beq_eq_false_iff_ne]; omega
        have m47 : ¬ (s[j].toNat : Int) = 47 := by omega
        have hx2 : (s[j].toNat : Int) < 32 := by omega
        have hx3 : ¬ (32 : Int) ≤ (s[j].toNat : Int) := by omega
        obtain ⟨a, ea⟩ : ∃ a, s[j].toNat / 16 = a := ⟨_, rfl⟩
        obtain ⟨b, eb⟩ : ∃ b, s[j].toNat % 16 = b := ⟨_, rfl⟩
        have la : a < 16 := by omega
        have lb : b < 16 := by omega
        have fa : (s[j].toNat : Int) / 16 = a := by omega
        have fb : (s[j].toNat : Int) % 16 = b := by omega
        have fc : (s[j].toNat : Int).tmod 16 = b := by rw [Int.tmod_eq_emod_of_nonneg (by omega)]; exact fb
        have fd : (s[j].toNat : Int).tdiv 16 = a := by rw [Int.tdiv_eq_ediv_of_nonneg (by omega)]; exact fa
        have fe : bits BinOp.and IntKind.u8 (s[j].toNat : Int) 15 = b := by rw [and15 _ (by omega)]; exact fb
        have la2 : (a : Int) < 16 := by omega
        have lb2 : (b : Int) < 16 := by omega
        have la3 : (0 : Int) ≤ a := by omega
        have lb3 : (0 : Int) ≤ b := by omega
        have va : IntKind.u8.wrap (a : Int) = a := IntWalk.u8_in _ (by omega)
        have vb : IntKind.u8.wrap (b : Int) = b := IntWalk.u8_in _ (by omega)
        rw [ea, eb] at HJ2
        obtain ⟨y1, hy1⟩ : ∃ y, hexD a = y := ⟨_, rfl⟩
        obtain ⟨y2, hy2⟩ : ∃ y, hexD b = y := ⟨_, rfl⟩
        have U1 : ∀ h, ((⟨#[48, 49, 50, 51, 52, 53, 54, 55, 56, 57, 97, 98, 99, 100, 101, 102]⟩ : ByteArray)[a]'h) = y1 := fun h => by rw [← hy1]; exact hexd_at a h
        have U2 : ∀ h, ((⟨#[48, 49, 50, 51, 52, 53, 54, 55, 56, 57, 97, 98, 99, 100, 101, 102]⟩ : ByteArray)[b]'h) = y2 := fun h => by rw [← hy2]; exact hexd_at b h
        rw [hy1, hy2] at HJ2
        clear HJ1 hq g8 g9 g10 g12 g13 ea eb hy1 hy2
        go_wp2_with fail
        refine (HI.out _).mono ?_; rintro e w1 ⟨rfl, rfl⟩
        go_wp2_with fail
        refine wp_region_held_drew (S := fun _ => True) (by kernel_rfl) (trivial) (fun hHeld => ?_)
        refine tky 0 (some 40) (v := ?_) rfl (by kernel_rfl) (by kernel_rfl) (by kernel_rfl) (fun _ _ _ h => h) ?_ hHeld ?_
        rotate_left
        focus (intro w hSw; (try dsimp only at hSw); go_simp; (try with_reducible rfl); done)
        simp only [Act.put, List.setIfInBounds_toArray, List.set_cons_zero, List.set_cons_succ]
        refine tky 1 (some 41) (v := ?_) rfl (by kernel_rfl) (by kernel_rfl) (by kernel_rfl) (fun _ _ _ h => h) ?_ hHeld ?_
        rotate_left
        focus (intro w hSw; (try dsimp only at hSw); go_simp; (try with_reducible rfl); done)
        simp only [Act.put, List.setIfInBounds_toArray, List.set_cons_zero, List.set_cons_succ]
        refine tky 2 (some 42) (v := ?_) rfl (by kernel_rfl) (by kernel_rfl) (by kernel_rfl) (fun _ _ _ h => h) ?_ hHeld ?_
        rotate_left
        focus (intro w hSw; (try dsimp only at hSw); go_simp; (try with_reducible rfl); done)
        simp only [Act.put, List.setIfInBounds_toArray, List.set_cons_zero, List.set_cons_succ]
        refine tky 3 (some 43) (v := ?_) rfl (by kernel_rfl) (by kernel_rfl) (by kernel_rfl) (fun _ _ _ h => h) ?_ hHeld ?_
        rotate_left
        focus (intro w hSw; (try dsimp only at hSw); go_simp; (try with_reducible rfl); done)
        simp only [Act.put, List.setIfInBounds_toArray, List.set_cons_zero, List.set_cons_succ]
        refine tky 4 (some 44) (v := ?_) rfl (by kernel_rfl) (by kernel_rfl) (by kernel_rfl) (fun _ _ _ h => h) ?_ hHeld ?_
        rotate_left
        focus (intro w hSw; (try dsimp only at hSw); go_simp; (try with_reducible rfl); done)
        simp only [Act.put, List.setIfInBounds_toArray, List.set_cons_zero, List.set_cons_succ]
        refine tky 5 (some 45) (v := ?_) rfl (by kernel_rfl) (by kernel_rfl) (by kernel_rfl) (fun _ _ _ h => h) ?_ hHeld ?_
        rotate_left
        focus (intro w hSw; (try dsimp only at hSw); go_simp; (try with_reducible rfl); done)
        simp only [Act.put, List.setIfInBounds_toArray, List.set_cons_zero, List.set_cons_succ]
        refine tky 6 (some 46) (v := ?_) rfl (by kernel_rfl) (by kernel_rfl) (by kernel_rfl) (fun _ _ _ h => h) ?_ hHeld ?_
        rotate_left
        focus (intro w hSw; (try dsimp only at hSw); go_simp; (try with_reducible rfl); done)
        simp only [Act.put, List.setIfInBounds_toArray, List.set_cons_zero, List.set_cons_succ]
        refine rcons 7 rfl (by kernel_rfl) (fun K hK => ?_)
        go_simp
        refine hK.out _ _ (trivial) (fun hHeld2 => ?_)
        clear hK K hHeld
        have hHeld := hHeld2
        clear hHeld2
        (try simp only [Act.put, List.setIfInBounds_toArray, List.set_cons_zero, List.set_cons_succ])
        refine rcons 8 rfl (by kernel_rfl) (fun K hK => ?_)
        rw [if_pos]
        rotate_left
        focus kernel_rfl
        (refine wp_push _ _ rfl w.heap.size ov out rfl (by exact (HO.out.drew.alloc _)) ⟨wo.heap.size, 0, none⟩ 6 [92, 117, 48, 48, y1, y2] rfl (by exact (new_bytes wo.drew _ [92, 117, 48, 48, y1, y2])) (by show out.length + 6 ≤ _; omega) (by show _ ≤ Array.size _; simp <;> omega) ?_; intro v' w3 hown' hgrow)
        (try dsimp only)
        refine hK.out _ _ (trivial) (fun hHeld2 => ?_)
        clear hK K hHeld
        have hHeld := hHeld2
        clear hHeld2
        (try simp only [Act.put, List.setIfInBounds_toArray, List.set_cons_zero, List.set_cons_succ])
        refine tky 9 (some 3) (v := ?_) rfl (by kernel_rfl) (by kernel_rfl) (by kernel_rfl) (fun _ _ _ h => h) ?_ hHeld ?_
        rotate_left
        focus (intro w hSw; (try dsimp only at hSw); go_simp; (try with_reducible rfl); done)
        simp only [Act.put, List.setIfInBounds_toArray, List.set_cons_zero, List.set_cons_succ]
        refine wpAnyH_done (by kernel_rfl) ?_ _
        have hbw3 : Below w.heap.size w w3 := Below.grown ((hbw.alloc hsz _).drew) hgrow (by show _ ≤ Array.size _; simp <;> omega) HO.out.lt
        have HO3 := Lib.hid hown'
        clear hown' hgrow HO hHeld
        go_wp2_with fail
        go_roundg g
        case measure => omega
        case rel => exact ⟨j + 1, out ++ [92, 117, 48, 48, y1, y2], _, rfl, by go_num, by omega, by simp; omega, HO3, HJ2, hbw3⟩
      · have HJ2 : Hid ((out ++ [s[j]]) ++ ((s.data.toList.drop (j + 1)).flatMap quoteC ++ [34]) = r) := Lib.hid (by rw [hq] at HJ1; exact HJ1)
        have HI : Hid (∀ w, Calls Tryz.prog 39 #[.string ⟨#[34, 92, 47, 8, 12, 10, 13, 9]⟩, .int .u8 (s[j].toNat : Int)] w fun e w' => e = .returned (.int .i64 (-1)) ∧ w = w') := Lib.hid (fun w => by
          have := Tryz.strings_IndexByte ⟨#[34, 92, 47, 8, 12, 10, 13, 9]⟩ (s[j].toNat : Int) w
          rw [show ((s[j].toNat : Int)).toNat.toUInt8 = s[j] by simp, told_no s[j] (by omega) (by omega) (by omega) (by omega) (by omega) g34 g47 g92] at this
          exact this.mono fun e w' ⟨h1, h2⟩ => ⟨h1, h2.symm⟩)
        have n47 : ((s[j].toNat : Int) == 47) = false := by rw [beq_eq_false_iff_ne]; omega
        have m47 : ¬ (s[j].toNat : Int) = 47 := by omega
        have hx2 : (32 : Int) ≤ (s[j].toNat : Int) := by omega
        clear HJ1 hq g34 g47 g92
        go_wp2_with fail
        refine (HI.out _).mono ?_; rintro e w1 ⟨rfl, rfl⟩
        go_wp2_with (at_builtin; refine wpList_push rfl _ _ rfl w.heap.size ov out rfl (HO.out.alloc _) ⟨wo.heap.size, 0, none⟩ 1 [s[j]] rfl (new_bytes wo _ [s[j]]) ?c1 ?c2 ?_)
        case c1 => first | omega | (simp; omega)
        case c2 => first | omega | (simp; omega)
        intro v' w3 hown' hgrow
        have hbw3 : Below w.heap.size w w3 := (hbw.alloc hsz _).grown hgrow (by simp; omega) HO.out.lt
        have HO3 := Lib.hid hown'
        clear hown' hgrow HO
        go_wp2_with fail
        go_roundg g
        case measure => omega
        case rel => exact ⟨j + 1, out ++ [s[j]], _, rfl, by go_num, by omega, by simp; omega, HO3, HJ2, hbw3⟩
    · have HJ2 : Hid (out ++ [34] = r) := Lib.hid (by
        have := HJ.out
        rw [List.drop_of_length_le (by rw [Array.length_toList]; exact Nat.le_of_not_lt hlt)] at this
        exact this)
      clear HJ
      go_wp2_with (at_builtin; refine wpList_push rfl _ _ rfl w.heap.size ov out rfl (HO.out.alloc _) ⟨wo.heap.size, 0, none⟩ 1 [34] rfl (new_bytes wo _ [34]) ?c1 ?c2 ?_)
      case c1 => first | omega | (simp; omega)
      case c2 => first | omega | (simp; omega)
      intro v' w3 hown' hgrow
      have hbw3 : Below w.heap.size w w3 := (hbw.alloc hsz _).grown hgrow (by simp; omega) HO.out.lt
      have HC := run_convert_own hown'
      clear hown' hgrow HO
      go_wp2_with fail
      go_ret
      exact ⟨congrArg (fun z : List UInt8 => Ending.returned (Value.string ⟨z.toArray⟩)) HJ2.out, hbw3⟩
set_option maxRecDepth 100000 in
set_option maxHeartbeats 8000000 in
theorem rquoted_any (s : ByteArray) (hs : s.size ≤ 100000) (w : World) :
    Calls Tryz.prog 29 #[.string s] w fun e w' => e = .returned (.string ⟨(quoteL s.data.toList).toArray⟩) ∧ Below w.heap.size w w' := by
  obtain ⟨r, hr⟩ : ∃ r, quoteL s.data.toList = r := ⟨_, rfl⟩
  have HR : Hid ([34] ++ ((s.data.toList.drop 0).flatMap quoteC ++ [34]) = r) := Lib.hid (by rw [List.drop_zero, ← hr]; unfold quoteL; simp)
  rw [hr]
  clear hr
  go_enter Tryz.func29, Tryz.ntmps29
  go_wp2_with fail
  go_loopg [3, 5] s.size (fun k u v wr => ∃ (j : Nat) (out : List UInt8) (ov : Value), ov = u ∧ v = .int .i64 j ∧ k + j = s.size ∧ out.length ≤ 6 * j + 1 ∧ Hid (Own w.heap.size ov out wr) ∧ Hid (out ++ ((s.data.toList.drop j).flatMap quoteC ++ [34]) = r) ∧ Below w.heap.size w wr)
  case atStart => exact ⟨0, [34], _, rfl, rfl, by omega, by simp, Lib.hid (Own.fresh rfl rfl (by decide) w), HR, (Below.refl _ _).alloc (Nat.le_refl _) _⟩
  case round =>
    rename World => wo
    obtain ⟨j, out, ov, rfl, rfl, hk, hout, HO, HJ, hbw⟩ := hrel
    have hsz := hbw.size
    by_cases hlt : j < s.size
    · have hd := drop_at s j hlt
      have HJ1 : (out ++ quoteC s[j]) ++ ((s.data.toList.drop (j + 1)).flatMap quoteC ++ [34]) = r := by
        have := HJ.out
        rw [hd, List.flatMap_cons] at this
        simpa [List.append_assoc] using this
      obtain ⟨g, rfl⟩ : ∃ g, gk = g + 1 := ⟨gk - 1, by omega⟩
      have hc8 : s[j].toNat < 256 := UInt8.toNat_lt _
      have hcls := byte_cls s[j]
      clear hd HJ
      rcases hcls with hx | hx | hx | hx | hx | hx | hx | hx | ⟨hx, hq, g8, g9, g10, g12, g13⟩ | ⟨hx, hq, g34, g47, g92⟩
      · have HJ2 : Hid ((out ++ [92, 34]) ++ ((s.data.toList.drop (j + 1)).flatMap quoteC ++ [34]) = r) := Lib.hid (by rw [hx] at HJ1; exact HJ1)
        have hn : s[j].toNat = 34 := by rw [hx]; rfl
        clear HJ1 hx hc8
        go_wp2_with (at_builtin; refine wpList_push rfl _ _ rfl w.heap.size ov out rfl (HO.out.alloc _) ⟨wo.heap.size, 0, none⟩ 2 [92, 34] rfl (new_bytes wo _ [92, 34]) ?c1 ?c2 ?_)
        case c1 => first | omega | (simp; omega)
        case c2 => first | omega | (simp; omega)
        intro v' w3 hown' hgrow
        have hbw3 : Below w.heap.size w w3 := (hbw.alloc hsz _).grown hgrow (by simp; omega) HO.out.lt
        have HO3 := Lib.hid hown'
        clear hown' hgrow HO
        go_wp2_with fail
        go_roundg g
        case measure => omega
        case rel => exact ⟨j + 1, out ++ [92, 34], _, rfl, by go_num, by omega, by simp; omega, HO3, HJ2, hbw3⟩
      · have HJ2 : Hid ((out ++ [92, 92]) ++ ((s.data.toList.drop (j + 1)).flatMap quoteC ++ [34]) = r) := Lib.hid (by rw [hx] at HJ1; exact HJ1)
        have hn : s[j].toNat = 92 := by rw [hx]; rfl
        clear HJ1 hx hc8
        go_wp2_with (at_builtin; refine wpList_push rfl _ _ rfl w.heap.size ov out rfl (HO.out.alloc _) ⟨wo.heap.size, 0, none⟩ 2 [92, 92] rfl (new_bytes wo _ [92, 92]) ?c1 ?c2 ?_)
        case c1 => first | omega | (simp; omega)
        case c2 => first | omega | (simp; omega)
        intro v' w3 hown' hgrow
        have hbw3 : Below w.heap.size w w3 := (hbw.alloc hsz _).grown hgrow (by simp; omega) HO.out.lt
        have HO3 := Lib.hid hown'
        clear hown' hgrow HO
        go_wp2_with fail
        go_roundg g
        case measure => omega
        case rel => exact ⟨j + 1, out ++ [92, 92], _, rfl, by go_num, by omega, by simp; omega, HO3, HJ2, hbw3⟩
      · have HJ2 : Hid ((out ++ [92, 98]) ++ ((s.data.toList.drop (j + 1)).flatMap quoteC ++ [34]) = r) := Lib.hid (by rw [hx] at HJ1; exact HJ1)
        have hn : s[j].toNat = 8 := by rw [hx]; rfl
        clear HJ1 hx hc8
        go_wp2_with (at_builtin; refine wpList_push rfl _ _ rfl w.heap.size ov out rfl (HO.out.alloc _) ⟨wo.heap.size, 0, none⟩ 2 [92, 98] rfl (new_bytes wo _ [92, 98]) ?c1 ?c2 ?_)
        case c1 => first | omega | (simp; omega)
        case c2 => first | omega | (simp; omega)
        intro v' w3 hown' hgrow
        have hbw3 : Below w.heap.size w w3 := (hbw.alloc hsz _).grown hgrow (by simp; omega) HO.out.lt
        have HO3 := Lib.hid hown'
        clear hown' hgrow HO
        go_wp2_with fail
        go_roundg g
        case measure => omega
        case rel => exact ⟨j + 1, out ++ [92, 98], _, rfl, by go_num, by omega, by simp; omega, HO3, HJ2, hbw3⟩
      · have HJ2 : Hid ((out ++ [92, 102]) ++ ((s.data.toList.drop (j + 1)).flatMap quoteC ++ [34]) = r) := Lib.hid (by rw [hx] at HJ1; exact HJ1)
        have hn : s[j].toNat = 12 := by rw [hx]; rfl
        clear HJ1 hx hc8
        go_wp2_with (at_builtin; refine wpList_push rfl _ _ rfl w.heap.size ov out rfl (HO.out.alloc _) ⟨wo.heap.size, 0, none⟩ 2 [92, 102] rfl (new_bytes wo _ [92, 102]) ?c1 ?c2 ?_)
        case c1 => first | omega | (simp; omega)
        case c2 => first | omega | (simp; omega)
        intro v' w3 hown' hgrow
        have hbw3 : Below w.heap.size w w3 := (hbw.alloc hsz _).grown hgrow (by simp; omega) HO.out.lt
        have HO3 := Lib.hid hown'
        clear hown' hgrow HO
        go_wp2_with fail
        go_roundg g
        case measure => omega
        case rel => exact ⟨j + 1, out ++ [92, 102], _, rfl, by go_num, by omega, by simp; omega, HO3, HJ2, hbw3⟩
      · have HJ2 : Hid ((out ++ [92, 110]) ++ ((s.data.toList.drop (j + 1)).flatMap quoteC ++ [34]) = r) := Lib.hid (by rw [hx] at HJ1; exact HJ1)
        have hn : s[j].toNat = 10 := by rw [hx]; rfl
        clear HJ1 hx hc8
        go_wp2_with (at_builtin; refine wpList_push rfl _ _ rfl w.heap.size ov out rfl (HO.out.alloc _) ⟨wo.heap.size, 0, none⟩ 2 [92, 110] rfl (new_bytes wo _ [92, 110]) ?c1 ?c2 ?_)
        case c1 => first | omega | (simp; omega)
        case c2 => first | omega | (simp; omega)
        intro v' w3 hown' hgrow
        have hbw3 : Below w.heap.size w w3 := (hbw.alloc hsz _).grown hgrow (by simp; omega) HO.out.lt
        have HO3 := Lib.hid hown'
        clear hown' hgrow HO
        go_wp2_with fail
        go_roundg g
        case measure => omega
        case rel => exact ⟨j + 1, out ++ [92, 110], _, rfl, by go_num, by omega, by simp; omega, HO3, HJ2, hbw3⟩
      · have HJ2 : Hid ((out ++ [92, 114]) ++ ((s.data.toList.drop (j + 1)).flatMap quoteC ++ [34]) = r) := Lib.hid (by rw [hx] at HJ1; exact HJ1)
        have hn : s[j].toNat = 13 := by rw [hx]; rfl
        clear HJ1 hx hc8
        go_wp2_with (at_builtin; refine wpList_push rfl _ _ rfl w.heap.size ov out rfl (HO.out.alloc _) ⟨wo.heap.size, 0, none⟩ 2 [92, 114] rfl (new_bytes wo _ [92, 114]) ?c1 ?c2 ?_)
        case c1 => first | omega | (simp; omega)
        case c2 => first | omega | (simp; omega)
        intro v' w3 hown' hgrow
        have hbw3 : Below w.heap.size w w3 := (hbw.alloc hsz _).grown hgrow (by simp; omega) HO.out.lt
        have HO3 := Lib.hid hown'
        clear hown' hgrow HO
        go_wp2_with fail
        go_roundg g
        case measure => omega
        case rel => exact ⟨j + 1, out ++ [92, 114], _, rfl, by go_num, by omega, by simp; omega, HO3, HJ2, hbw3⟩
      · have HJ2 : Hid ((out ++ [92, 116]) ++ ((s.data.toList.drop (j + 1)).flatMap quoteC ++ [34]) = r) := Lib.hid (by rw [hx] at HJ1; exact HJ1)
        have hn : s[j].toNat = 9 := by rw [hx]; rfl
        clear HJ1 hx hc8
        go_wp2_with (at_builtin; refine wpList_push rfl _ _ rfl w.heap.size ov out rfl (HO.out.alloc _) ⟨wo.heap.size, 0, none⟩ 2 [92, 116] rfl (new_bytes wo _ [92, 116]) ?c1 ?c2 ?_)
        case c1 => first | omega | (simp; omega)
        case c2 => first | omega | (simp; omega)
        intro v' w3 hown' hgrow
        have hbw3 : Below w.heap.size w w3 := (hbw.alloc hsz _).grown hgrow (by simp; omega) HO.out.lt
        have HO3 := Lib.hid hown'
        clear hown' hgrow HO
        go_wp2_with fail
        go_roundg g
        case measure => omega
        case rel => exact ⟨j + 1, out ++ [92, 116], _, rfl, by go_num, by omega, by simp; omega, HO3, HJ2, hbw3⟩
      · have HJ2 : Hid ((out ++ [47]) ++ ((s.data.toList.drop (j + 1)).flatMap quoteC ++ [34]) = r) := Lib.hid (by rw [hx] at HJ1; exact HJ1)
        have hn : s[j].toNat = 47 := by rw [hx]; rfl
        clear HJ1 hx hc8
        go_wp2_with (at_builtin; refine wpList_push rfl _ _ rfl w.heap.size ov out rfl (HO.out.alloc _) ⟨wo.heap.size, 0, none⟩ 1 [47] rfl (new_bytes wo _ [47]) ?c1 ?c2 ?_)
        case c1 => first | omega | (simp; omega)
        case c2 => first | omega | (simp; omega)
        intro v' w3 hown' hgrow
        have hbw3 : Below w.heap.size w w3 := (hbw.alloc hsz _).grown hgrow (by simp; omega) HO.out.lt
        have HO3 := Lib.hid hown'
        clear hown' hgrow HO
        go_wp2_with fail
        go_roundg g
        case measure => omega
        case rel => exact ⟨j + 1, out ++ [47], _, rfl, by go_num, by omega, by simp; omega, HO3, HJ2, hbw3⟩
      · have HJ2 : Hid ((out ++ [92, 117, 48, 48, hexD (s[j].toNat / 16), hexD (s[j].toNat % 16)]) ++ ((s.data.toList.drop (j + 1)).flatMap quoteC ++ [34]) = r) := Lib.hid (by rw [hq] at HJ1; exact HJ1)
        have n34 : ((s[j].toNat : Int) == 34) = false := by rw [beq_eq_false_iff_ne]; omega
        have n92 : ((s[j].toNat : Int) == 92) = false := by rw [beq_eq_false_iff_ne]; omega
        have m34 : ¬ (s[j].toNat : Int) = 34 := by omega
        have m92 : ¬ (s[j].toNat : Int) = 92 := by omega
        have hx2 : (s[j].toNat : Int) < 32 := by omega
        have hx3 : ¬ (32 : Int) ≤ (s[j].toNat : Int) := by omega
        obtain ⟨a, ea⟩ : ∃ a, s[j].toNat / 16 = a := ⟨_, rfl⟩
        obtain ⟨b, eb⟩ : ∃ b, s[j].toNat % 16 = b := ⟨_, rfl⟩
        have la : a < 16 := by omega
        have lb : b < 16 := by omega
        have fa : (s[j].toNat : Int) / 16 = a := by omega
        have fb : (s[j].toNat : Int) % 16 = b := by omega
        have fc : (s[j].toNat : Int).tmod 16 = b := by rw [Int.tmod_eq_emod_of_nonneg (by omega)]; exact fb
        have fd : (s[j].toNat : Int).tdiv 16 = a := by rw [Int.tdiv_eq_ediv_of_nonneg (by omega)]; exact fa
        have fe : bits BinOp.and IntKind.u8 (s[j].toNat : Int) 15 = b := by rw [and15 _ (by omega)]; exact fb
        have la2 : (a : Int) < 16 := by omega
        have lb2 : (b : Int) < 16 := by omega
        have la3 : (0 : Int) ≤ a := by omega
        have lb3 : (0 : Int) ≤ b := by omega
        have va : IntKind.u8.wrap (a : Int) = a := IntWalk.u8_in _ (by omega)
        have vb : IntKind.u8.wrap (b : Int) = b := IntWalk.u8_in _ (by omega)
        rw [ea, eb] at HJ2
        obtain ⟨y1, hy1⟩ : ∃ y, hexD a = y := ⟨_, rfl⟩
        obtain ⟨y2, hy2⟩ : ∃ y, hexD b = y := ⟨_, rfl⟩
        have U1 : ∀ h, ((⟨#[48, 49, 50, 51, 52, 53, 54, 55, 56, 57, 97, 98, 99, 100, 101, 102]⟩ : ByteArray)[a]'h) = y1 := fun h => by rw [← hy1]; exact hexd_at a h
        have U2 : ∀ h, ((⟨#[48, 49, 50, 51, 52, 53, 54, 55, 56, 57, 97, 98, 99, 100, 101, 102]⟩ : ByteArray)[b]'h) = y2 := fun h => by rw [← hy2]; exact hexd_at b h
        rw [hy1, hy2] at HJ2
        have HG := Lib.hid (show s[j].toNat ≠ 8 ∧ s[j].toNat ≠ 9 ∧ s[j].toNat ≠ 10 ∧ s[j].toNat ≠ 12 ∧ s[j].toNat ≠ 13 from ⟨g8, g9, g10, g12, g13⟩)
        clear HJ1 hq g8 g9 g10 g12 g13 ea eb hy1 hy2
        have h3 : ¬ (8 : Int) ≤ (s[j].toNat : Int) ∨ ((8 : Int) ≤ (s[j].toNat : Int) ∧ (s[j].toNat : Int) ≤ 13 ∧ ((s[j].toNat : Int) == 11) = true ∧ ((s[j].toNat : Int) != 11) = false) ∨ ((8 : Int) ≤ (s[j].toNat : Int) ∧ ¬ (s[j].toNat : Int) ≤ 13) := by
          have := HG.out
          by_cases q1 : (8 : Int) ≤ (s[j].toNat : Int)
          · by_cases q2 : (s[j].toNat : Int) ≤ 13
            · right; left
              have e : (s[j].toNat : Int) = 11 := by omega
              rw [e]; decide
            · right; right; exact ⟨q1, q2⟩
          · left; exact q1
        clear HG
        rcases h3 with h3 | ⟨h3, h4, h5, h6⟩ | ⟨h3, h4⟩
        all_goals
          go_wp2_with fail
          refine wp_region_held_drew (S := fun _ => True) (by kernel_rfl) (trivial) (fun hHeld => ?_)
          refine tky 0 (some 53) (v := ?_) rfl (by kernel_rfl) (by kernel_rfl) (by kernel_rfl) (fun _ _ _ h => h) ?_ hHeld ?_
          rotate_left
          focus (intro w hSw; (try dsimp only at hSw); go_simp; (try with_reducible rfl); done)
          simp only [Act.put, List.setIfInBounds_toArray, List.set_cons_zero, List.set_cons_succ]
          refine tky 1 (some 54) (v := ?_) rfl (by kernel_rfl) (by kernel_rfl) (by kernel_rfl) (fun _ _ _ h => h) ?_ hHeld ?_
          rotate_left
          focus (intro w hSw; (try dsimp only at hSw); go_simp; (try with_reducible rfl); done)
          simp only [Act.put, List.setIfInBounds_toArray, List.set_cons_zero, List.set_cons_succ]
          refine tky 2 (some 55) (v := ?_) rfl (by kernel_rfl) (by kernel_rfl) (by kernel_rfl) (fun _ _ _ h => h) ?_ hHeld ?_
          rotate_left
          focus (intro w hSw; (try dsimp only at hSw); go_simp; (try with_reducible rfl); done)
          simp only [Act.put, List.setIfInBounds_toArray, List.set_cons_zero, List.set_cons_succ]
          refine tky 3 (some 56) (v := ?_) rfl (by kernel_rfl) (by kernel_rfl) (by kernel_rfl) (fun _ _ _ h => h) ?_ hHeld ?_
          rotate_left
          focus (intro w hSw; (try dsimp only at hSw); go_simp; (try with_reducible rfl); done)
          simp only [Act.put, List.setIfInBounds_toArray, List.set_cons_zero, List.set_cons_succ]
          refine tky 4 (some 57) (v := ?_) rfl (by kernel_rfl) (by kernel_rfl) (by kernel_rfl) (fun _ _ _ h => h) ?_ hHeld ?_
          rotate_left
          focus (intro w hSw; (try dsimp only at hSw); go_simp; (try with_reducible rfl); done)
          simp only [Act.put, List.setIfInBounds_toArray, List.set_cons_zero, List.set_cons_succ]
          refine tky 5 (some 58) (v := ?_) rfl (by kernel_rfl) (by kernel_rfl) (by kernel_rfl) (fun _ _ _ h => h) ?_ hHeld ?_
          rotate_left
          focus (intro w hSw; (try dsimp only at hSw); go_simp; (try with_reducible rfl); done)
          simp only [Act.put, List.setIfInBounds_toArray, List.set_cons_zero, List.set_cons_succ]
          refine tky 6 (some 59) (v := ?_) rfl (by kernel_rfl) (by kernel_rfl) (by kernel_rfl) (fun _ _ _ h => h) ?_ hHeld ?_
          rotate_left
          focus (intro w hSw; (try dsimp only at hSw); go_simp; (try with_reducible rfl); done)
          simp only [Act.put, List.setIfInBounds_toArray, List.set_cons_zero, List.set_cons_succ]
          refine rcons 7 rfl (by kernel_rfl) (fun K hK => ?_)
          go_simp
          refine hK.out _ _ (trivial) (fun hHeld2 => ?_)
          clear hK K hHeld
          have hHeld := hHeld2
          clear hHeld2
          (try simp only [Act.put, List.setIfInBounds_toArray, List.set_cons_zero, List.set_cons_succ])
          refine rcons 8 rfl (by kernel_rfl) (fun K hK => ?_)
          rw [if_pos]
          rotate_left
          focus kernel_rfl
          (refine wp_push _ _ rfl w.heap.size ov out rfl (by exact (HO.out.drew.alloc _)) ⟨wo.heap.size, 0, none⟩ 6 [92, 117, 48, 48, y1, y2] rfl (by exact (new_bytes wo.drew _ [92, 117, 48, 48, y1, y2])) (by show out.length + 6 ≤ _; omega) (by show _ ≤ Array.size _; simp <;> omega) ?_; intro v' w3 hown' hgrow)
          (try dsimp only)
          refine hK.out _ _ (trivial) (fun hHeld2 => ?_)
          clear hK K hHeld
          have hHeld := hHeld2
          clear hHeld2
          (try simp only [Act.put, List.setIfInBounds_toArray, List.set_cons_zero, List.set_cons_succ])
          refine tky 9 (some 3) (v := ?_) rfl (by kernel_rfl) (by kernel_rfl) (by kernel_rfl) (fun _ _ _ h => h) ?_ hHeld ?_
          rotate_left
          focus (intro w hSw; (try dsimp only at hSw); go_simp; (try with_reducible rfl); done)
          simp only [Act.put, List.setIfInBounds_toArray, List.set_cons_zero, List.set_cons_succ]
          refine wpAnyH_done (by kernel_rfl) ?_ _
          have hbw3 : Below w.heap.size w w3 := Below.grown ((hbw.alloc hsz _).drew) hgrow (by show _ ≤ Array.size _; simp <;> omega) HO.out.lt
          have HO3 := Lib.hid hown'
          clear hown' hgrow HO hHeld
          go_wp2_with fail
          go_roundg g
          case measure => omega
          case rel => exact ⟨j + 1, out ++ [92, 117, 48, 48, y1, y2], _, rfl, by go_num, by omega, by simp; omega, HO3, HJ2, hbw3⟩
      · have HJ2 : Hid ((out ++ [s[j]]) ++ ((s.data.toList.drop (j + 1)).flatMap quoteC ++ [34]) = r) := Lib.hid (by rw [hq] at HJ1; exact HJ1)
        have n34 : ((s[j].toNat : Int) == 34) = false := by rw [beq_eq_false_iff_ne]; omega
        have n92 : ((s[j].toNat : Int) == 92) = false := by rw [beq_eq_false_iff_ne]; omega
        have m34 : ¬ (s[j].toNat : Int) = 34 := by omega
        have m92 : ¬ (s[j].toNat : Int) = 92 := by omega
        have m13 : ¬ (s[j].toNat : Int) ≤ 13 := by omega
        have m32 : ¬ (s[j].toNat : Int) < 32 := by omega
        have hx2 : (32 : Int) ≤ (s[j].toNat : Int) := by omega
        clear HJ1 hq g34 g47 g92
        go_wp2_with (at_builtin; refine wpList_push rfl _ _ rfl w.heap.size ov out rfl (HO.out.alloc _) ⟨wo.heap.size, 0, none⟩ 1 [s[j]] rfl (new_bytes wo _ [s[j]]) ?c1 ?c2 ?_)
        case c1 => first | omega | (simp; omega)
        case c2 => first | omega | (simp; omega)
        intro v' w3 hown' hgrow
        have hbw3 : Below w.heap.size w w3 := (hbw.alloc hsz _).grown hgrow (by simp; omega) HO.out.lt
        have HO3 := Lib.hid hown'
        clear hown' hgrow HO
        go_wp2_with fail
        go_roundg g
        case measure => omega
        case rel => exact ⟨j + 1, out ++ [s[j]], _, rfl, by go_num, by omega, by simp; omega, HO3, HJ2, hbw3⟩
    · have HJ2 : Hid (out ++ [34] = r) := Lib.hid (by
        have := HJ.out
        rw [List.drop_of_length_le (by rw [Array.length_toList]; exact Nat.le_of_not_lt hlt)] at this
        exact this)
      clear HJ
      go_wp2_with (at_builtin; refine wpList_push rfl _ _ rfl w.heap.size ov out rfl (HO.out.alloc _) ⟨wo.heap.size, 0, none⟩ 1 [34] rfl (new_bytes wo _ [34]) ?c1 ?c2 ?_)
      case c1 => first | omega | (simp; omega)
      case c2 => first | omega | (simp; omega)
      intro v' w3 hown' hgrow
      have hbw3 : Below w.heap.size w w3 := (hbw.alloc hsz _).grown hgrow (by simp; omega) HO.out.lt
      have HC := run_convert_own hown'
      clear hown' hgrow HO
      go_wp2_with fail
      go_ret
      exact ⟨congrArg (fun z : List UInt8 => Ending.returned (Value.string ⟨z.toArray⟩)) HJ2.out, hbw3⟩
end Go.Proofs.YtglhanblbojkhaaGreatDoor

set_option linter.unusedSimpArgs false
set_option linter.unusedVariables false
namespace Go.Proofs.YtglhanblbojkhaaGreatDoor
open Go.RowKit
set_option maxRecDepth 100000 in
theorem jquote_any (x : ByteArray) (hx : x.size ≤ 100000) (w : World) (hE : EnvU w) :
    Calls Tryz.prog 10 #[.string x] w fun e w' => e = .returned (if chkE x.data.toList = 0 then .tuple #[.string ⟨(quoteL x.data.toList).toArray⟩, .int .i64 0] else .tuple #[.string ⟨#[]⟩, .int .i64 (chkE x.data.toList)]) ∧ Below w.heap.size w w' := by
  have H1 := Lib.hid (fun V (hb : Below w.heap.size w V) => tcheck_any x (by omega) V (hE.below hb))
  have H2 := Lib.hid (fun w => quote_any x hx w)
  have hc : chkE x.data.toList = 0 ∨ chkE x.data.toList = 4 ∨ chkE x.data.toList = 10 := by
    unfold chkE
    by_cases q : 16384 < x.data.toList.length
    · rw [if_pos q]; right; left; rfl
    · rw [if_neg q]
      cases Lib.validD x.data.toList
      · right; right; rfl
      · left; rfl
  clear hE
  generalize chkE x.data.toList = c at *
  generalize (⟨(quoteL x.data.toList).toArray⟩ : ByteArray) = q at *
  rcases hc with rfl | rfl | rfl
  · go_enter Tryz.func10, Tryz.ntmps10
    go_wp2_with fail
    refine (H1.out _ (Below.refl _ _)).mono ?_; rintro e w1 ⟨rfl, hb⟩
    have HW := Lib.hid hb
    have hsz := hb.size
    clear hb
    go_wp2_with fail
    refine (H2.out _).mono ?_; rintro e w2 ⟨rfl, hb⟩
    have HW2 := Lib.hid (HW.out.trans (hb.mono hsz))
    clear hb
    go_wp2_with fail
    go_ret2
    exact ⟨rfl, HW2.out⟩
  all_goals
    go_enter Tryz.func10, Tryz.ntmps10
    go_wp2_with fail
    refine (H1.out _ (Below.refl _ _)).mono ?_; rintro e w1 ⟨rfl, hb⟩
    have HW := Lib.hid hb
    clear hb
    go_wp2_with fail
    go_ret2
    exact ⟨rfl, HW.out⟩
end Go.Proofs.YtglhanblbojkhaaGreatDoor
