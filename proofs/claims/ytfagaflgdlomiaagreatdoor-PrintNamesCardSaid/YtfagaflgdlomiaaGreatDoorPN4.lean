/- Walks and plain laws of this proof, joined from smaller texts (4). -/
import Derived.Maps.RangeWalk
import Derived.Deep.LoopGhost
import Derived.Test.YtfagaflgdlomiaaGreatDoorRows
import Derived.Below
import Derived.ChangeSame
import Derived.ProofKit
import Derived.Test.YtfagaflgdlomiaaGreatDoorPN3
set_option linter.unusedSimpArgs false
set_option linter.unusedVariables false
namespace Go.Proofs.YtfagaflgdlomiaaGreatDoor
open Go.RowKit
set_option maxRecDepth 100000 in
set_option maxHeartbeats 4000000 in
theorem styp_go (nm : ByteArray) (nb : Bool) (a : Option Addr) (c : Nat) (ws : List UInt8) (hl : ws.length ≤ 100000) (w : World) (hu : BSl (.slice a ws.length c) ws w)
    (HNM : Hid (∀ W, Calls Tryz.prog 31 #[.string nm] W fun e w' => e = .returned (.bool nb) ∧ W = w')) :
    Calls Tryz.prog 35 #[.agg #[.string nm, .slice a ws.length c]] w fun e w' => e = .returned (.bool (nb && (decide (ws.length ≤ 8) && typB 2 ws))) ∧ Below w.heap.size w w' := by
  obtain ⟨Z, hZ⟩ : ∃ Z, typB 2 ws = Z := ⟨_, rfl⟩
  have HT0 : Hid (typB (prvB ws 0) (ws.drop 0) = Z) := Lib.hid hZ
  rw [hZ]
  have HRW : Hid (0 < ws.length → ∃ b off, a = some ⟨b, off, none⟩ ∧ b < w.heap.size ∧ BRow b off ws w) := Lib.hid fun h => by
    rcases hu with ⟨a2, c2, e, rfl⟩ | ⟨b, off, cap, e, h2, h3⟩
    · simp at h
    · injection e with e1 e2 e3
      exact ⟨b, off, e1, lt_of_cell (h2 0 h3), h2⟩
  obtain ⟨n, hn⟩ : ∃ n, ws.length = n := ⟨_, rfl⟩
  have HN := Lib.hid hn
  rw [hn] at hl ⊢
  clear hu hZ hn
  go_enter Tryz.func35, Tryz.ntmps35
  go_upto_region 1 with fail
  obtain ⟨w1, hw1⟩ : ∃ w1, w.alloc (.cells #[.string nm, .slice a n c] 35 (0, 0)) = w1 := ⟨_, rfl⟩
  have HB1 : Hid (Below w.heap.size w w1) := Lib.hid (by rw [← hw1]; exact (Below.refl _ _).alloc (Nat.le_refl _) _)
  have k1 : w1.heap[w.heap.size]? = some (.cells #[.string nm, .slice a n c] 35 (0, 0)) := by rw [← hw1]; exact heap_new _ _ _ rfl
  obtain ⟨d0, d1, _, _⟩ := ref_cells k1
  rw [hw1]
  clear hw1 k1
  go_wp2_with fail
  go_loopw [9] (fun iv wr => ∃ i : Nat, i ≤ n ∧ iv = .int .i64 (i : Int) ∧ Hid (typB (prvB ws i) (ws.drop i) = Z) ∧ wr = w1) (fun iv wr => n - (intOf iv).toNat)
  case atStart => exact ⟨0, Nat.zero_le _, rfl, HT0, rfl⟩
  case round =>
    clear HT0
    rename World => wr
    obtain ⟨i, hin, rfl, HTB, rfl⟩ := hrel
    by_cases hge : i = n
    · subst hge
      have hlt : ¬ (i : Int) < (i : Int) := by omega
      have hz : Z = true := by
        have := HTB.out
        rw [List.drop_of_length_le (by have := HN.out; omega)] at this
        exact this.symm
      have HZ := Lib.hid hz
      clear hz
      by_cases h8 : i ≤ 8
      · have h8i : (i : Int) ≤ 8 := by omega
        go_wp2_with fail
        refine (HNM.out _).mono ?_; rintro e w2 ⟨rfl, rfl⟩
        go_wp2_with fail
        go_ret
        exact ⟨ret_b (by rw [HZ.out, decide_eq_true h8]; simp), HB1.out⟩
      · have h8i : ¬ (i : Int) ≤ 8 := by omega
        go_wp2_with fail
        go_ret
        exact ⟨ret_b (by first | rfl | (rw [decide_eq_false h8]; simp)), HB1.out⟩
    · have hil : i < ws.length := by have := HN.out; omega
      obtain ⟨b, off, rfl, hbw, hrow⟩ := HRW.out (by omega)
      have hx := (HB1.out.cell (p := ⟨b, off + i, none⟩) hbw).trans (hrow i hil)
      have htb := HTB.out
      rw [List.drop_eq_getElem_cons hil, typB_step] at htb
      have hnx : prvB ws (i + 1) = ws[i]'hil := by
        unfold prvB
        rw [if_neg (by omega), Nat.add_sub_cancel, List.getD_eq_getElem?_getD, List.getElem?_eq_getElem hil]; rfl
      have HPV : Hid (∀ k, i = k + 1 → ∃ y : UInt8, prvB ws i = y ∧ wr.cell? ⟨b, off + k, none⟩ = some (.int .u8 (y.toNat : Int))) := Lib.hid fun k hk => by
        have hkl : k < ws.length := by omega
        refine ⟨ws[k], ?_, (HB1.out.cell (p := ⟨b, off + k, none⟩) hbw).trans (hrow k hkl)⟩
        unfold prvB
        rw [if_neg (by omega), show i - 1 = k by omega, List.getD_eq_getElem?_getD, List.getElem?_eq_getElem hkl]; rfl
      have hp0 : i = 0 → prvB ws i = 2 := fun h => by unfold prvB; rw [if_pos h]
      have HP0 := Lib.hid hp0
      generalize ws[i]'hil = x at hx htb hnx
      obtain ⟨xi, hxi⟩ : ∃ xi : Int, (x.toNat : Int) = xi := ⟨_, rfl⟩
      rw [hxi] at hx
      have i1 : (i : Int).toNat = i := by omega
      have i2 : (0 : Int) ≤ (i : Int) := by omega
      have i3 : (i : Int) < (n : Int) := by omega
      have HNX := Lib.hid hnx
      have hin2 : i + 1 ≤ n := by omega
      clear hrow hbw hil HRW HTB hp0 hnx hge
      generalize prvB ws i = lst at *
      have HON : (typB x (ws.drop (i + 1)) = Z) → Hid (typB (prvB ws (i + 1)) (ws.drop (i + 1)) = Z) := fun h => Lib.hid (by rw [HNX.out]; exact h)
      by_cases hx2 : x = 2
      · subst hx2
        have hx3 : xi = 2 := by rw [← hxi]; rfl
        subst hx3
        have HTN := HON (by rw [← htb]; rfl)
        clear htb hxi HON
        by_cases hi0 : i = 0
        · have h00 : ¬ (0 : Int) < (i : Int) := by omega
          clear hi0
          go_wp2_with fail
          go_roundw
          case rel => exact ⟨i + 1, hin2, by go_num, HTN, by first | rfl | trivial⟩
          case measure => simp [intOf]; omega
        · have h00 : (0 : Int) < (i : Int) := by omega
          go_wp2_with fail
          go_roundw
          case rel => exact ⟨i + 1, hin2, by go_num, HTN, by first | rfl | trivial⟩
          case measure => simp [intOf]; omega
      · by_cases hx1 : x = 1
        · subst hx1
          have hx3 : xi = 1 := by rw [← hxi]; rfl
          subst hx3
          by_cases hi0 : i = 0
          · have h00 : ¬ (0 : Int) < (i : Int) := by omega
            have hl2 := HP0.out hi0
            have HTN := HON (by rw [← htb, hl2]; rfl)
            clear htb hxi HON hl2 hi0
            go_wp2_with fail
            go_roundw
            case rel => exact ⟨i + 1, hin2, by go_num, HTN, by first | rfl | trivial⟩
            case measure => simp [intOf]; omega
          · have h00 : (0 : Int) < (i : Int) := by omega
            obtain ⟨k, hk⟩ : ∃ k, i = k + 1 := ⟨i - 1, by omega⟩
            obtain ⟨y, hy, hyc⟩ := HPV.out k hk
            obtain ⟨yi, hyi⟩ : ∃ yi : Int, (y.toNat : Int) = yi := ⟨_, rfl⟩
            rw [hyi] at hyc
            subst hy
            have j1 : IntKind.i64.wrap ((i : Int) - 1) = (k : Int) := by rw [IntWalk.i64_in _ (by omega)]; omega
            have j2 : (k : Int).toNat = k := by omega
            have j3 : (0 : Int) ≤ (k : Int) := by omega
            have j4 : (k : Int) < (n : Int) := by omega
            by_cases hls : lst = 1
            · subst hls
              have hy1 : yi = 1 := by rw [← hyi]; rfl
              subst hy1
              have HF : Hid (Z = false) := Lib.hid (by rw [← htb]; rfl)
              clear htb hxi HON hyi hk hi0
              go_wp2_with fail
              go_ret
              exact ⟨ret_b (by rw [HF.out]; simp), HB1.out⟩
            · have hy1 : ¬ yi = 1 := fun h => hls (UInt8.toNat_inj.1 (by have : ((1 : UInt8).toNat : Int) = 1 := rfl; omega))
              have hyb : (yi == 1) = false := by simpa using hy1
              have hlb : (lst == 1) = false := by simpa using hls
              have HTN := HON (by rw [← htb, hlb]; rfl)
              clear htb hxi HON hyi hls hlb hk hi0
              go_wp2_with fail
              go_roundw
              case rel => exact ⟨i + 1, hin2, by go_num, HTN, by first | rfl | trivial⟩
              case measure => simp [intOf]; omega
        · have h1 : ¬ xi = 1 := fun h => hx1 (UInt8.toNat_inj.1 (by have : ((1 : UInt8).toNat : Int) = 1 := rfl; omega))
          have h2 : ¬ xi = 2 := fun h => hx2 (UInt8.toNat_inj.1 (by have : ((2 : UInt8).toNat : Int) = 2 := rfl; omega))
          have h1b : (xi == 1) = false := by simpa using h1
          have h2b : (xi == 2) = false := by simpa using h2
          have HF : Hid (Z = false) := Lib.hid (by
            rw [← htb, (by simpa using hx1 : (x == 1) = false), (by simpa using hx2 : (x == 2) = false)]; rfl)
          clear htb hxi HON hx1 hx2
          by_cases hi0 : i = 0
          · have h00 : ¬ (0 : Int) < (i : Int) := by omega
            clear hi0
            go_wp2_with fail
            go_ret
            exact ⟨ret_b (by rw [HF.out]; simp), HB1.out⟩
          · have h00 : (0 : Int) < (i : Int) := by omega
            clear hi0
            go_wp2_with fail
            go_ret
            exact ⟨ret_b (by rw [HF.out]; simp), HB1.out⟩
theorem styp_any (nm ws : List UInt8) (a : Option Addr) (n c : Nat) (w : World) (hu : BSl (.slice a n c) ws w) (hn : nm.length ≤ 9223372036854775807) (hl : ws.length ≤ 100000) :
    Calls Tryz.prog 35 #[.agg #[.string ⟨nm.toArray⟩, .slice a n c]] w fun e w' => e = .returned (.bool (ttB nm ws)) ∧ Below w.heap.size w w' := by
  obtain ⟨a2, c2, e⟩ := hu.form
  injection e with e1 e2 e3
  subst e2
  exact styp_go _ _ a c ws hl w hu (Lib.hid fun W => lname_big _ (by rw [← bsz]; exact hn) W)
noncomputable def argsB : List ArgD → List ArgD → Bool
  | _, [] => true
  | P, x :: r => !P.any (fun b => eqB b.1 x.1) && nameB x.1 && fixV x.2 && argsB (P ++ [x]) r
theorem argsB_named : ∀ (A P : List ArgD) (nm : List (List UInt8)), (∀ s, nm.contains s = P.any fun b => eqB b.1 s) → argsB P A = (namedB nm A && !A.any fun a => a.2.any isV)
  | [], P, nm, h => rfl
  | x :: r, P, nm, h => by
    rw [argsB, namedB_step, argsB_named r (P ++ [x]) (x.1 :: nm) (fun s => by
      rw [List.contains_cons, List.any_append, h s]
      have : (s == x.1) = eqB x.1 s := eqB_of (by rw [beq_iff_eq]; exact eq_comm)
      rw [this]
      simp [Bool.or_comm]), h x.1, fixV_lit, List.any_cons]
    cases P.any (fun b => eqB b.1 x.1) <;> cases nameB x.1 <;> cases litB x.2 <;> cases x.2.any isV <;> cases namedB (x.1 :: nm) r <;> simp
set_option maxRecDepth 100000 in
set_option maxHeartbeats 4000000 in
theorem sac_c (x0 : ByteArray) (xa1 : Option Addr) (xn1 xc1 : Nat) (bv : Nat) (y0 : ByteArray) (t0 : Bool) (w : World)
    (hcap : w.cell? ⟨bv, 0, none⟩ = some (.string y0))
    (h0 : (x0.toList == y0.toList) = t0) :
    Calls Tryz.prog 85 #[.agg #[.string x0, .slice xa1 xn1 xc1], .pointer (some ⟨bv, 0, none⟩)] w fun e w' => e = .returned (.bool (t0)) ∧ Below w.heap.size w w' := by
  go_enter Tryz.func85, Tryz.ntmps85
  go_upto_region 1 with fail
  obtain ⟨w2, hw2⟩ : ∃ w2, w.alloc (.cells #[.string x0, .slice xa1 xn1 xc1] 79 (0, 0)) = w2 := ⟨_, rfl⟩
  have HB2 : Hid (Below w.heap.size w w2) := Lib.hid (by rw [← hw2]; exact (Below.refl _ _).alloc (Nat.le_refl _) _)
  have k1 : w2.heap[w.heap.size]? = some (.cells #[.string x0, .slice xa1 xn1 xc1] 79 (0, 0)) := by rw [← hw2]; exact heap_new _ _ _ rfl
  have MK : Hid (∀ W, Below w2.heap.size w2 W → W.cell? ⟨w.heap.size, 0, none⟩ = some (.string x0) ∧ W.cell? ⟨w.heap.size, 1, none⟩ = some (.slice xa1 xn1 xc1) ∧ W.cell? ⟨bv, 0, none⟩ = some (.string y0)) := Lib.hid fun W hW => ⟨(Lib.cell_of_heap ((hW.block _ (heap_lt k1)).trans k1) 0).trans rfl, (Lib.cell_of_heap ((hW.block _ (heap_lt k1)).trans k1) 1).trans rfl, (hW.cell (p := ⟨_, _, none⟩) (Nat.lt_of_lt_of_le (lt_of_cell hcap) HB2.out.size)).trans ((HB2.out.cell (p := ⟨_, _, none⟩) (lt_of_cell hcap)).trans hcap)⟩
  obtain ⟨d0, d1, dv⟩ := MK.out w2 (Below.refl _ _)
  have HBV : Hid (Below w2.heap.size w2 w2) := Lib.hid (Below.refl _ _)
  try rw [hw2]
  clear hw2 k1 hcap
  cases t0 with
  | false =>
    go_wp2_with fail
    go_ret
    exact ⟨ret_b rfl, HB2.out.trans (HBV.out.mono HB2.out.size)⟩
  | true =>
    go_wp2_with fail
    go_ret
    exact ⟨ret_b rfl, HB2.out.trans (HBV.out.mono HB2.out.size)⟩
theorem sac_ent : ∀ args w, (callFunc 85 args).run Tryz.prog w = .ok (.enter 85 args) w := enters_of Tryz.func85 (by kernel_rfl) rfl
theorem sac_any (A : List ArgD) (x : List UInt8) (b off k cap bv : Nat) (hk : k ≤ A.length) (hl : A.length ≤ 100000) (W : World) (hrow : XRow CelSl b off A W) (hcap : W.cell? ⟨bv, 0, none⟩ = some (.string ⟨x.toArray⟩)) :
    Calls Tryz.prog 84 #[.slice (some ⟨b, off, none⟩) k cap, .func (.func 85) #[] #[.pointer (some ⟨bv, 0, none⟩)]] W fun e w' => e = .returned (.bool ((A.take k).any fun b => eqB b.1 x)) ∧ Below W.heap.size W w' := by
  have hlen : (A.take k).length = k := by rw [List.length_take]; omega
  refine arg_contains _ #[.pointer (some ⟨bv, 0, none⟩)] sac_ent (fun b => eqB b.1 x) (A.take k) _ W ?_ (by omega) (Lib.hid fun W' j hj ev hev hb => ?_)
  · by_cases h0 : k = 0
    · subst h0
      exact Or.inl ⟨_, _, rfl, by simp⟩
    · refine Or.inr ⟨b, off, cap, by rw [hlen], fun i hi => ?_, by omega⟩
      rw [List.getElem_take]
      exact hrow i (by rw [hlen] at hi; omega)
  · obtain ⟨a, n, c, rfl, _⟩ := hev
    exact sac_c _ _ _ _ bv _ _ W' ((hb.cell (p := ⟨_, _, none⟩) (lt_of_cell hcap)).trans hcap) (eqB_str _ _)
set_option maxRecDepth 100000 in
set_option maxHeartbeats 4000000 in
theorem sargs_go (A : List ArgD) (b off cap : Nat) (hl : A.length ≤ 100000) (hcap : A.length ≤ cap) (w : World) (hrow : XRow CelSl b off A w) (hs : ∀ x ∈ A, ArgSm x) (hE : EnvU w) :
    Calls Tryz.prog 62 #[.slice (some ⟨b, off, none⟩) A.length cap] w fun e w' => e = .returned (.bool (argsB [] A)) ∧ Below w.heap.size w w' := by
  have HROW := Lib.hid hrow
  have HS := Lib.hid hs
  have HEN := Lib.hid hE
  obtain ⟨Z, hZ⟩ : ∃ Z, argsB [] A = Z := ⟨_, rfl⟩
  have HZ0 : Hid (argsB (A.take 0) (A.drop 0) = Z) := Lib.hid hZ
  rw [hZ]
  obtain ⟨n, hn⟩ : ∃ n, A.length = n := ⟨_, rfl⟩
  have HN := Lib.hid hn
  rw [hn] at hl hcap ⊢
  clear hrow hs hE hZ hn
  go_enter Tryz.func62, Tryz.ntmps62
  go_wp2_with fail
  go_loopw [8] (fun iv wr => ∃ k : Nat, k ≤ n ∧ iv = .int .i64 (k : Int) ∧ Hid (argsB (A.take k) (A.drop k) = Z) ∧ Hid (Below w.heap.size w wr)) (fun iv wr => n - (intOf iv).toNat)
  case atStart => exact ⟨0, Nat.zero_le _, rfl, HZ0, Lib.hid (Below.refl _ _)⟩
  case round =>
    clear HZ0
    rename World => wr
    obtain ⟨k, hk, rfl, HQ, HB⟩ := hrel
    by_cases hkn : k = n
    · have hlt : ¬ (k : Int) < (n : Int) := by omega
      have HF : Hid (true = Z) := Lib.hid (by
        have := HQ.out
        rw [List.drop_of_length_le (by have := HN.out; omega)] at this
        exact this)
      clear HQ hkn
      go_wp2_with fail
      go_ret
      exact ⟨ret_b HF.out, HB.out⟩
    · have hil : k < A.length := by have := HN.out; omega
      obtain ⟨q0, ya, yn, yc, q1, yy⟩ := (XRow.below HROW.out (fun _ _ h => CelSl.below h HB.out) HB.out) k hil
      have sm := HS.out A[k] (List.getElem_mem hil)
      have hq := HQ.out
      rw [List.drop_eq_getElem_cons hil, argsB] at hq
      have htk : A.take k ++ [A[k]] = A.take (k + 1) := by rw [List.take_add_one, List.getElem?_eq_getElem hil]; rfl
      rw [htk] at hq
      have hz := HB.out.size
      obtain ⟨t0, ht0⟩ : ∃ t, ((A.take k).any fun b => eqB b.1 A[k].1) = t := ⟨_, rfl⟩
      obtain ⟨t1, ht1⟩ : ∃ t, nameB A[k].1 = t := ⟨_, rfl⟩
      obtain ⟨t2, ht2⟩ : ∃ t, fixV A[k].2 = t := ⟨_, rfl⟩
      rw [ht0, ht1, ht2] at hq
      have HC0 : Hid (∀ (W : World) (bv : Nat), Below wr.heap.size wr W → W.cell? ⟨bv, 0, none⟩ = some (.string ⟨A[k].1.toArray⟩) → Calls Tryz.prog 84 #[.slice (some ⟨b, off, none⟩) k cap, .func (.func 85) #[] #[.pointer (some ⟨bv, 0, none⟩)]] W fun e w' => e = .returned (.bool t0) ∧ Below W.heap.size W w') := Lib.hid fun W bv hW hc => by
        rw [← ht0]
        exact sac_any A _ b off k cap bv (by omega) (by have := HN.out; omega) W (XRow.below HROW.out (fun _ _ h => CelSl.below h (HB.out.trans (hW.mono hz))) (HB.out.trans (hW.mono hz))) hc
      have HC1 : Hid (∀ W, Below wr.heap.size wr W → Calls Tryz.prog 31 #[.string ⟨A[k].1.toArray⟩] W fun e w' => e = .returned (.bool t1) ∧ Below W.heap.size W w') := Lib.hid fun W hW => by
        rw [← ht1]
        exact calls_below (lname_any _ (by rw [← bsz]; exact sm.1) W)
      have HC2 : Hid (∀ W, Below wr.heap.size wr W → Calls Tryz.prog 64 #[.slice ya yn yc] W fun e w' => e = .returned (.bool t2) ∧ Below W.heap.size W w') := Lib.hid fun W hW => by
        rw [← ht2]
        exact fixed_any _ _ W (yy.below hW) sm.2 (HEN.out.below (HB.out.trans (hW.mono hz)))
      have HQ2 := Lib.hid hq
      clear hq HQ sm yy ht0 ht1 ht2 htk
      generalize (⟨A[k].1.toArray⟩ : ByteArray) = x at *
      have i1 : (k : Int).toNat = k := by omega
      have i2 : (0 : Int) ≤ (k : Int) := by omega
      have i3 : (k : Int) < (n : Int) := by omega
      have i4 : (k : Int) ≤ (cap : Int) := by omega
      have i5 : (k : Int) ≤ (n : Int) := by omega
      have pb := lt_of_cell q0
      go_upto_region 4 with fail
      obtain ⟨w2, hw2⟩ : ∃ w2, wr.alloc (.cells #[.string x, .slice ya yn yc] 79 (0, 0)) = w2 := ⟨_, rfl⟩
      have HBA : Hid (Below wr.heap.size wr w2) := Lib.hid (by rw [← hw2]; exact (Below.refl _ _).alloc (Nat.le_refl _) _)
      have k1 : w2.heap[wr.heap.size]? = some (.cells #[.string x, .slice ya yn yc] 79 (0, 0)) := by rw [← hw2]; exact heap_new _ _ _ rfl
      have MK : Hid (∀ W, Below w2.heap.size w2 W → W.cell? ⟨wr.heap.size, 0, none⟩ = some (.string x) ∧ W.cell? ⟨wr.heap.size, 1, none⟩ = some (.slice ya yn yc)) := Lib.hid fun W hW => ⟨(Lib.cell_of_heap ((hW.block _ (heap_lt k1)).trans k1) 0).trans rfl, (Lib.cell_of_heap ((hW.block _ (heap_lt k1)).trans k1) 1).trans rfl⟩
      obtain ⟨d0, d1⟩ := MK.out w2 (Below.refl _ _)
      have HC3 := Lib.hid (HC0.out w2 wr.heap.size HBA.out d0)
      try rw [hw2]
      clear hw2 k1 HC0 q0 q1
      go_wp2_with fail
      refine HC3.out.mono ?_; rintro e w3 ⟨rfl, hb⟩
      have HBV : Hid (Below w2.heap.size w2 w3) := Lib.hid hb
      obtain ⟨d0, d1⟩ := MK.out w3 hb
      clear hb
      cases t0 with
      | true =>
        have HF : Hid (false = Z) := Lib.hid (by rw [← HQ2.out]; rfl)
        go_wp2_with fail
        go_ret
        exact ⟨ret_b HF.out, HB.out.trans ((HBA.out.trans (HBV.out.mono HBA.out.size)).mono hz)⟩
      | false =>
      cases t1 with
      | false =>
        have HF : Hid (false = Z) := Lib.hid (by rw [← HQ2.out]; rfl)
        go_wp2_with fail
        refine (HC1.out _ (HBA.out.trans (HBV.out.mono HBA.out.size))).mono ?_; rintro e w4 ⟨rfl, hb⟩
        have HBV2 : Hid (Below w2.heap.size w2 w4) := Lib.hid (HBV.out.trans (hb.mono HBV.out.size))
        go_wp2_with fail
        go_ret
        exact ⟨ret_b HF.out, HB.out.trans ((HBA.out.trans (HBV2.out.mono HBA.out.size)).mono hz)⟩
      | true =>
      go_wp2_with fail
      refine (HC1.out _ (HBA.out.trans (HBV.out.mono HBA.out.size))).mono ?_; rintro e w4 ⟨rfl, hb⟩
      have HBV2 : Hid (Below w2.heap.size w2 w4) := Lib.hid (HBV.out.trans (hb.mono HBV.out.size))
      obtain ⟨d0, d1⟩ := MK.out w4 HBV2.out
      clear hb
      go_wp2_with fail
      refine (HC2.out _ (HBA.out.trans (HBV2.out.mono HBA.out.size))).mono ?_; rintro e w5 ⟨rfl, hb⟩
      have HBV3 : Hid (Below w2.heap.size w2 w5) := Lib.hid (HBV2.out.trans (hb.mono HBV2.out.size))
      clear hb
      cases t2 with
      | false =>
        have HF : Hid (false = Z) := Lib.hid (by rw [← HQ2.out]; rfl)
        go_wp2_with fail
        go_ret
        exact ⟨ret_b HF.out, HB.out.trans ((HBA.out.trans (HBV3.out.mono HBA.out.size)).mono hz)⟩
      | true =>
        have HF : Hid (argsB (A.take (k + 1)) (A.drop (k + 1)) = Z) := Lib.hid (by rw [← HQ2.out]; rfl)
        go_wp2_with fail
        go_roundw
        case rel => exact ⟨k + 1, by omega, by go_num, HF, Lib.hid (HB.out.trans ((HBA.out.trans (HBV3.out.mono HBA.out.size)).mono hz))⟩
        case measure => simp [intOf]; omega
set_option maxRecDepth 100000 in
theorem sargs_none (a : Option Addr) (c : Nat) (w : World) :
    Calls Tryz.prog 62 #[.slice a 0 c] w fun e w' => e = .returned (.bool true) ∧ Below w.heap.size w w' := by
  go_enter Tryz.func62, Tryz.ntmps62
  go_wp2_with fail
  refine wp_loop_rounds 1 ?_; rw [rounds_succ]
  go_wp2_with fail
  go_ret
  exact ⟨rfl, Below.refl _ _⟩
/-- Arguments of definitions: they may be, and there is no variable in them. -/
def fixA (A : List ArgD) : Bool := namedB [] A && !A.any fun a => a.2.any isV
theorem argsm_any (A : List ArgD) (v : Value) (w : World) (hv : ArgSlc v A w) (hs : ArgsSm A) (hE : EnvU w) :
    Calls Tryz.prog 62 #[v] w fun e w' => e = .returned (.bool (fixA A)) ∧ Below w.heap.size w w' := by
  have he : fixA A = argsB [] A := (argsB_named A [] [] (fun s => by simp)).symm
  rw [he]
  obtain ⟨hv, a, n, c, e, hc⟩ := hv
  rcases hv with ⟨a, c, rfl, rfl⟩ | ⟨b, off, cap, rfl, hrow, hpos⟩
  · exact sargs_none a c w
  · injection e with _ e2 e3
    exact sargs_go A b off cap hs.1 (by omega) w hrow hs.2 hE
set_option maxRecDepth 100000 in
set_option maxHeartbeats 4000000 in
theorem sdc_c (x0 : ByteArray) (xa1 : Option Addr) (xn1 xc1 : Nat) (t0 t1 : Bool) (w : World)
    (H0 : Hid (∀ W, Below w.heap.size w W → Calls Tryz.prog 31 #[.string x0] W fun e w' => e = .returned (.bool t0) ∧ Below W.heap.size W w'))
    (H1 : Hid (∀ W, Below w.heap.size w W → Calls Tryz.prog 62 #[.slice xa1 xn1 xc1] W fun e w' => e = .returned (.bool t1) ∧ Below W.heap.size W w')) :
    Calls Tryz.prog 61 #[.agg #[.string x0, .slice xa1 xn1 xc1]] w fun e w' => e = .returned (.bool (!(t0 && t1))) ∧ Below w.heap.size w w' := by
  go_enter Tryz.func61, Tryz.ntmps61
  go_upto_region 1 with fail
  obtain ⟨w2, hw2⟩ : ∃ w2, w.alloc (.cells #[.string x0, .slice xa1 xn1 xc1] 98 (0, 0)) = w2 := ⟨_, rfl⟩
  have HB2 : Hid (Below w.heap.size w w2) := Lib.hid (by rw [← hw2]; exact (Below.refl _ _).alloc (Nat.le_refl _) _)
  have k1 : w2.heap[w.heap.size]? = some (.cells #[.string x0, .slice xa1 xn1 xc1] 98 (0, 0)) := by rw [← hw2]; exact heap_new _ _ _ rfl
  have MK : Hid (∀ W, Below w2.heap.size w2 W → W.cell? ⟨w.heap.size, 0, none⟩ = some (.string x0) ∧ W.cell? ⟨w.heap.size, 1, none⟩ = some (.slice xa1 xn1 xc1)) := Lib.hid fun W hW => ⟨(Lib.cell_of_heap ((hW.block _ (heap_lt k1)).trans k1) 0).trans rfl, (Lib.cell_of_heap ((hW.block _ (heap_lt k1)).trans k1) 1).trans rfl⟩
  obtain ⟨d0, d1⟩ := MK.out w2 (Below.refl _ _)
  have HBV : Hid (Below w2.heap.size w2 w2) := Lib.hid (Below.refl _ _)
  try rw [hw2]
  clear hw2 k1
  cases t0 with
  | false =>
    go_wp2_with fail
    refine (H0.out _ (HB2.out.trans (HBV.out.mono HB2.out.size))).mono ?_; rintro e w5 ⟨rfl, hb⟩
    have HBV2 : Hid (Below w2.heap.size w2 w5) := Lib.hid (HBV.out.trans (hb.mono HBV.out.size))
    obtain ⟨d0, d1⟩ := MK.out w5 HBV2.out
    clear HBV hb
    have HBV := HBV2
    clear HBV2
    go_wp2_with fail
    go_ret
    exact ⟨ret_b rfl, HB2.out.trans (HBV.out.mono HB2.out.size)⟩
  | true =>
    go_wp2_with fail
    refine (H0.out _ (HB2.out.trans (HBV.out.mono HB2.out.size))).mono ?_; rintro e w5 ⟨rfl, hb⟩
    have HBV2 : Hid (Below w2.heap.size w2 w5) := Lib.hid (HBV.out.trans (hb.mono HBV.out.size))
    obtain ⟨d0, d1⟩ := MK.out w5 HBV2.out
    clear HBV hb
    have HBV := HBV2
    clear HBV2
    cases t1 with
    | false =>
      go_wp2_with fail
      refine (H1.out _ (HB2.out.trans (HBV.out.mono HB2.out.size))).mono ?_; rintro e w5 ⟨rfl, hb⟩
      have HBV2 : Hid (Below w2.heap.size w2 w5) := Lib.hid (HBV.out.trans (hb.mono HBV.out.size))
      obtain ⟨d0, d1⟩ := MK.out w5 HBV2.out
      clear HBV hb
      have HBV := HBV2
      clear HBV2
      go_wp2_with fail
      go_ret
      exact ⟨ret_b rfl, HB2.out.trans (HBV.out.mono HB2.out.size)⟩
    | true =>
      go_wp2_with fail
      refine (H1.out _ (HB2.out.trans (HBV.out.mono HB2.out.size))).mono ?_; rintro e w5 ⟨rfl, hb⟩
      have HBV2 : Hid (Below w2.heap.size w2 w5) := Lib.hid (HBV.out.trans (hb.mono HBV.out.size))
      obtain ⟨d0, d1⟩ := MK.out w5 HBV2.out
      clear HBV hb
      have HBV := HBV2
      clear HBV2
      go_wp2_with fail
      go_ret
      exact ⟨ret_b rfl, HB2.out.trans (HBV.out.mono HB2.out.size)⟩
theorem sdc_ent : ∀ args w, (callFunc 61 args).run Tryz.prog w = .ok (.enter 61 args) w := enters_of Tryz.func61 (by kernel_rfl) rfl
def fixD1 (d : DirD) : Bool := nameB d.1 && fixA d.2
theorem sdc_any (x : DirD) (ev : Value) (w : World) (h : DirV ev x w) (hs : DirSm x) (hE : EnvU w) :
    Calls Tryz.prog 61 #[ev] w fun e w' => e = .returned (.bool (!fixD1 x)) ∧ Below w.heap.size w w' := by
  obtain ⟨a, n, c, rfl, h1⟩ := h
  exact sdc_c _ _ _ _ _ _ w (Lib.hid fun W _ => calls_below (lname_any _ (by rw [← bsz]; exact hs.1) W)) (Lib.hid fun W hW => argsm_any _ _ W (ArgSlc.below h1 hW) hs.2 (hE.below hW))
set_option maxRecDepth 100000 in
theorem sdirsm_any (L : List DirD) (v : Value) (w : World) (hv : DirSlc v L w) (hs : DirsSm L) (hE : EnvU w) :
    Calls Tryz.prog 36 #[v] w fun e w' => e = .returned (.bool (L.all fixD1)) ∧ Below w.heap.size w w' := by
  have HC : Hid (Calls Tryz.prog 60 #[v, .func (.func 61) #[] #[]] w fun e w' => e = .returned (.bool (L.any fun x => !fixD1 x)) ∧ Below w.heap.size w w') := Lib.hid (
    dir_contains _ #[] sdc_ent (fun x => !fixD1 x) L v w hv hs.1 (Lib.hid fun W k hk ev hev hb => sdc_any _ ev W hev (hs.2 _ (List.getElem_mem hk)) (hE.below hb)))
  have hr : L.all fixD1 = !L.any fun x => !fixD1 x := by
    induction L with
    | nil => rfl
    | cons x r ih =>
      rw [List.all_cons, List.any_cons, Bool.not_or, Bool.not_not]
      congr 1
      clear hv hs HC ih
      induction r with
      | nil => rfl
      | cons y s ih2 => rw [List.all_cons, List.any_cons, Bool.not_or, Bool.not_not, ih2]
  rw [hr]
  clear hr hv hs hE
  generalize (L.any fun x => !fixD1 x) = r at *
  go_enter Tryz.func36, Tryz.ntmps36
  go_wp2_with fail
  refine HC.out.mono ?_; rintro e w1 ⟨rfl, hb⟩
  have HB := Lib.hid hb
  clear hb
  go_wp2_with fail
  go_ret
  exact ⟨rfl, HB.out⟩
end Go.Proofs.YtfagaflgdlomiaaGreatDoor
namespace Go.Proofs.YtfagaflgdlomiaaGreatDoor
open Go.RowKit
set_option maxRecDepth 100000 in
set_option maxHeartbeats 4000000 in
theorem sic_c (x0 : ByteArray) (x1 : ByteArray) (xa2 : Option Addr) (xn2 xc2 : Nat) (x3 : Bool) (xa4 : Option Addr) (xn4 xc4 : Nat) (xa5 : Option Addr) (xn5 xc5 : Nat) (t0 t1 t2 t3 t4 : Bool) (w : World)
    (H0 : Hid (∀ W, Below w.heap.size w W → Calls Tryz.prog 31 #[.string x0] W fun e w' => e = .returned (.bool t0) ∧ Below W.heap.size W w'))
    (H1 : Hid (∀ W, Below w.heap.size w W → Calls Tryz.prog 35 #[.agg #[.string x1, .slice xa2 xn2 xc2]] W fun e w' => e = .returned (.bool t1) ∧ Below W.heap.size W w'))
    (H2 : Hid (∀ W, Below w.heap.size w W → Calls Tryz.prog 36 #[.slice xa5 xn5 xc5] W fun e w' => e = .returned (.bool t2) ∧ Below W.heap.size W w'))
    (H3 : Hid (∀ W, Below w.heap.size w W → Calls Tryz.prog 64 #[.slice xa4 xn4 xc4] W fun e w' => e = .returned (.bool t3) ∧ Below W.heap.size W w'))
    (h4 : (xn4 == 0) = t4) :
    Calls Tryz.prog 63 #[.agg #[.string x0, .string x1, .slice xa2 xn2 xc2, .bool x3, .slice xa4 xn4 xc4, .slice xa5 xn5 xc5]] w fun e w' => e = .returned (.bool (!(t0 && t1 && t2 && cond x3 t3 t4))) ∧ Below w.heap.size w w' := by
  go_enter Tryz.func63, Tryz.ntmps63
  go_upto_region 1 with fail
  obtain ⟨w2, hw2⟩ : ∃ w2, w.alloc (.cells #[.string x0, .string x1, .slice xa2 xn2 xc2, .bool x3, .slice xa4 xn4 xc4, .slice xa5 xn5 xc5] 61 (0, 0)) = w2 := ⟨_, rfl⟩
  have HB2 : Hid (Below w.heap.size w w2) := Lib.hid (by rw [← hw2]; exact (Below.refl _ _).alloc (Nat.le_refl _) _)
  have k1 : w2.heap[w.heap.size]? = some (.cells #[.string x0, .string x1, .slice xa2 xn2 xc2, .bool x3, .slice xa4 xn4 xc4, .slice xa5 xn5 xc5] 61 (0, 0)) := by rw [← hw2]; exact heap_new _ _ _ rfl
  have MK : Hid (∀ W, Below w2.heap.size w2 W → W.cell? ⟨w.heap.size, 0, none⟩ = some (.string x0) ∧ W.cell? ⟨w.heap.size, 1, none⟩ = some (.string x1) ∧ W.cell? ⟨w.heap.size, 2, none⟩ = some (.slice xa2 xn2 xc2) ∧ W.cell? ⟨w.heap.size, 3, none⟩ = some (.bool x3) ∧ W.cell? ⟨w.heap.size, 4, none⟩ = some (.slice xa4 xn4 xc4) ∧ W.cell? ⟨w.heap.size, 5, none⟩ = some (.slice xa5 xn5 xc5)) := Lib.hid fun W hW => ⟨(Lib.cell_of_heap ((hW.block _ (heap_lt k1)).trans k1) 0).trans rfl, (Lib.cell_of_heap ((hW.block _ (heap_lt k1)).trans k1) 1).trans rfl, (Lib.cell_of_heap ((hW.block _ (heap_lt k1)).trans k1) 2).trans rfl, (Lib.cell_of_heap ((hW.block _ (heap_lt k1)).trans k1) 3).trans rfl, (Lib.cell_of_heap ((hW.block _ (heap_lt k1)).trans k1) 4).trans rfl, (Lib.cell_of_heap ((hW.block _ (heap_lt k1)).trans k1) 5).trans rfl⟩
  obtain ⟨d0, d1, d2, d3, d4, d5⟩ := MK.out w2 (Below.refl _ _)
  have HBV : Hid (Below w2.heap.size w2 w2) := Lib.hid (Below.refl _ _)
  try rw [hw2]
  clear hw2 k1
  cases t0 with
  | false =>
    go_wp2_with fail
    refine (H0.out _ (HB2.out.trans (HBV.out.mono HB2.out.size))).mono ?_; rintro e w5 ⟨rfl, hb⟩
    have HBV2 : Hid (Below w2.heap.size w2 w5) := Lib.hid (HBV.out.trans (hb.mono HBV.out.size))
    obtain ⟨d0, d1, d2, d3, d4, d5⟩ := MK.out w5 HBV2.out
    clear HBV hb
    have HBV := HBV2
    clear HBV2
    go_wp2_with fail
    go_ret
    exact ⟨ret_b rfl, HB2.out.trans (HBV.out.mono HB2.out.size)⟩
  | true =>
    go_wp2_with fail
    refine (H0.out _ (HB2.out.trans (HBV.out.mono HB2.out.size))).mono ?_; rintro e w5 ⟨rfl, hb⟩
    have HBV2 : Hid (Below w2.heap.size w2 w5) := Lib.hid (HBV.out.trans (hb.mono HBV.out.size))
    obtain ⟨d0, d1, d2, d3, d4, d5⟩ := MK.out w5 HBV2.out
    clear HBV hb
    have HBV := HBV2
    clear HBV2
    cases t1 with
    | false =>
      go_wp2_with fail
      refine (H1.out _ (HB2.out.trans (HBV.out.mono HB2.out.size))).mono ?_; rintro e w5 ⟨rfl, hb⟩
      have HBV2 : Hid (Below w2.heap.size w2 w5) := Lib.hid (HBV.out.trans (hb.mono HBV.out.size))
      obtain ⟨d0, d1, d2, d3, d4, d5⟩ := MK.out w5 HBV2.out
      clear HBV hb
      have HBV := HBV2
      clear HBV2
      go_wp2_with fail
      go_ret
      exact ⟨ret_b rfl, HB2.out.trans (HBV.out.mono HB2.out.size)⟩
    | true =>
      go_wp2_with fail
      refine (H1.out _ (HB2.out.trans (HBV.out.mono HB2.out.size))).mono ?_; rintro e w5 ⟨rfl, hb⟩
      have HBV2 : Hid (Below w2.heap.size w2 w5) := Lib.hid (HBV.out.trans (hb.mono HBV.out.size))
      obtain ⟨d0, d1, d2, d3, d4, d5⟩ := MK.out w5 HBV2.out
      clear HBV hb
      have HBV := HBV2
      clear HBV2
      cases t2 with
      | false =>
        go_wp2_with fail
        refine (H2.out _ (HB2.out.trans (HBV.out.mono HB2.out.size))).mono ?_; rintro e w5 ⟨rfl, hb⟩
        have HBV2 : Hid (Below w2.heap.size w2 w5) := Lib.hid (HBV.out.trans (hb.mono HBV.out.size))
        obtain ⟨d0, d1, d2, d3, d4, d5⟩ := MK.out w5 HBV2.out
        clear HBV hb
        have HBV := HBV2
        clear HBV2
        go_wp2_with fail
        go_ret
        exact ⟨ret_b rfl, HB2.out.trans (HBV.out.mono HB2.out.size)⟩
      | true =>
        go_wp2_with fail
        refine (H2.out _ (HB2.out.trans (HBV.out.mono HB2.out.size))).mono ?_; rintro e w5 ⟨rfl, hb⟩
        have HBV2 : Hid (Below w2.heap.size w2 w5) := Lib.hid (HBV.out.trans (hb.mono HBV.out.size))
        obtain ⟨d0, d1, d2, d3, d4, d5⟩ := MK.out w5 HBV2.out
        clear HBV hb
        have HBV := HBV2
        clear HBV2
        cases x3 with
        | false =>
          cases t4 with
          | false =>
            have hne : 0 < xn4 := by have := beq_eq_false_iff_ne.1 h4; omega
            go_wp2_with fail
            go_ret
            exact ⟨ret_b rfl, HB2.out.trans (HBV.out.mono HB2.out.size)⟩
          | true =>
            have hne : ¬ 0 < xn4 := by have := beq_iff_eq.1 h4; omega
            go_wp2_with fail
            go_ret
            exact ⟨ret_b rfl, HB2.out.trans (HBV.out.mono HB2.out.size)⟩
        | true =>
          cases t3 with
          | false =>
            go_wp2_with fail
            refine (H3.out _ (HB2.out.trans (HBV.out.mono HB2.out.size))).mono ?_; rintro e w5 ⟨rfl, hb⟩
            have HBV2 : Hid (Below w2.heap.size w2 w5) := Lib.hid (HBV.out.trans (hb.mono HBV.out.size))
            obtain ⟨d0, d1, d2, d3, d4, d5⟩ := MK.out w5 HBV2.out
            clear HBV hb
            have HBV := HBV2
            clear HBV2
            go_wp2_with fail
            go_ret
            exact ⟨ret_b rfl, HB2.out.trans (HBV.out.mono HB2.out.size)⟩
          | true =>
            go_wp2_with fail
            refine (H3.out _ (HB2.out.trans (HBV.out.mono HB2.out.size))).mono ?_; rintro e w5 ⟨rfl, hb⟩
            have HBV2 : Hid (Below w2.heap.size w2 w5) := Lib.hid (HBV.out.trans (hb.mono HBV.out.size))
            obtain ⟨d0, d1, d2, d3, d4, d5⟩ := MK.out w5 HBV2.out
            clear HBV hb
            have HBV := HBV2
            clear HBV2
            go_wp2_with fail
            go_ret
            exact ⟨ret_b rfl, HB2.out.trans (HBV.out.mono HB2.out.size)⟩
theorem sic_ent : ∀ args w, (callFunc 63 args).run Tryz.prog w = .ok (.enter 63 args) w := enters_of Tryz.func63 (by kernel_rfl) rfl
def fixD' (D : List DirD) : Bool := D.all fixD1
/-- An input that may be. -/
def inpB (x : Inp) : Bool := nameB x.name && ttB x.tnm x.wr && fixD' x.dirs && cond x.has (fixV x.dflt) x.dflt.isEmpty
theorem celsl_len {a : Option Addr} {n c : Nat} {V : List Cel} {w : World} (h : CelSl (.slice a n c) V w) : n = V.length := by
  rcases h with ⟨_, _, e, rfl, _⟩ | ⟨_, _, _, e, _⟩
  · injection e with _ e2 _
  · injection e with _ e2 _
theorem sic_any (x : Inp) (ev : Value) (w : World) (h : InpV ev x w) (hs : InpSm x) (hE : EnvU w) :
    Calls Tryz.prog 63 #[ev] w fun e w' => e = .returned (.bool (!inpB x)) ∧ Below w.heap.size w w' := by
  obtain ⟨_, _, _, _, _, _, _, _, _, rfl, h1, h2, h3⟩ := h
  refine sic_c _ _ _ _ _ _ _ _ _ _ _ _ _ _ _ _ _ w ?_ ?_ ?_ ?_ ?_
  · exact Lib.hid fun W _ => calls_below (lname_big _ (by rw [← bsz]; exact hs.1) W)
  · exact Lib.hid fun W hW => styp_any _ _ _ _ _ W (h1.below hW) hs.2.1 hs.2.2.1
  · exact Lib.hid fun W hW => sdirsm_any _ _ W (DirSlc.below h3 hW) hs.2.2.2.2 (hE.below hW)
  · exact Lib.hid fun W hW => fixed_any _ _ W (h2.below hW) hs.2.2.2.1 (hE.below hW)
  · rw [celsl_len h2]
    cases x.dflt <;> rfl
set_option maxRecDepth 100000 in
theorem sinputs_any (L : List Inp) (v : Value) (w : World) (hv : InpSl v L w) (hs : InpsSm L) (hE : EnvU w) :
    Calls Tryz.prog 37 #[v] w fun e w' => e = .returned (.bool (L.all inpB)) ∧ Below w.heap.size w w' := by
  have HC : Hid (Calls Tryz.prog 52 #[v, .func (.func 63) #[] #[]] w fun e w' => e = .returned (.bool (L.any fun x => !inpB x)) ∧ Below w.heap.size w w') := Lib.hid (
    inp_contains _ #[] sic_ent (fun x => !inpB x) L v w hv hs.1 (Lib.hid fun W k hk ev hev hb => sic_any _ ev W hev (hs.2 _ (List.getElem_mem hk)) (hE.below hb)))
  have hr : L.all inpB = !L.any fun x => !inpB x := by
    induction L with
    | nil => rfl
    | cons x r ih =>
      rw [List.all_cons, List.any_cons, Bool.not_or, Bool.not_not]
      congr 1
      clear hv hs HC ih
      induction r with
      | nil => rfl
      | cons y s ih2 => rw [List.all_cons, List.any_cons, Bool.not_or, Bool.not_not, ih2]
  rw [hr]
  clear hr hv hs hE
  generalize (L.any fun x => !inpB x) = r at *
  go_enter Tryz.func37, Tryz.ntmps37
  go_wp2_with fail
  refine HC.out.mono ?_; rintro e w1 ⟨rfl, hb⟩
  have HB := Lib.hid hb
  clear hb
  go_wp2_with fail
  go_ret
  exact ⟨rfl, HB.out⟩
set_option maxRecDepth 100000 in
set_option maxHeartbeats 4000000 in
theorem sfc_c (x0 : ByteArray) (xa1 : Option Addr) (xn1 xc1 : Nat) (x2 : ByteArray) (xa3 : Option Addr) (xn3 xc3 : Nat) (xa4 : Option Addr) (xn4 xc4 : Nat) (t0 t1 t2 t3 : Bool) (w : World)
    (H0 : Hid (∀ W, Below w.heap.size w W → Calls Tryz.prog 31 #[.string x0] W fun e w' => e = .returned (.bool t0) ∧ Below W.heap.size W w'))
    (H1 : Hid (∀ W, Below w.heap.size w W → Calls Tryz.prog 35 #[.agg #[.string x2, .slice xa3 xn3 xc3]] W fun e w' => e = .returned (.bool t1) ∧ Below W.heap.size W w'))
    (H2 : Hid (∀ W, Below w.heap.size w W → Calls Tryz.prog 36 #[.slice xa4 xn4 xc4] W fun e w' => e = .returned (.bool t2) ∧ Below W.heap.size W w'))
    (H3 : Hid (∀ W, Below w.heap.size w W → Calls Tryz.prog 37 #[.slice xa1 xn1 xc1] W fun e w' => e = .returned (.bool t3) ∧ Below W.heap.size W w')) :
    Calls Tryz.prog 34 #[.agg #[.string x0, .slice xa1 xn1 xc1, .string x2, .slice xa3 xn3 xc3, .slice xa4 xn4 xc4]] w fun e w' => e = .returned (.bool (!(t0 && t1 && t2 && t3))) ∧ Below w.heap.size w w' := by
  go_enter Tryz.func34, Tryz.ntmps34
  go_upto_region 1 with fail
  obtain ⟨w2, hw2⟩ : ∃ w2, w.alloc (.cells #[.string x0, .slice xa1 xn1 xc1, .string x2, .slice xa3 xn3 xc3, .slice xa4 xn4 xc4] 66 (0, 0)) = w2 := ⟨_, rfl⟩
  have HB2 : Hid (Below w.heap.size w w2) := Lib.hid (by rw [← hw2]; exact (Below.refl _ _).alloc (Nat.le_refl _) _)
  have k1 : w2.heap[w.heap.size]? = some (.cells #[.string x0, .slice xa1 xn1 xc1, .string x2, .slice xa3 xn3 xc3, .slice xa4 xn4 xc4] 66 (0, 0)) := by rw [← hw2]; exact heap_new _ _ _ rfl
  have MK : Hid (∀ W, Below w2.heap.size w2 W → W.cell? ⟨w.heap.size, 0, none⟩ = some (.string x0) ∧ W.cell? ⟨w.heap.size, 1, none⟩ = some (.slice xa1 xn1 xc1) ∧ W.cell? ⟨w.heap.size, 2, none⟩ = some (.string x2) ∧ W.cell? ⟨w.heap.size, 3, none⟩ = some (.slice xa3 xn3 xc3) ∧ W.cell? ⟨w.heap.size, 4, none⟩ = some (.slice xa4 xn4 xc4)) := Lib.hid fun W hW => ⟨(Lib.cell_of_heap ((hW.block _ (heap_lt k1)).trans k1) 0).trans rfl, (Lib.cell_of_heap ((hW.block _ (heap_lt k1)).trans k1) 1).trans rfl, (Lib.cell_of_heap ((hW.block _ (heap_lt k1)).trans k1) 2).trans rfl, (Lib.cell_of_heap ((hW.block _ (heap_lt k1)).trans k1) 3).trans rfl, (Lib.cell_of_heap ((hW.block _ (heap_lt k1)).trans k1) 4).trans rfl⟩
  obtain ⟨d0, d1, d2, d3, d4⟩ := MK.out w2 (Below.refl _ _)
  have HBV : Hid (Below w2.heap.size w2 w2) := Lib.hid (Below.refl _ _)
  try rw [hw2]
  clear hw2 k1
  cases t0 with
  | false =>
    go_wp2_with fail
    refine (H0.out _ (HB2.out.trans (HBV.out.mono HB2.out.size))).mono ?_; rintro e w5 ⟨rfl, hb⟩
    have HBV2 : Hid (Below w2.heap.size w2 w5) := Lib.hid (HBV.out.trans (hb.mono HBV.out.size))
    obtain ⟨d0, d1, d2, d3, d4⟩ := MK.out w5 HBV2.out
    clear HBV hb
    have HBV := HBV2
    clear HBV2
    go_wp2_with fail
    go_ret
    exact ⟨ret_b rfl, HB2.out.trans (HBV.out.mono HB2.out.size)⟩
  | true =>
    go_wp2_with fail
    refine (H0.out _ (HB2.out.trans (HBV.out.mono HB2.out.size))).mono ?_; rintro e w5 ⟨rfl, hb⟩
    have HBV2 : Hid (Below w2.heap.size w2 w5) := Lib.hid (HBV.out.trans (hb.mono HBV.out.size))
    obtain ⟨d0, d1, d2, d3, d4⟩ := MK.out w5 HBV2.out
    clear HBV hb
    have HBV := HBV2
    clear HBV2
    cases t1 with
    | false =>
      go_wp2_with fail
      refine (H1.out _ (HB2.out.trans (HBV.out.mono HB2.out.size))).mono ?_; rintro e w5 ⟨rfl, hb⟩
      have HBV2 : Hid (Below w2.heap.size w2 w5) := Lib.hid (HBV.out.trans (hb.mono HBV.out.size))
      obtain ⟨d0, d1, d2, d3, d4⟩ := MK.out w5 HBV2.out
      clear HBV hb
      have HBV := HBV2
      clear HBV2
      go_wp2_with fail
      go_ret
      exact ⟨ret_b rfl, HB2.out.trans (HBV.out.mono HB2.out.size)⟩
    | true =>
      go_wp2_with fail
      refine (H1.out _ (HB2.out.trans (HBV.out.mono HB2.out.size))).mono ?_; rintro e w5 ⟨rfl, hb⟩
      have HBV2 : Hid (Below w2.heap.size w2 w5) := Lib.hid (HBV.out.trans (hb.mono HBV.out.size))
      obtain ⟨d0, d1, d2, d3, d4⟩ := MK.out w5 HBV2.out
      clear HBV hb
      have HBV := HBV2
      clear HBV2
      cases t2 with
      | false =>
        go_wp2_with fail
        refine (H2.out _ (HB2.out.trans (HBV.out.mono HB2.out.size))).mono ?_; rintro e w5 ⟨rfl, hb⟩
        have HBV2 : Hid (Below w2.heap.size w2 w5) := Lib.hid (HBV.out.trans (hb.mono HBV.out.size))
        obtain ⟨d0, d1, d2, d3, d4⟩ := MK.out w5 HBV2.out
        clear HBV hb
        have HBV := HBV2
        clear HBV2
        go_wp2_with fail
        go_ret
        exact ⟨ret_b rfl, HB2.out.trans (HBV.out.mono HB2.out.size)⟩
      | true =>
        go_wp2_with fail
        refine (H2.out _ (HB2.out.trans (HBV.out.mono HB2.out.size))).mono ?_; rintro e w5 ⟨rfl, hb⟩
        have HBV2 : Hid (Below w2.heap.size w2 w5) := Lib.hid (HBV.out.trans (hb.mono HBV.out.size))
        obtain ⟨d0, d1, d2, d3, d4⟩ := MK.out w5 HBV2.out
        clear HBV hb
        have HBV := HBV2
        clear HBV2
        cases t3 with
        | false =>
          go_wp2_with fail
          refine (H3.out _ (HB2.out.trans (HBV.out.mono HB2.out.size))).mono ?_; rintro e w5 ⟨rfl, hb⟩
          have HBV2 : Hid (Below w2.heap.size w2 w5) := Lib.hid (HBV.out.trans (hb.mono HBV.out.size))
          obtain ⟨d0, d1, d2, d3, d4⟩ := MK.out w5 HBV2.out
          clear HBV hb
          have HBV := HBV2
          clear HBV2
          go_wp2_with fail
          go_ret
          exact ⟨ret_b rfl, HB2.out.trans (HBV.out.mono HB2.out.size)⟩
        | true =>
          go_wp2_with fail
          refine (H3.out _ (HB2.out.trans (HBV.out.mono HB2.out.size))).mono ?_; rintro e w5 ⟨rfl, hb⟩
          have HBV2 : Hid (Below w2.heap.size w2 w5) := Lib.hid (HBV.out.trans (hb.mono HBV.out.size))
          obtain ⟨d0, d1, d2, d3, d4⟩ := MK.out w5 HBV2.out
          clear HBV hb
          have HBV := HBV2
          clear HBV2
          go_wp2_with fail
          go_ret
          exact ⟨ret_b rfl, HB2.out.trans (HBV.out.mono HB2.out.size)⟩
theorem sfc_ent : ∀ args w, (callFunc 34 args).run Tryz.prog w = .ok (.enter 34 args) w := enters_of Tryz.func34 (by kernel_rfl) rfl
/-- A field that may be. -/
def fldB (x : Fld) : Bool := nameB x.name && ttB x.tnm x.wr && fixD' x.dirs && x.args.all inpB
theorem sfc_any (x : Fld) (ev : Value) (w : World) (h : FldV ev x w) (hs : FldSm x) (hE : EnvU w) :
    Calls Tryz.prog 34 #[ev] w fun e w' => e = .returned (.bool (!fldB x)) ∧ Below w.heap.size w w' := by
  obtain ⟨_, _, _, _, _, _, _, _, _, rfl, h1, h2, h3⟩ := h
  refine sfc_c _ _ _ _ _ _ _ _ _ _ _ _ _ _ _ w ?_ ?_ ?_ ?_
  · exact Lib.hid fun W _ => calls_below (lname_big _ (by rw [← bsz]; exact hs.1) W)
  · exact Lib.hid fun W hW => styp_any _ _ _ _ _ W (h2.below hW) hs.2.1 hs.2.2.1
  · exact Lib.hid fun W hW => sdirsm_any _ _ W (DirSlc.below h3 hW) hs.2.2.2.2 (hE.below hW)
  · exact Lib.hid fun W hW => sinputs_any _ _ W (InpSl.below h1 hW) hs.2.2.2.1 (hE.below hW)
theorem sflds_contains (L : List Fld) (v : Value) (w : World) (hv : FldSl v L w) (hs : FldsSm L) (hE : EnvU w) :
    Calls Tryz.prog 33 #[v, .func (.func 34) #[] #[]] w fun e w' => e = .returned (.bool (L.any fun x => !fldB x)) ∧ Below w.heap.size w w' :=
  fld_contains _ #[] sfc_ent (fun x => !fldB x) L v w hv hs.1 (Lib.hid fun W k hk ev hev hb => sfc_any _ ev W hev (hs.2 _ (List.getElem_mem hk)) (hE.below hb))
set_option maxRecDepth 100000 in
theorem snc_c (s : ByteArray) (t0 t1 : Bool) (w : World) (H0 : Hid (∀ W, Calls Tryz.prog 31 #[.string s] W fun e w' => e = .returned (.bool t0) ∧ W = w')) (H1 : Hid (∀ W, Calls Tryz.prog 32 #[.string s] W fun e w' => e = .returned (.bool t1) ∧ W = w')) :
    Calls Tryz.prog 30 #[.string s] w fun e w' => e = .returned (.bool (!(t0 && !t1))) ∧ Below w.heap.size w w' := by
  go_enter Tryz.func30, Tryz.ntmps30
  cases t0 with
  | false =>
    go_wp2_with fail
    refine (H0.out _).mono ?_; rintro e w2 ⟨rfl, rfl⟩
    go_wp2_with fail
    go_ret
    exact ⟨ret_b rfl, Below.refl _ _⟩
  | true =>
    go_wp2_with fail
    refine (H0.out _).mono ?_; rintro e w2 ⟨rfl, rfl⟩
    go_wp2_with fail
    refine (H1.out _).mono ?_; rintro e w2 ⟨rfl, rfl⟩
    go_wp2_with fail
    go_ret
    exact ⟨ret_b (by cases t1 <;> rfl), Below.refl _ _⟩
theorem snc_ent : ∀ args w, (callFunc 30 args).run Tryz.prog w = .ok (.enter 30 args) w := enters_of Tryz.func30 (by kernel_rfl) rfl
/-- An enum's name. -/
def enmB (s : List UInt8) : Bool := nameB s && !wordsK.contains s
theorem snames_contains (L : List (List UInt8)) (v : Value) (w : World) (hv : NmsSl v L w) (hs : NmsSm L) :
    Calls Tryz.prog 29 #[v, .func (.func 30) #[] #[]] w fun e w' => e = .returned (.bool (L.any fun x => !enmB x)) ∧ Below w.heap.size w w' :=
  nam_contains _ #[] snc_ent (fun x => !enmB x) L v w hv hs.1 (Lib.hid fun W k hk ev hev hb => by
    have hev : ev = .string ⟨L[k].toArray⟩ := hev
    subst hev
    exact snc_c _ _ _ W (Lib.hid fun W => lname_any _ (by rw [← bsz]; exact hs.2 _ (List.getElem_mem hk)) W) (Lib.hid fun W => scon_any _ W))
/-- Which parts a definition of a kind has. -/
def kindB (k : Int) (n m f : Nat) : Bool := if k = 1 then decide (0 < n) && !decide (0 < m) && !decide (0 < f) else if k = 2 then !decide (0 < n) && decide (0 < m) && !decide (0 < f) else if k = 3 then !decide (0 < n) && !decide (0 < m) && decide (0 < f) else false
theorem has_0 (a b c d : Bool) (w : World) : (Instr.index 82 (.agg #[.bool a, .bool b, .bool c, .bool d]) (.int .i64 0)).run Tryz.prog w = .ok (.bool a) w := by kernel_rfl
theorem has_1 (a b c d : Bool) (w : World) : (Instr.index 82 (.agg #[.bool a, .bool b, .bool c, .bool d]) (.int .i64 1)).run Tryz.prog w = .ok (.bool b) w := by kernel_rfl
theorem has_2 (a b c d : Bool) (w : World) : (Instr.index 82 (.agg #[.bool a, .bool b, .bool c, .bool d]) (.int .i64 2)).run Tryz.prog w = .ok (.bool c) w := by kernel_rfl
theorem has_3 (a b c d : Bool) (w : World) : (Instr.index 82 (.agg #[.bool a, .bool b, .bool c, .bool d]) (.int .i64 3)).run Tryz.prog w = .ok (.bool d) w := by kernel_rfl
set_option maxRecDepth 100000 in
set_option maxHeartbeats 8000000 in
theorem scd_bad (kk : Int) (x1 : ByteArray) (xa2 xa3 xa4 xa5 : Option Addr) (xn2 xc2 xn3 xc3 xn4 xc4 xn5 xc5 : Nat) (w : World) (hk : kk = 1 ∨ kk = 2 ∨ kk = 3) (h : kindB kk xn3 xn4 xn5 = false) :
    Calls Tryz.prog 28 #[.agg #[.int .u8 kk, .string x1, .slice xa2 xn2 xc2, .slice xa3 xn3 xc3, .slice xa4 xn4 xc4, .slice xa5 xn5 xc5]] w fun e w' => e = .returned (.bool true) ∧ Below w.heap.size w w' := by
  have key : ∀ n : Nat, 0 < n ∨ ¬ 0 < n := fun n => Classical.em _
  have HH := Lib.hid h
  clear h
  rcases hk with rfl | rfl | rfl <;> rcases key xn3 with h3 | h3 <;> rcases key xn4 with h4 | h4 <;> rcases key xn5 with h5 | h5
  all_goals first
    | (exfalso
       have := HH.out
       revert this
       clear HH
       unfold kindB
       simp only [show ((1 : Int) = 1) = True from by simp, show ((2 : Int) = 1) = False from by simp, show ((2 : Int) = 2) = True from by simp, show ((3 : Int) = 1) = False from by simp, show ((3 : Int) = 2) = False from by simp, show ((3 : Int) = 3) = True from by simp, if_true, if_false]
       first
         | (rw [decide_eq_true (by omega : 0 < xn3), decide_eq_false (by omega : ¬ 0 < xn4), decide_eq_false (by omega : ¬ 0 < xn5)]; intro h; cases h; done)
         | (rw [decide_eq_false (by omega : ¬ 0 < xn3), decide_eq_true (by omega : 0 < xn4), decide_eq_false (by omega : ¬ 0 < xn5)]; intro h; cases h; done)
         | (rw [decide_eq_false (by omega : ¬ 0 < xn3), decide_eq_false (by omega : ¬ 0 < xn4), decide_eq_true (by omega : 0 < xn5)]; intro h; cases h; done))
    | (have i0 := has_0
       have i1 := has_1
       have i2 := has_2
       have i3 := has_3
       go_enter Tryz.func28, Tryz.ntmps28
       go_wp2_with fail
       refine wp_loop_rounds 5 ?_
       repeat (first | (rw [rounds_succ]; go_wp2_with fail) | fail)
       go_ret
       exact ⟨rfl, ((Below.refl _ _).alloc (Nat.le_refl _) _).alloc (by simp) _⟩)
set_option maxRecDepth 100000 in
set_option maxHeartbeats 8000000 in
theorem scd_good1 (x1 : ByteArray) (xa2 xa3 xa4 xa5 : Option Addr) (xn2 xc2 xn3 xc3 xn4 xc4 xn5 xc5 : Nat) (w : World) (t0 t1 t2 tN tF : Bool) (f3 : 0 < xn3) (f4 : ¬ 0 < xn4) (f5 : ¬ 0 < xn5)
    (HN : Hid (∀ W, Below w.heap.size w W → Calls Tryz.prog 29 #[.slice xa3 xn3 xc3, .func (.func 30) #[] #[]] W fun e w' => e = .returned (.bool tN) ∧ Below W.heap.size W w'))
    (HF : Hid (∀ W, Below w.heap.size w W → Calls Tryz.prog 33 #[.slice xa5 xn5 xc5, .func (.func 34) #[] #[]] W fun e w' => e = .returned (.bool tF) ∧ Below W.heap.size W w'))
    (H0 : Hid (∀ W, Below w.heap.size w W → Calls Tryz.prog 31 #[.string x1] W fun e w' => e = .returned (.bool t0) ∧ Below W.heap.size W w'))
    (H1 : Hid (∀ W, Below w.heap.size w W → Calls Tryz.prog 36 #[.slice xa2 xn2 xc2] W fun e w' => e = .returned (.bool t1) ∧ Below W.heap.size W w'))
    (H2 : Hid (∀ W, Below w.heap.size w W → Calls Tryz.prog 37 #[.slice xa4 xn4 xc4] W fun e w' => e = .returned (.bool t2) ∧ Below W.heap.size W w')) :
    Calls Tryz.prog 28 #[.agg #[.int .u8 1, .string x1, .slice xa2 xn2 xc2, .slice xa3 xn3 xc3, .slice xa4 xn4 xc4, .slice xa5 xn5 xc5]] w fun e w' => e = .returned (.bool (!t0 || !t1 || tN || !t2 || tF)) ∧ Below w.heap.size w w' := by
  have i0 := has_0
  have i1 := has_1
  have i2 := has_2
  have i3 := has_3
  go_enter Tryz.func28, Tryz.ntmps28
  go_upto_region 2 with fail
  obtain ⟨w2, hw2⟩ : ∃ w2, (w.alloc (.cells #[.int .u8 1, .string x1, .slice xa2 xn2 xc2, .slice xa3 xn3 xc3, .slice xa4 xn4 xc4, .slice xa5 xn5 xc5] 30 (0, 0))).alloc (.cells #[.bool false, .bool true, .bool false, .bool false] 82 (0, 0)) = w2 := ⟨_, rfl⟩
  have HB2 : Hid (Below w.heap.size w w2) := Lib.hid (by rw [← hw2]; exact ((Below.refl _ _).alloc (Nat.le_refl _) _).alloc (by simp) _)
  have k1 : w2.heap[w.heap.size]? = some (.cells #[.int .u8 1, .string x1, .slice xa2 xn2 xc2, .slice xa3 xn3 xc3, .slice xa4 xn4 xc4, .slice xa5 xn5 xc5] 30 (0, 0)) := by rw [← hw2]; exact heap_old (heap_new _ _ _ rfl)
  have k2 : w2.heap[w.heap.size + 1]? = some (.cells #[.bool false, .bool true, .bool false, .bool false] 82 (0, 0)) := by rw [← hw2]; exact heap_new _ _ _ (by simp)
  have MK : Hid (∀ W, Below w2.heap.size w2 W → W.cell? ⟨w.heap.size, 0, none⟩ = some (.int .u8 1) ∧ W.cell? ⟨w.heap.size, 1, none⟩ = some (.string x1) ∧ W.cell? ⟨w.heap.size, 2, none⟩ = some (.slice xa2 xn2 xc2) ∧ W.cell? ⟨w.heap.size, 3, none⟩ = some (.slice xa3 xn3 xc3) ∧ W.cell? ⟨w.heap.size, 4, none⟩ = some (.slice xa4 xn4 xc4) ∧ W.cell? ⟨w.heap.size, 5, none⟩ = some (.slice xa5 xn5 xc5)) := Lib.hid fun W hW => ⟨(Lib.cell_of_heap ((hW.block _ (heap_lt k1)).trans k1) 0).trans rfl, (Lib.cell_of_heap ((hW.block _ (heap_lt k1)).trans k1) 1).trans rfl, (Lib.cell_of_heap ((hW.block _ (heap_lt k1)).trans k1) 2).trans rfl, (Lib.cell_of_heap ((hW.block _ (heap_lt k1)).trans k1) 3).trans rfl, (Lib.cell_of_heap ((hW.block _ (heap_lt k1)).trans k1) 4).trans rfl, (Lib.cell_of_heap ((hW.block _ (heap_lt k1)).trans k1) 5).trans rfl⟩
  obtain ⟨d0, d1, d2, d3, d4, d5⟩ := MK.out w2 (Below.refl _ _)
  have e0 : w2.cell? ⟨w.heap.size + 1, 0, none⟩ = some (.bool false) := (Lib.cell_of_heap k2 0).trans rfl
  have e1 : w2.cell? ⟨w.heap.size + 1, 1, none⟩ = some (.bool true) := (Lib.cell_of_heap k2 1).trans rfl
  have e2 : w2.cell? ⟨w.heap.size + 1, 2, none⟩ = some (.bool false) := (Lib.cell_of_heap k2 2).trans rfl
  have e3 : w2.cell? ⟨w.heap.size + 1, 3, none⟩ = some (.bool false) := (Lib.cell_of_heap k2 3).trans rfl
  have HBV : Hid (Below w2.heap.size w2 w2) := Lib.hid (Below.refl _ _)
  try rw [hw2]
  clear hw2 k1 k2
  go_wp2_with fail
  refine wp_loop_rounds 5 ?_
  repeat (first | (rw [rounds_succ]; go_wp2_with fail) | fail)
  refine (HN.out _ (HB2.out.trans (HBV.out.mono HB2.out.size))).mono ?_; rintro e w5 ⟨rfl, hb⟩
  have HBV2 : Hid (Below w2.heap.size w2 w5) := Lib.hid (HBV.out.trans (hb.mono HBV.out.size))
  obtain ⟨d0, d1, d2, d3, d4, d5⟩ := MK.out w5 HBV2.out
  clear HBV hb
  have HBV := HBV2
  clear HBV2
  go_wp2_with fail
  refine (HF.out _ (HB2.out.trans (HBV.out.mono HB2.out.size))).mono ?_; rintro e w5 ⟨rfl, hb⟩
  have HBV2 : Hid (Below w2.heap.size w2 w5) := Lib.hid (HBV.out.trans (hb.mono HBV.out.size))
  obtain ⟨d0, d1, d2, d3, d4, d5⟩ := MK.out w5 HBV2.out
  clear HBV hb
  have HBV := HBV2
  clear HBV2
  cases t0 with
  | false =>
    go_wp2_with fail
    refine (H0.out _ (HB2.out.trans (HBV.out.mono HB2.out.size))).mono ?_; rintro e w5 ⟨rfl, hb⟩
    have HBV2 : Hid (Below w2.heap.size w2 w5) := Lib.hid (HBV.out.trans (hb.mono HBV.out.size))
    obtain ⟨d0, d1, d2, d3, d4, d5⟩ := MK.out w5 HBV2.out
    clear HBV hb
    have HBV := HBV2
    clear HBV2
    go_wp2_with fail
    go_ret
    exact ⟨ret_b rfl, HB2.out.trans (HBV.out.mono HB2.out.size)⟩
  | true =>
    go_wp2_with fail
    refine (H0.out _ (HB2.out.trans (HBV.out.mono HB2.out.size))).mono ?_; rintro e w5 ⟨rfl, hb⟩
    have HBV2 : Hid (Below w2.heap.size w2 w5) := Lib.hid (HBV.out.trans (hb.mono HBV.out.size))
    obtain ⟨d0, d1, d2, d3, d4, d5⟩ := MK.out w5 HBV2.out
    clear HBV hb
    have HBV := HBV2
    clear HBV2
    cases t1 with
    | false =>
      go_wp2_with fail
      refine (H1.out _ (HB2.out.trans (HBV.out.mono HB2.out.size))).mono ?_; rintro e w5 ⟨rfl, hb⟩
      have HBV2 : Hid (Below w2.heap.size w2 w5) := Lib.hid (HBV.out.trans (hb.mono HBV.out.size))
      obtain ⟨d0, d1, d2, d3, d4, d5⟩ := MK.out w5 HBV2.out
      clear HBV hb
      have HBV := HBV2
      clear HBV2
      go_wp2_with fail
      go_ret
      exact ⟨ret_b rfl, HB2.out.trans (HBV.out.mono HB2.out.size)⟩
    | true =>
      go_wp2_with fail
      refine (H1.out _ (HB2.out.trans (HBV.out.mono HB2.out.size))).mono ?_; rintro e w5 ⟨rfl, hb⟩
      have HBV2 : Hid (Below w2.heap.size w2 w5) := Lib.hid (HBV.out.trans (hb.mono HBV.out.size))
      obtain ⟨d0, d1, d2, d3, d4, d5⟩ := MK.out w5 HBV2.out
      clear HBV hb
      have HBV := HBV2
      clear HBV2
      cases tN with
      | false =>
        cases t2 with
        | false =>
          go_wp2_with fail
          refine (H2.out _ (HB2.out.trans (HBV.out.mono HB2.out.size))).mono ?_; rintro e w5 ⟨rfl, hb⟩
          have HBV2 : Hid (Below w2.heap.size w2 w5) := Lib.hid (HBV.out.trans (hb.mono HBV.out.size))
          obtain ⟨d0, d1, d2, d3, d4, d5⟩ := MK.out w5 HBV2.out
          clear HBV hb
          have HBV := HBV2
          clear HBV2
          go_wp2_with fail
          go_ret
          exact ⟨ret_b rfl, HB2.out.trans (HBV.out.mono HB2.out.size)⟩
        | true =>
          go_wp2_with fail
          refine (H2.out _ (HB2.out.trans (HBV.out.mono HB2.out.size))).mono ?_; rintro e w5 ⟨rfl, hb⟩
          have HBV2 : Hid (Below w2.heap.size w2 w5) := Lib.hid (HBV.out.trans (hb.mono HBV.out.size))
          obtain ⟨d0, d1, d2, d3, d4, d5⟩ := MK.out w5 HBV2.out
          clear HBV hb
          have HBV := HBV2
          clear HBV2
          cases tF with
          | false =>
            go_wp2_with fail
            go_ret
            exact ⟨ret_b rfl, HB2.out.trans (HBV.out.mono HB2.out.size)⟩
          | true =>
            go_wp2_with fail
            go_ret
            exact ⟨ret_b rfl, HB2.out.trans (HBV.out.mono HB2.out.size)⟩
      | true =>
        go_wp2_with fail
        go_ret
        exact ⟨ret_b rfl, HB2.out.trans (HBV.out.mono HB2.out.size)⟩
set_option maxRecDepth 100000 in
set_option maxHeartbeats 8000000 in
theorem scd_good2 (x1 : ByteArray) (xa2 xa3 xa4 xa5 : Option Addr) (xn2 xc2 xn3 xc3 xn4 xc4 xn5 xc5 : Nat) (w : World) (t0 t1 t2 tN tF : Bool) (f3 : ¬ 0 < xn3) (f4 : 0 < xn4) (f5 : ¬ 0 < xn5)
    (HN : Hid (∀ W, Below w.heap.size w W → Calls Tryz.prog 29 #[.slice xa3 xn3 xc3, .func (.func 30) #[] #[]] W fun e w' => e = .returned (.bool tN) ∧ Below W.heap.size W w'))
    (HF : Hid (∀ W, Below w.heap.size w W → Calls Tryz.prog 33 #[.slice xa5 xn5 xc5, .func (.func 34) #[] #[]] W fun e w' => e = .returned (.bool tF) ∧ Below W.heap.size W w'))
    (H0 : Hid (∀ W, Below w.heap.size w W → Calls Tryz.prog 31 #[.string x1] W fun e w' => e = .returned (.bool t0) ∧ Below W.heap.size W w'))
    (H1 : Hid (∀ W, Below w.heap.size w W → Calls Tryz.prog 36 #[.slice xa2 xn2 xc2] W fun e w' => e = .returned (.bool t1) ∧ Below W.heap.size W w'))
    (H2 : Hid (∀ W, Below w.heap.size w W → Calls Tryz.prog 37 #[.slice xa4 xn4 xc4] W fun e w' => e = .returned (.bool t2) ∧ Below W.heap.size W w')) :
    Calls Tryz.prog 28 #[.agg #[.int .u8 2, .string x1, .slice xa2 xn2 xc2, .slice xa3 xn3 xc3, .slice xa4 xn4 xc4, .slice xa5 xn5 xc5]] w fun e w' => e = .returned (.bool (!t0 || !t1 || tN || !t2 || tF)) ∧ Below w.heap.size w w' := by
  have i0 := has_0
  have i1 := has_1
  have i2 := has_2
  have i3 := has_3
  go_enter Tryz.func28, Tryz.ntmps28
  go_upto_region 2 with fail
  obtain ⟨w2, hw2⟩ : ∃ w2, (w.alloc (.cells #[.int .u8 2, .string x1, .slice xa2 xn2 xc2, .slice xa3 xn3 xc3, .slice xa4 xn4 xc4, .slice xa5 xn5 xc5] 30 (0, 0))).alloc (.cells #[.bool false, .bool false, .bool true, .bool false] 82 (0, 0)) = w2 := ⟨_, rfl⟩
  have HB2 : Hid (Below w.heap.size w w2) := Lib.hid (by rw [← hw2]; exact ((Below.refl _ _).alloc (Nat.le_refl _) _).alloc (by simp) _)
  have k1 : w2.heap[w.heap.size]? = some (.cells #[.int .u8 2, .string x1, .slice xa2 xn2 xc2, .slice xa3 xn3 xc3, .slice xa4 xn4 xc4, .slice xa5 xn5 xc5] 30 (0, 0)) := by rw [← hw2]; exact heap_old (heap_new _ _ _ rfl)
  have k2 : w2.heap[w.heap.size + 1]? = some (.cells #[.bool false, .bool false, .bool true, .bool false] 82 (0, 0)) := by rw [← hw2]; exact heap_new _ _ _ (by simp)
  have MK : Hid (∀ W, Below w2.heap.size w2 W → W.cell? ⟨w.heap.size, 0, none⟩ = some (.int .u8 2) ∧ W.cell? ⟨w.heap.size, 1, none⟩ = some (.string x1) ∧ W.cell? ⟨w.heap.size, 2, none⟩ = some (.slice xa2 xn2 xc2) ∧ W.cell? ⟨w.heap.size, 3, none⟩ = some (.slice xa3 xn3 xc3) ∧ W.cell? ⟨w.heap.size, 4, none⟩ = some (.slice xa4 xn4 xc4) ∧ W.cell? ⟨w.heap.size, 5, none⟩ = some (.slice xa5 xn5 xc5)) := Lib.hid fun W hW => ⟨(Lib.cell_of_heap ((hW.block _ (heap_lt k1)).trans k1) 0).trans rfl, (Lib.cell_of_heap ((hW.block _ (heap_lt k1)).trans k1) 1).trans rfl, (Lib.cell_of_heap ((hW.block _ (heap_lt k1)).trans k1) 2).trans rfl, (Lib.cell_of_heap ((hW.block _ (heap_lt k1)).trans k1) 3).trans rfl, (Lib.cell_of_heap ((hW.block _ (heap_lt k1)).trans k1) 4).trans rfl, (Lib.cell_of_heap ((hW.block _ (heap_lt k1)).trans k1) 5).trans rfl⟩
  obtain ⟨d0, d1, d2, d3, d4, d5⟩ := MK.out w2 (Below.refl _ _)
  have e0 : w2.cell? ⟨w.heap.size + 1, 0, none⟩ = some (.bool false) := (Lib.cell_of_heap k2 0).trans rfl
  have e1 : w2.cell? ⟨w.heap.size + 1, 1, none⟩ = some (.bool false) := (Lib.cell_of_heap k2 1).trans rfl
  have e2 : w2.cell? ⟨w.heap.size + 1, 2, none⟩ = some (.bool true) := (Lib.cell_of_heap k2 2).trans rfl
  have e3 : w2.cell? ⟨w.heap.size + 1, 3, none⟩ = some (.bool false) := (Lib.cell_of_heap k2 3).trans rfl
  have HBV : Hid (Below w2.heap.size w2 w2) := Lib.hid (Below.refl _ _)
  try rw [hw2]
  clear hw2 k1 k2
  go_wp2_with fail
  refine wp_loop_rounds 5 ?_
  repeat (first | (rw [rounds_succ]; go_wp2_with fail) | fail)
  refine (HN.out _ (HB2.out.trans (HBV.out.mono HB2.out.size))).mono ?_; rintro e w5 ⟨rfl, hb⟩
  have HBV2 : Hid (Below w2.heap.size w2 w5) := Lib.hid (HBV.out.trans (hb.mono HBV.out.size))
  obtain ⟨d0, d1, d2, d3, d4, d5⟩ := MK.out w5 HBV2.out
  clear HBV hb
  have HBV := HBV2
  clear HBV2
  go_wp2_with fail
  refine (HF.out _ (HB2.out.trans (HBV.out.mono HB2.out.size))).mono ?_; rintro e w5 ⟨rfl, hb⟩
  have HBV2 : Hid (Below w2.heap.size w2 w5) := Lib.hid (HBV.out.trans (hb.mono HBV.out.size))
  obtain ⟨d0, d1, d2, d3, d4, d5⟩ := MK.out w5 HBV2.out
  clear HBV hb
  have HBV := HBV2
  clear HBV2
  cases t0 with
  | false =>
    go_wp2_with fail
    refine (H0.out _ (HB2.out.trans (HBV.out.mono HB2.out.size))).mono ?_; rintro e w5 ⟨rfl, hb⟩
    have HBV2 : Hid (Below w2.heap.size w2 w5) := Lib.hid (HBV.out.trans (hb.mono HBV.out.size))
    obtain ⟨d0, d1, d2, d3, d4, d5⟩ := MK.out w5 HBV2.out
    clear HBV hb
    have HBV := HBV2
    clear HBV2
    go_wp2_with fail
    go_ret
    exact ⟨ret_b rfl, HB2.out.trans (HBV.out.mono HB2.out.size)⟩
  | true =>
    go_wp2_with fail
    refine (H0.out _ (HB2.out.trans (HBV.out.mono HB2.out.size))).mono ?_; rintro e w5 ⟨rfl, hb⟩
    have HBV2 : Hid (Below w2.heap.size w2 w5) := Lib.hid (HBV.out.trans (hb.mono HBV.out.size))
    obtain ⟨d0, d1, d2, d3, d4, d5⟩ := MK.out w5 HBV2.out
    clear HBV hb
    have HBV := HBV2
    clear HBV2
    cases t1 with
    | false =>
      go_wp2_with fail
      refine (H1.out _ (HB2.out.trans (HBV.out.mono HB2.out.size))).mono ?_; rintro e w5 ⟨rfl, hb⟩
      have HBV2 : Hid (Below w2.heap.size w2 w5) := Lib.hid (HBV.out.trans (hb.mono HBV.out.size))
      obtain ⟨d0, d1, d2, d3, d4, d5⟩ := MK.out w5 HBV2.out
      clear HBV hb
      have HBV := HBV2
      clear HBV2
      go_wp2_with fail
      go_ret
      exact ⟨ret_b rfl, HB2.out.trans (HBV.out.mono HB2.out.size)⟩
    | true =>
      go_wp2_with fail
      refine (H1.out _ (HB2.out.trans (HBV.out.mono HB2.out.size))).mono ?_; rintro e w5 ⟨rfl, hb⟩
      have HBV2 : Hid (Below w2.heap.size w2 w5) := Lib.hid (HBV.out.trans (hb.mono HBV.out.size))
      obtain ⟨d0, d1, d2, d3, d4, d5⟩ := MK.out w5 HBV2.out
      clear HBV hb
      have HBV := HBV2
      clear HBV2
      cases tN with
      | false =>
        cases t2 with
        | false =>
          go_wp2_with fail
          refine (H2.out _ (HB2.out.trans (HBV.out.mono HB2.out.size))).mono ?_; rintro e w5 ⟨rfl, hb⟩
          have HBV2 : Hid (Below w2.heap.size w2 w5) := Lib.hid (HBV.out.trans (hb.mono HBV.out.size))
          obtain ⟨d0, d1, d2, d3, d4, d5⟩ := MK.out w5 HBV2.out
          clear HBV hb
          have HBV := HBV2
          clear HBV2
          go_wp2_with fail
          go_ret
          exact ⟨ret_b rfl, HB2.out.trans (HBV.out.mono HB2.out.size)⟩
        | true =>
          go_wp2_with fail
          refine (H2.out _ (HB2.out.trans (HBV.out.mono HB2.out.size))).mono ?_; rintro e w5 ⟨rfl, hb⟩
          have HBV2 : Hid (Below w2.heap.size w2 w5) := Lib.hid (HBV.out.trans (hb.mono HBV.out.size))
          obtain ⟨d0, d1, d2, d3, d4, d5⟩ := MK.out w5 HBV2.out
          clear HBV hb
          have HBV := HBV2
          clear HBV2
          cases tF with
          | false =>
            go_wp2_with fail
            go_ret
            exact ⟨ret_b rfl, HB2.out.trans (HBV.out.mono HB2.out.size)⟩
          | true =>
            go_wp2_with fail
            go_ret
            exact ⟨ret_b rfl, HB2.out.trans (HBV.out.mono HB2.out.size)⟩
      | true =>
        go_wp2_with fail
        go_ret
        exact ⟨ret_b rfl, HB2.out.trans (HBV.out.mono HB2.out.size)⟩
set_option maxRecDepth 100000 in
set_option maxHeartbeats 8000000 in
theorem scd_good3 (x1 : ByteArray) (xa2 xa3 xa4 xa5 : Option Addr) (xn2 xc2 xn3 xc3 xn4 xc4 xn5 xc5 : Nat) (w : World) (t0 t1 t2 tN tF : Bool) (f3 : ¬ 0 < xn3) (f4 : ¬ 0 < xn4) (f5 : 0 < xn5)
    (HN : Hid (∀ W, Below w.heap.size w W → Calls Tryz.prog 29 #[.slice xa3 xn3 xc3, .func (.func 30) #[] #[]] W fun e w' => e = .returned (.bool tN) ∧ Below W.heap.size W w'))
    (HF : Hid (∀ W, Below w.heap.size w W → Calls Tryz.prog 33 #[.slice xa5 xn5 xc5, .func (.func 34) #[] #[]] W fun e w' => e = .returned (.bool tF) ∧ Below W.heap.size W w'))
    (H0 : Hid (∀ W, Below w.heap.size w W → Calls Tryz.prog 31 #[.string x1] W fun e w' => e = .returned (.bool t0) ∧ Below W.heap.size W w'))
    (H1 : Hid (∀ W, Below w.heap.size w W → Calls Tryz.prog 36 #[.slice xa2 xn2 xc2] W fun e w' => e = .returned (.bool t1) ∧ Below W.heap.size W w'))
    (H2 : Hid (∀ W, Below w.heap.size w W → Calls Tryz.prog 37 #[.slice xa4 xn4 xc4] W fun e w' => e = .returned (.bool t2) ∧ Below W.heap.size W w')) :
    Calls Tryz.prog 28 #[.agg #[.int .u8 3, .string x1, .slice xa2 xn2 xc2, .slice xa3 xn3 xc3, .slice xa4 xn4 xc4, .slice xa5 xn5 xc5]] w fun e w' => e = .returned (.bool (!t0 || !t1 || tN || !t2 || tF)) ∧ Below w.heap.size w w' := by
  have i0 := has_0
  have i1 := has_1
  have i2 := has_2
  have i3 := has_3
  go_enter Tryz.func28, Tryz.ntmps28
  go_upto_region 2 with fail
  obtain ⟨w2, hw2⟩ : ∃ w2, (w.alloc (.cells #[.int .u8 3, .string x1, .slice xa2 xn2 xc2, .slice xa3 xn3 xc3, .slice xa4 xn4 xc4, .slice xa5 xn5 xc5] 30 (0, 0))).alloc (.cells #[.bool false, .bool false, .bool false, .bool true] 82 (0, 0)) = w2 := ⟨_, rfl⟩
  have HB2 : Hid (Below w.heap.size w w2) := Lib.hid (by rw [← hw2]; exact ((Below.refl _ _).alloc (Nat.le_refl _) _).alloc (by simp) _)
  have k1 : w2.heap[w.heap.size]? = some (.cells #[.int .u8 3, .string x1, .slice xa2 xn2 xc2, .slice xa3 xn3 xc3, .slice xa4 xn4 xc4, .slice xa5 xn5 xc5] 30 (0, 0)) := by rw [← hw2]; exact heap_old (heap_new _ _ _ rfl)
  have k2 : w2.heap[w.heap.size + 1]? = some (.cells #[.bool false, .bool false, .bool false, .bool true] 82 (0, 0)) := by rw [← hw2]; exact heap_new _ _ _ (by simp)
  have MK : Hid (∀ W, Below w2.heap.size w2 W → W.cell? ⟨w.heap.size, 0, none⟩ = some (.int .u8 3) ∧ W.cell? ⟨w.heap.size, 1, none⟩ = some (.string x1) ∧ W.cell? ⟨w.heap.size, 2, none⟩ = some (.slice xa2 xn2 xc2) ∧ W.cell? ⟨w.heap.size, 3, none⟩ = some (.slice xa3 xn3 xc3) ∧ W.cell? ⟨w.heap.size, 4, none⟩ = some (.slice xa4 xn4 xc4) ∧ W.cell? ⟨w.heap.size, 5, none⟩ = some (.slice xa5 xn5 xc5)) := Lib.hid fun W hW => ⟨(Lib.cell_of_heap ((hW.block _ (heap_lt k1)).trans k1) 0).trans rfl, (Lib.cell_of_heap ((hW.block _ (heap_lt k1)).trans k1) 1).trans rfl, (Lib.cell_of_heap ((hW.block _ (heap_lt k1)).trans k1) 2).trans rfl, (Lib.cell_of_heap ((hW.block _ (heap_lt k1)).trans k1) 3).trans rfl, (Lib.cell_of_heap ((hW.block _ (heap_lt k1)).trans k1) 4).trans rfl, (Lib.cell_of_heap ((hW.block _ (heap_lt k1)).trans k1) 5).trans rfl⟩
  obtain ⟨d0, d1, d2, d3, d4, d5⟩ := MK.out w2 (Below.refl _ _)
  have e0 : w2.cell? ⟨w.heap.size + 1, 0, none⟩ = some (.bool false) := (Lib.cell_of_heap k2 0).trans rfl
  have e1 : w2.cell? ⟨w.heap.size + 1, 1, none⟩ = some (.bool false) := (Lib.cell_of_heap k2 1).trans rfl
  have e2 : w2.cell? ⟨w.heap.size + 1, 2, none⟩ = some (.bool false) := (Lib.cell_of_heap k2 2).trans rfl
  have e3 : w2.cell? ⟨w.heap.size + 1, 3, none⟩ = some (.bool true) := (Lib.cell_of_heap k2 3).trans rfl
  have HBV : Hid (Below w2.heap.size w2 w2) := Lib.hid (Below.refl _ _)
  try rw [hw2]
  clear hw2 k1 k2
  go_wp2_with fail
  refine wp_loop_rounds 5 ?_
  repeat (first | (rw [rounds_succ]; go_wp2_with fail) | fail)
  refine (HN.out _ (HB2.out.trans (HBV.out.mono HB2.out.size))).mono ?_; rintro e w5 ⟨rfl, hb⟩
  have HBV2 : Hid (Below w2.heap.size w2 w5) := Lib.hid (HBV.out.trans (hb.mono HBV.out.size))
  obtain ⟨d0, d1, d2, d3, d4, d5⟩ := MK.out w5 HBV2.out
  clear HBV hb
  have HBV := HBV2
  clear HBV2
  go_wp2_with fail
  refine (HF.out _ (HB2.out.trans (HBV.out.mono HB2.out.size))).mono ?_; rintro e w5 ⟨rfl, hb⟩
  have HBV2 : Hid (Below w2.heap.size w2 w5) := Lib.hid (HBV.out.trans (hb.mono HBV.out.size))
  obtain ⟨d0, d1, d2, d3, d4, d5⟩ := MK.out w5 HBV2.out
  clear HBV hb
  have HBV := HBV2
  clear HBV2
  cases t0 with
  | false =>
    go_wp2_with fail
    refine (H0.out _ (HB2.out.trans (HBV.out.mono HB2.out.size))).mono ?_; rintro e w5 ⟨rfl, hb⟩
    have HBV2 : Hid (Below w2.heap.size w2 w5) := Lib.hid (HBV.out.trans (hb.mono HBV.out.size))
    obtain ⟨d0, d1, d2, d3, d4, d5⟩ := MK.out w5 HBV2.out
    clear HBV hb
    have HBV := HBV2
    clear HBV2
    go_wp2_with fail
    go_ret
    exact ⟨ret_b rfl, HB2.out.trans (HBV.out.mono HB2.out.size)⟩
  | true =>
    go_wp2_with fail
    refine (H0.out _ (HB2.out.trans (HBV.out.mono HB2.out.size))).mono ?_; rintro e w5 ⟨rfl, hb⟩
    have HBV2 : Hid (Below w2.heap.size w2 w5) := Lib.hid (HBV.out.trans (hb.mono HBV.out.size))
    obtain ⟨d0, d1, d2, d3, d4, d5⟩ := MK.out w5 HBV2.out
    clear HBV hb
    have HBV := HBV2
    clear HBV2
    cases t1 with
    | false =>
      go_wp2_with fail
      refine (H1.out _ (HB2.out.trans (HBV.out.mono HB2.out.size))).mono ?_; rintro e w5 ⟨rfl, hb⟩
      have HBV2 : Hid (Below w2.heap.size w2 w5) := Lib.hid (HBV.out.trans (hb.mono HBV.out.size))
      obtain ⟨d0, d1, d2, d3, d4, d5⟩ := MK.out w5 HBV2.out
      clear HBV hb
      have HBV := HBV2
      clear HBV2
      go_wp2_with fail
      go_ret
      exact ⟨ret_b rfl, HB2.out.trans (HBV.out.mono HB2.out.size)⟩
    | true =>
      go_wp2_with fail
      refine (H1.out _ (HB2.out.trans (HBV.out.mono HB2.out.size))).mono ?_; rintro e w5 ⟨rfl, hb⟩
      have HBV2 : Hid (Below w2.heap.size w2 w5) := Lib.hid (HBV.out.trans (hb.mono HBV.out.size))
      obtain ⟨d0, d1, d2, d3, d4, d5⟩ := MK.out w5 HBV2.out
      clear HBV hb
      have HBV := HBV2
      clear HBV2
      cases tN with
      | false =>
        cases t2 with
        | false =>
          go_wp2_with fail
          refine (H2.out _ (HB2.out.trans (HBV.out.mono HB2.out.size))).mono ?_; rintro e w5 ⟨rfl, hb⟩
          have HBV2 : Hid (Below w2.heap.size w2 w5) := Lib.hid (HBV.out.trans (hb.mono HBV.out.size))
          obtain ⟨d0, d1, d2, d3, d4, d5⟩ := MK.out w5 HBV2.out
          clear HBV hb
          have HBV := HBV2
          clear HBV2
          go_wp2_with fail
          go_ret
          exact ⟨ret_b rfl, HB2.out.trans (HBV.out.mono HB2.out.size)⟩
        | true =>
          go_wp2_with fail
          refine (H2.out _ (HB2.out.trans (HBV.out.mono HB2.out.size))).mono ?_; rintro e w5 ⟨rfl, hb⟩
          have HBV2 : Hid (Below w2.heap.size w2 w5) := Lib.hid (HBV.out.trans (hb.mono HBV.out.size))
          obtain ⟨d0, d1, d2, d3, d4, d5⟩ := MK.out w5 HBV2.out
          clear HBV hb
          have HBV := HBV2
          clear HBV2
          cases tF with
          | false =>
            go_wp2_with fail
            go_ret
            exact ⟨ret_b rfl, HB2.out.trans (HBV.out.mono HB2.out.size)⟩
          | true =>
            go_wp2_with fail
            go_ret
            exact ⟨ret_b rfl, HB2.out.trans (HBV.out.mono HB2.out.size)⟩
      | true =>
        go_wp2_with fail
        go_ret
        exact ⟨ret_b rfl, HB2.out.trans (HBV.out.mono HB2.out.size)⟩
/-- A definition that may be. -/
def dfnB (x : Dfn) : Bool := kindB (x.kind.toNat : Int) x.names.length x.inputs.length x.fields.length && nameB x.name && fixD' x.dirs && x.names.all enmB && x.inputs.all inpB && x.fields.all fldB
theorem all_any {α : Type} (L : List α) (p : α → Bool) : L.all p = !L.any fun x => !p x := by
  induction L with
  | nil => rfl
  | cons x r ih => rw [List.all_cons, List.any_cons, Bool.not_or, Bool.not_not, ih]
theorem slg_len {α : Type} {k : Nat} {E : Addr → α → World → Prop} {a : Option Addr} {n c : Nat} {L : List α} {w : World} (h : SlG k E (.slice a n c) L w) : n = L.length := by
  rcases h with ⟨_, _, e, rfl⟩ | ⟨_, _, _, e, _⟩
  · injection e with _ e2 _
  · injection e with _ e2 _
theorem scd_any (x : Dfn) (ev : Value) (w : World) (h : DfnV ev x w) (hs : DfnSm x) (hE : EnvU w) (hk : (x.kind.toNat : Int) = 1 ∨ (x.kind.toNat : Int) = 2 ∨ (x.kind.toNat : Int) = 3) :
    Calls Tryz.prog 28 #[ev] w fun e w' => e = .returned (.bool (!dfnB x)) ∧ Below w.heap.size w w' := by
  obtain ⟨_, _, _, _, _, _, _, _, _, _, _, _, rfl, h1, h2, h3, h4⟩ := h
  have l2 := slg_len h2
  have l3 := slg_len h3
  have l4 := slg_len h4
  cases hkb : kindB (x.kind.toNat : Int) x.names.length x.inputs.length x.fields.length with
  | false =>
    have hr : dfnB x = false := by unfold dfnB; rw [hkb]; rfl
    rw [hr]
    rw [← l2, ← l3, ← l4] at hkb
    exact scd_bad _ _ _ _ _ _ _ _ _ _ _ _ _ _ w hk hkb
  | true =>
    have hr : (!dfnB x) = (!nameB x.name || !fixD' x.dirs || (x.names.any fun s => !enmB s) || !x.inputs.all inpB || (x.fields.any fun f => !fldB f)) := by
      unfold dfnB
      rw [hkb, all_any x.names, all_any x.fields]
      cases nameB x.name <;> cases fixD' x.dirs <;> cases (x.names.any fun s => !enmB s) <;> cases x.inputs.all inpB <;> cases (x.fields.any fun f => !fldB f) <;> rfl
    rw [hr]
    rw [← l2, ← l3, ← l4] at hkb
    have HN := Lib.hid fun W (hW : Below w.heap.size w W) => snames_contains x.names _ W (NmsSl.below h2 hW) hs.2.2.1
    have HF := Lib.hid fun W (hW : Below w.heap.size w W) => sflds_contains x.fields _ W (FldSl.below h4 hW) hs.2.2.2.2 (hE.below hW)
    have H0 := Lib.hid fun W (hW : Below w.heap.size w W) => calls_below (lname_any ⟨x.name.toArray⟩ (by rw [← bsz]; exact hs.1) W)
    have H1 := Lib.hid fun W (hW : Below w.heap.size w W) => sdirsm_any _ _ W (DirSlc.below h1 hW) hs.2.1 (hE.below hW)
    have H2 := Lib.hid fun W (hW : Below w.heap.size w W) => sinputs_any _ _ W (InpSl.below h3 hW) hs.2.2.2.1 (hE.below hW)
    rcases hk with hk | hk | hk <;> rw [hk] at hkb ⊢ <;> unfold kindB at hkb
    · rw [if_pos rfl] at hkb
      simp only [Bool.and_eq_true, decide_eq_true_eq, Bool.not_eq_true', decide_eq_false_iff_not] at hkb
      exact scd_good1 _ _ _ _ _ _ _ _ _ _ _ _ _ w _ _ _ _ _ hkb.1.1 hkb.1.2 hkb.2 HN HF H0 H1 H2
    · rw [if_neg (by decide), if_pos rfl] at hkb
      simp only [Bool.and_eq_true, decide_eq_true_eq, Bool.not_eq_true', decide_eq_false_iff_not] at hkb
      exact scd_good2 _ _ _ _ _ _ _ _ _ _ _ _ _ w _ _ _ _ _ hkb.1.1 hkb.1.2 hkb.2 HN HF H0 H1 H2
    · rw [if_neg (by decide), if_neg (by decide), if_pos rfl] at hkb
      simp only [Bool.and_eq_true, decide_eq_true_eq, Bool.not_eq_true', decide_eq_false_iff_not] at hkb
      exact scd_good3 _ _ _ _ _ _ _ _ _ _ _ _ _ w _ _ _ _ _ hkb.1.1 hkb.1.2 hkb.2 HN HF H0 H1 H2
theorem scd_ent : ∀ args w, (callFunc 28 args).run Tryz.prog w = .ok (.enter 28 args) w := enters_of Tryz.func28 (by kernel_rfl) rfl
set_option maxRecDepth 100000 in
set_option maxHeartbeats 4000000 in
theorem sce_c (x0 : Int) (x1 : ByteArray) (xa2 : Option Addr) (xn2 xc2 : Nat) (xa3 : Option Addr) (xn3 xc3 : Nat) (xa4 : Option Addr) (xn4 xc4 : Nat) (xa5 : Option Addr) (xn5 xc5 : Nat) (bv : Nat) (t0 t1 t2 : Bool) (w : World)
    (hcap : w.cell? ⟨bv, 0, none⟩ = some (.func (.func 28) #[] #[]))
    (h0p : t0 = true → 3 < x0)
    (h0n : t0 = false → ¬ 3 < x0)
    (h1 : (x0 == 0) = t1)
    (H2 : Hid (t0 = false → t1 = false → ∀ W, Below w.heap.size w W → Calls Tryz.prog 28 #[.agg #[.int .u8 x0, .string x1, .slice xa2 xn2 xc2, .slice xa3 xn3 xc3, .slice xa4 xn4 xc4, .slice xa5 xn5 xc5]] W fun e w' => e = .returned (.bool t2) ∧ Below W.heap.size W w')) :
    Calls Tryz.prog 39 #[.agg #[.int .u8 x0, .string x1, .slice xa2 xn2 xc2, .slice xa3 xn3 xc3, .slice xa4 xn4 xc4, .slice xa5 xn5 xc5], .pointer (some ⟨bv, 0, none⟩)] w fun e w' => e = .returned (.bool (t0 || t1 || t2)) ∧ Below w.heap.size w w' := by
  go_enter Tryz.func39, Tryz.ntmps39
  go_upto_region 1 with fail
  obtain ⟨w2, hw2⟩ : ∃ w2, w.alloc (.cells #[.int .u8 x0, .string x1, .slice xa2 xn2 xc2, .slice xa3 xn3 xc3, .slice xa4 xn4 xc4, .slice xa5 xn5 xc5] 30 (0, 0)) = w2 := ⟨_, rfl⟩
  have HB2 : Hid (Below w.heap.size w w2) := Lib.hid (by rw [← hw2]; exact (Below.refl _ _).alloc (Nat.le_refl _) _)
  have k1 : w2.heap[w.heap.size]? = some (.cells #[.int .u8 x0, .string x1, .slice xa2 xn2 xc2, .slice xa3 xn3 xc3, .slice xa4 xn4 xc4, .slice xa5 xn5 xc5] 30 (0, 0)) := by rw [← hw2]; exact heap_new _ _ _ rfl
  have MK : Hid (∀ W, Below w2.heap.size w2 W → W.cell? ⟨w.heap.size, 0, none⟩ = some (.int .u8 x0) ∧ W.cell? ⟨w.heap.size, 1, none⟩ = some (.string x1) ∧ W.cell? ⟨w.heap.size, 2, none⟩ = some (.slice xa2 xn2 xc2) ∧ W.cell? ⟨w.heap.size, 3, none⟩ = some (.slice xa3 xn3 xc3) ∧ W.cell? ⟨w.heap.size, 4, none⟩ = some (.slice xa4 xn4 xc4) ∧ W.cell? ⟨w.heap.size, 5, none⟩ = some (.slice xa5 xn5 xc5) ∧ W.cell? ⟨bv, 0, none⟩ = some (.func (.func 28) #[] #[])) := Lib.hid fun W hW => ⟨(Lib.cell_of_heap ((hW.block _ (heap_lt k1)).trans k1) 0).trans rfl, (Lib.cell_of_heap ((hW.block _ (heap_lt k1)).trans k1) 1).trans rfl, (Lib.cell_of_heap ((hW.block _ (heap_lt k1)).trans k1) 2).trans rfl, (Lib.cell_of_heap ((hW.block _ (heap_lt k1)).trans k1) 3).trans rfl, (Lib.cell_of_heap ((hW.block _ (heap_lt k1)).trans k1) 4).trans rfl, (Lib.cell_of_heap ((hW.block _ (heap_lt k1)).trans k1) 5).trans rfl, (hW.cell (p := ⟨_, _, none⟩) (Nat.lt_of_lt_of_le (lt_of_cell hcap) HB2.out.size)).trans ((HB2.out.cell (p := ⟨_, _, none⟩) (lt_of_cell hcap)).trans hcap)⟩
  obtain ⟨d0, d1, d2, d3, d4, d5, dv⟩ := MK.out w2 (Below.refl _ _)
  have HBV : Hid (Below w2.heap.size w2 w2) := Lib.hid (Below.refl _ _)
  try rw [hw2]
  clear hw2 k1 hcap
  have eg := scd_ent
  cases t0 with
  | false =>
    have hg := h0n rfl
    cases t1 with
    | false =>
      have H3 := Lib.hid (H2.out rfl rfl)
      go_wp2_with fail
      refine (H3.out _ (HB2.out.trans (HBV.out.mono HB2.out.size))).mono ?_; rintro e w5 ⟨rfl, hb⟩
      have HBV2 : Hid (Below w2.heap.size w2 w5) := Lib.hid (HBV.out.trans (hb.mono HBV.out.size))
      obtain ⟨d0, d1, d2, d3, d4, d5, dv⟩ := MK.out w5 HBV2.out
      clear HBV hb
      have HBV := HBV2
      clear HBV2
      go_wp2_with fail
      go_ret
      exact ⟨ret_b rfl, HB2.out.trans (HBV.out.mono HB2.out.size)⟩
    | true =>
      go_wp2_with fail
      go_ret
      exact ⟨ret_b rfl, HB2.out.trans (HBV.out.mono HB2.out.size)⟩
  | true =>
    have hg := h0p rfl
    go_wp2_with fail
    go_ret
    exact ⟨ret_b rfl, HB2.out.trans (HBV.out.mono HB2.out.size)⟩
theorem sce_ent : ∀ args w, (callFunc 39 args).run Tryz.prog w = .ok (.enter 39 args) w := enters_of Tryz.func39 (by kernel_rfl) rfl
theorem sce_any (bv : Nat) (x : Dfn) (ev : Value) (w : World) (hcap : w.cell? ⟨bv, 0, none⟩ = some (.func (.func 28) #[] #[])) (h : DfnV ev x w) (hs : DfnSm x) (hE : EnvU w) :
    Calls Tryz.prog 39 #[ev, .pointer (some ⟨bv, 0, none⟩)] w fun e w' => e = .returned (.bool (!dfnB x)) ∧ Below w.heap.size w w' := by
  have h' := h
  obtain ⟨_, _, _, _, _, _, _, _, _, _, _, _, rfl, h1, h2, h3, h4⟩ := h
  have hr : (!dfnB x) = (decide (3 < (x.kind.toNat : Int)) || ((x.kind.toNat : Int) == 0) || !dfnB x) := by
    by_cases hk : (x.kind.toNat : Int) = 1 ∨ (x.kind.toNat : Int) = 2 ∨ (x.kind.toNat : Int) = 3
    · have a1 : decide (3 < (x.kind.toNat : Int)) = false := decide_eq_false (by omega)
      have a2 : ((x.kind.toNat : Int) == 0) = false := beq_eq_false_iff_ne.2 (by omega)
      rw [a1, a2]; rfl
    · have : dfnB x = false := by
        unfold dfnB kindB
        rw [if_neg (by omega), if_neg (by omega), if_neg (by omega)]; rfl
      rw [this]; simp
  rw [hr]
  refine sce_c _ _ _ _ _ _ _ _ _ _ _ _ _ _ bv _ _ _ w hcap (fun h => by simpa using h) (fun h => by simpa using h) rfl (Lib.hid fun e0 e1 W hW => ?_)
  have e0' : ¬ 3 < (x.kind.toNat : Int) := of_decide_eq_false e0
  have e1' : ¬ (x.kind.toNat : Int) = 0 := beq_eq_false_iff_ne.1 e1
  exact scd_any x _ W (h'.below hW) hs (hE.below hW) (by omega)
/-- Definitions that may be. -/
def defsB (L : List Dfn) : Bool := !L.isEmpty && L.all dfnB
set_option maxRecDepth 100000 in
theorem schk_c (v : Option Addr) (n c : Nat) (r q : Bool) (w : World) (hq : (n == 0) = q) (HC : Hid (∀ (W : World) (bv : Nat), Below w.heap.size w W → W.cell? ⟨bv, 0, none⟩ = some (.func (.func 28) #[] #[]) → Calls Tryz.prog 38 #[.slice v n c, .func (.func 39) #[] #[.pointer (some ⟨bv, 0, none⟩)]] W fun e w' => e = .returned (.bool r) ∧ Below W.heap.size W w')) :
    Calls Tryz.prog 9 #[.slice v n c] w fun e w' => e = .returned (.int .i64 (if !q && !r then 0 else 8)) ∧ Below w.heap.size w w' := by
  go_enter Tryz.func9, Tryz.ntmps9
  go_upto_region 2 with fail
  obtain ⟨w2, hw2⟩ : ∃ w2, w.alloc (.cells #[.func (.func 28) #[] #[]] 90 (0, 0)) = w2 := ⟨_, rfl⟩
  have HB2 : Hid (Below w.heap.size w w2) := Lib.hid (by rw [← hw2]; exact (Below.refl _ _).alloc (Nat.le_refl _) _)
  have k1 : w2.heap[w.heap.size]? = some (.cells #[.func (.func 28) #[] #[]] 90 (0, 0)) := by rw [← hw2]; exact heap_new _ _ _ rfl
  have d0 : w2.cell? ⟨w.heap.size, 0, none⟩ = some (.func (.func 28) #[] #[]) := (Lib.cell_of_heap k1 0).trans rfl
  have HC2 := Lib.hid (HC.out w2 w.heap.size HB2.out d0)
  try rw [hw2]
  clear hw2 k1 d0 HC
  by_cases h0 : n = 0
  · have hq2 : q = true := by rw [← hq, h0]; rfl
    subst hq2 h0
    go_wp2_with fail
    go_ret
    exact ⟨rfl, HB2.out⟩
  · have hq2 : q = false := by rw [← hq]; exact beq_eq_false_iff_ne.2 h0
    subst hq2
    have hi0 : ((n : Int) == 0) = false := beq_eq_false_iff_ne.2 (by omega)
    have hi1 : ¬ (n : Int) = 0 := by omega
    cases r with
    | false =>
      go_wp2_with fail
      refine HC2.out.mono ?_; rintro e w3 ⟨rfl, hb⟩
      have HB3 := Lib.hid (HB2.out.trans (hb.mono HB2.out.size))
      clear hb
      go_wp2_with fail
      go_ret
      exact ⟨rfl, HB3.out⟩
    | true =>
      go_wp2_with fail
      refine HC2.out.mono ?_; rintro e w3 ⟨rfl, hb⟩
      have HB3 := Lib.hid (HB2.out.trans (hb.mono HB2.out.size))
      clear hb
      go_wp2_with fail
      go_ret
      exact ⟨rfl, HB3.out⟩
theorem schk_any (L : List Dfn) (a : Option Addr) (n c : Nat) (w : World) (hv : DfnSl (.slice a n c) L w) (hs : DfnsSm L) (hE : EnvU w) :
    Calls Tryz.prog 9 #[.slice a n c] w fun e w' => e = .returned (.int .i64 (if defsB L then 0 else 8)) ∧ Below w.heap.size w w' := by
  have hr : defsB L = (!(n == 0) && !L.any fun x => !dfnB x) := by
    unfold defsB
    rw [slg_len hv, all_any]
    cases L <;> rfl
  rw [hr]
  exact schk_c a n c _ _ w rfl (Lib.hid fun W bv hW hc => dfn_contains _ #[.pointer (some ⟨bv, 0, none⟩)] sce_ent (fun x => !dfnB x) L _ W (DfnSl.below hv hW) hs.1 (Lib.hid fun W' k hk ev hev hb => sce_any bv _ ev W' ((hb.cell (p := ⟨_, _, none⟩) (lt_of_cell hc)).trans hc) hev (hs.2 _ (List.getElem_mem hk)) (hE.below (hW.trans (hb.mono hW.size)))))
end Go.Proofs.YtfagaflgdlomiaaGreatDoor
namespace Go.Proofs.YtfagaflgdlomiaaGreatDoor
open Go.RowKit
def mayI (x : Inp) : Bool := nameB x.name && ttB x.tnm x.wr && cond x.has (litB x.dflt && !x.dflt.any isV) x.dflt.isEmpty
theorem xsl_len {α : Type} {Sl : Value → α → World → Prop} {a : Option Addr} {n c : Nat} {L : List (List UInt8 × α)} {w : World} (h : XSl Sl (.slice a n c) L w) : n = L.length := by
  rcases h with ⟨_, _, e, rfl⟩ | ⟨_, _, _, e, _⟩
  · injection e with _ e2 _
  · injection e with _ e2 _
end Go.Proofs.YtfagaflgdlomiaaGreatDoor
namespace Go.Proofs.YtfagaflgdlomiaaGreatDoor
open Go.RowKit
set_option maxRecDepth 100000 in
set_option maxHeartbeats 8000000 in
theorem dsl_c (x0 : Int) (x1 : ByteArray) (x2 : ByteArray) (xa3 : Option Addr) (xn3 xc3 : Nat) (xa4 : Option Addr) (xn4 xc4 : Nat) (x5 : Int) (tA tD tN tL k1 k2 k3 m0 m1 m2 eA zA zN on : Bool) (w : World)
    (HA : Hid (∀ W, Below w.heap.size w W → Calls Tryz.prog 55 #[.slice xa3 xn3 xc3] W fun e w' => (∃ tv, e = .returned (.tuple #[tv, .int .i64 (cond tA 0 8)])) ∧ Below W.heap.size W w'))
    (HD : Hid (∀ W, Below w.heap.size w W → Calls Tryz.prog 12 #[.slice xa4 xn4 xc4] W fun e w' => (∃ tv, e = .returned (.tuple #[tv, .int .i64 (cond tD 0 8)])) ∧ Below W.heap.size W w'))
    (HN : Hid (∀ W, Below w.heap.size w W → Calls Tryz.prog 31 #[.string x2] W fun e w' => e = .returned (.bool tN) ∧ Below W.heap.size W w'))
    (HL : Hid (∀ W, Below w.heap.size w W → Calls Tryz.prog 31 #[.string x1] W fun e w' => e = .returned (.bool tL) ∧ Below W.heap.size W w'))
    (hk1 : (x0 == 1) = k1)
    (hk2 : (x0 == 2) = k2)
    (hk3 : (x0 == 3) = k3)
    (hm0 : decide (x5 < 0) = m0)
    (hm1 : (x5 == 0) = m1)
    (hm2 : decide (0 < x5) = m2)
    (heA : ((xn3 : Int) == 0) = eA)
    (heA2 : (xn3 == 0) = eA)
    (hzA : (x1.toList == []) = zA)
    (hzAe : x1.toList.isEmpty = zA)
    (hzAp : zA = true → x1.toList = [])
    (hzAn : zA = false → ¬ x1.toList = [])
    (hzN : (x2.toList == []) = zN)
    (hzNe : x2.toList.isEmpty = zN)
    (hzNp : zN = true → x2.toList = [])
    (hzNn : zN = false → ¬ x2.toList = [])
    (hon : (x2.toList == [111, 110]) = on)
    (hone : (x2.toList != [111, 110]) = !on)
    (honp : on = true → x2.toList = [111, 110])
    (honn : on = false → ¬ x2.toList = [111, 110]) :
    Calls Tryz.prog 78 #[.agg #[.int .u8 x0, .string x1, .string x2, .slice xa3 xn3 xc3, .slice xa4 xn4 xc4, .int .i64 x5]] w fun e w' => e = .returned (.bool (tA && tD && !m0 && cond k1 (tN && (zA || tL)) (cond k2 (tN && !on && zA && eA && m1) (cond k3 ((zN || tN) && zA && eA && m2) false)))) ∧ Below w.heap.size w w' := by
  go_enter Tryz.func78, Tryz.ntmps78
  go_upto_region 1 with fail
  obtain ⟨w2, hw2⟩ : ∃ w2, w.alloc (.cells #[.int .u8 x0, .string x1, .string x2, .slice xa3 xn3 xc3, .slice xa4 xn4 xc4, .int .i64 x5] 113 (0, 0)) = w2 := ⟨_, rfl⟩
  have HB2 : Hid (Below w.heap.size w w2) := Lib.hid (by rw [← hw2]; exact (Below.refl _ _).alloc (Nat.le_refl _) _)
  have k1' : w2.heap[w.heap.size]? = some (.cells #[.int .u8 x0, .string x1, .string x2, .slice xa3 xn3 xc3, .slice xa4 xn4 xc4, .int .i64 x5] 113 (0, 0)) := by rw [← hw2]; exact heap_new _ _ _ rfl
  have MK : Hid (∀ W, Below w2.heap.size w2 W → W.cell? ⟨w.heap.size, 0, none⟩ = some (.int .u8 x0) ∧ W.cell? ⟨w.heap.size, 1, none⟩ = some (.string x1) ∧ W.cell? ⟨w.heap.size, 2, none⟩ = some (.string x2) ∧ W.cell? ⟨w.heap.size, 3, none⟩ = some (.slice xa3 xn3 xc3) ∧ W.cell? ⟨w.heap.size, 4, none⟩ = some (.slice xa4 xn4 xc4) ∧ W.cell? ⟨w.heap.size, 5, none⟩ = some (.int .i64 x5)) := Lib.hid fun W hW => ⟨(Lib.cell_of_heap ((hW.block _ (heap_lt k1')).trans k1') 0).trans rfl, (Lib.cell_of_heap ((hW.block _ (heap_lt k1')).trans k1') 1).trans rfl, (Lib.cell_of_heap ((hW.block _ (heap_lt k1')).trans k1') 2).trans rfl, (Lib.cell_of_heap ((hW.block _ (heap_lt k1')).trans k1') 3).trans rfl, (Lib.cell_of_heap ((hW.block _ (heap_lt k1')).trans k1') 4).trans rfl, (Lib.cell_of_heap ((hW.block _ (heap_lt k1')).trans k1') 5).trans rfl⟩
  obtain ⟨d0, d1, d2, d3, d4, d5⟩ := MK.out w2 (Below.refl _ _)
  have HBV : Hid (Below w2.heap.size w2 w2) := Lib.hid (Below.refl _ _)
  try rw [hw2]
  clear hw2 k1'
  cases tA with
  | false =>
    go_wp2_with fail
    refine (HA.out _ (HB2.out.trans (HBV.out.mono HB2.out.size))).mono ?_; rintro e w5 ⟨⟨tv, rfl⟩, hb⟩
    have HBV2 : Hid (Below w2.heap.size w2 w5) := Lib.hid (HBV.out.trans (hb.mono HBV.out.size))
    obtain ⟨d0, d1, d2, d3, d4, d5⟩ := MK.out w5 HBV2.out
    clear HBV hb
    have HBV := HBV2
    clear HBV2
    cases tD with
    | false =>
      go_wp2_with fail
      refine (HD.out _ (HB2.out.trans (HBV.out.mono HB2.out.size))).mono ?_; rintro e w5 ⟨⟨tv, rfl⟩, hb⟩
      have HBV2 : Hid (Below w2.heap.size w2 w5) := Lib.hid (HBV.out.trans (hb.mono HBV.out.size))
      obtain ⟨d0, d1, d2, d3, d4, d5⟩ := MK.out w5 HBV2.out
      clear HBV hb
      have HBV := HBV2
      clear HBV2
      go_wp2_with fail
      go_ret
      exact ⟨ret_b rfl, HB2.out.trans (HBV.out.mono HB2.out.size)⟩
    | true =>
      go_wp2_with fail
      refine (HD.out _ (HB2.out.trans (HBV.out.mono HB2.out.size))).mono ?_; rintro e w5 ⟨⟨tv, rfl⟩, hb⟩
      have HBV2 : Hid (Below w2.heap.size w2 w5) := Lib.hid (HBV.out.trans (hb.mono HBV.out.size))
      obtain ⟨d0, d1, d2, d3, d4, d5⟩ := MK.out w5 HBV2.out
      clear HBV hb
      have HBV := HBV2
      clear HBV2
      go_wp2_with fail
      go_ret
      exact ⟨ret_b rfl, HB2.out.trans (HBV.out.mono HB2.out.size)⟩
  | true =>
    go_wp2_with fail
    refine (HA.out _ (HB2.out.trans (HBV.out.mono HB2.out.size))).mono ?_; rintro e w5 ⟨⟨tv, rfl⟩, hb⟩
    have HBV2 : Hid (Below w2.heap.size w2 w5) := Lib.hid (HBV.out.trans (hb.mono HBV.out.size))
    obtain ⟨d0, d1, d2, d3, d4, d5⟩ := MK.out w5 HBV2.out
    clear HBV hb
    have HBV := HBV2
    clear HBV2
    cases tD with
    | false =>
      go_wp2_with fail
      refine (HD.out _ (HB2.out.trans (HBV.out.mono HB2.out.size))).mono ?_; rintro e w5 ⟨⟨tv, rfl⟩, hb⟩
      have HBV2 : Hid (Below w2.heap.size w2 w5) := Lib.hid (HBV.out.trans (hb.mono HBV.out.size))
      obtain ⟨d0, d1, d2, d3, d4, d5⟩ := MK.out w5 HBV2.out
      clear HBV hb
      have HBV := HBV2
      clear HBV2
      go_wp2_with fail
      go_ret
      exact ⟨ret_b rfl, HB2.out.trans (HBV.out.mono HB2.out.size)⟩
    | true =>
      go_wp2_with fail
      refine (HD.out _ (HB2.out.trans (HBV.out.mono HB2.out.size))).mono ?_; rintro e w5 ⟨⟨tv, rfl⟩, hb⟩
      have HBV2 : Hid (Below w2.heap.size w2 w5) := Lib.hid (HBV.out.trans (hb.mono HBV.out.size))
      obtain ⟨d0, d1, d2, d3, d4, d5⟩ := MK.out w5 HBV2.out
      clear HBV hb
      have HBV := HBV2
      clear HBV2
      cases m0 with
      | false =>
        cases k1 with
        | false =>
          cases k2 with
          | false =>
            cases k3 with
            | false =>
              go_wp2_with fail
              go_ret
              exact ⟨ret_b rfl, HB2.out.trans (HBV.out.mono HB2.out.size)⟩
            | true =>
              cases zN with
              | false =>
                have qzN := hzNn rfl
                go_wp2_with fail
                refine (HN.out _ (HB2.out.trans (HBV.out.mono HB2.out.size))).mono ?_; rintro e w5 ⟨rfl, hb⟩
                have HBV2 : Hid (Below w2.heap.size w2 w5) := Lib.hid (HBV.out.trans (hb.mono HBV.out.size))
                obtain ⟨d0, d1, d2, d3, d4, d5⟩ := MK.out w5 HBV2.out
                clear HBV hb
                have HBV := HBV2
                clear HBV2
                cases tN with
                | false =>
                  go_wp2_with fail
                  go_ret
                  exact ⟨ret_b rfl, HB2.out.trans (HBV.out.mono HB2.out.size)⟩
                | true =>
                  cases zA with
                  | false =>
                    have qzA := hzAn rfl
                    go_wp2_with fail
                    go_ret
                    exact ⟨ret_b rfl, HB2.out.trans (HBV.out.mono HB2.out.size)⟩
                  | true =>
                    have qzA := hzAp rfl
                    cases eA with
                    | false =>
                      go_wp2_with fail
                      go_ret
                      exact ⟨ret_b rfl, HB2.out.trans (HBV.out.mono HB2.out.size)⟩
                    | true =>
                      cases m2 with
                      | false =>
                        go_wp2_with fail
                        go_ret
                        exact ⟨ret_b rfl, HB2.out.trans (HBV.out.mono HB2.out.size)⟩
                      | true =>
                        go_wp2_with fail
                        go_ret
                        exact ⟨ret_b rfl, HB2.out.trans (HBV.out.mono HB2.out.size)⟩
              | true =>
                have qzN := hzNp rfl
                cases zA with
                | false =>
                  have qzA := hzAn rfl
                  go_wp2_with fail
                  go_ret
                  exact ⟨ret_b rfl, HB2.out.trans (HBV.out.mono HB2.out.size)⟩
                | true =>
                  have qzA := hzAp rfl
                  cases eA with
                  | false =>
                    go_wp2_with fail
                    go_ret
                    exact ⟨ret_b rfl, HB2.out.trans (HBV.out.mono HB2.out.size)⟩
                  | true =>
                    cases m2 with
                    | false =>
                      go_wp2_with fail
                      go_ret
                      exact ⟨ret_b rfl, HB2.out.trans (HBV.out.mono HB2.out.size)⟩
                    | true =>
                      go_wp2_with fail
                      go_ret
                      exact ⟨ret_b rfl, HB2.out.trans (HBV.out.mono HB2.out.size)⟩
          | true =>
            go_wp2_with fail
            refine (HN.out _ (HB2.out.trans (HBV.out.mono HB2.out.size))).mono ?_; rintro e w5 ⟨rfl, hb⟩
            have HBV2 : Hid (Below w2.heap.size w2 w5) := Lib.hid (HBV.out.trans (hb.mono HBV.out.size))
            obtain ⟨d0, d1, d2, d3, d4, d5⟩ := MK.out w5 HBV2.out
            clear HBV hb
            have HBV := HBV2
            clear HBV2
            cases tN with
            | false =>
              go_wp2_with fail
              go_ret
              exact ⟨ret_b rfl, HB2.out.trans (HBV.out.mono HB2.out.size)⟩
            | true =>
              cases on with
              | false =>
                have qon := honn rfl
                cases zA with
                | false =>
                  have qzA := hzAn rfl
                  go_wp2_with fail
                  go_ret
                  exact ⟨ret_b rfl, HB2.out.trans (HBV.out.mono HB2.out.size)⟩
                | true =>
                  have qzA := hzAp rfl
                  cases eA with
                  | false =>
                    go_wp2_with fail
                    go_ret
                    exact ⟨ret_b rfl, HB2.out.trans (HBV.out.mono HB2.out.size)⟩
                  | true =>
                    cases m1 with
                    | false =>
                      go_wp2_with fail
                      go_ret
                      exact ⟨ret_b rfl, HB2.out.trans (HBV.out.mono HB2.out.size)⟩
                    | true =>
                      go_wp2_with fail
                      go_ret
                      exact ⟨ret_b rfl, HB2.out.trans (HBV.out.mono HB2.out.size)⟩
              | true =>
                have qon := honp rfl
                go_wp2_with fail
                go_ret
                exact ⟨ret_b rfl, HB2.out.trans (HBV.out.mono HB2.out.size)⟩
        | true =>
          go_wp2_with fail
          refine (HN.out _ (HB2.out.trans (HBV.out.mono HB2.out.size))).mono ?_; rintro e w5 ⟨rfl, hb⟩
          have HBV2 : Hid (Below w2.heap.size w2 w5) := Lib.hid (HBV.out.trans (hb.mono HBV.out.size))
          obtain ⟨d0, d1, d2, d3, d4, d5⟩ := MK.out w5 HBV2.out
          clear HBV hb
          have HBV := HBV2
          clear HBV2
          cases tN with
          | false =>
            go_wp2_with fail
            go_ret
            exact ⟨ret_b rfl, HB2.out.trans (HBV.out.mono HB2.out.size)⟩
          | true =>
            cases zA with
            | false =>
              have qzA := hzAn rfl
              go_wp2_with fail
              refine (HL.out _ (HB2.out.trans (HBV.out.mono HB2.out.size))).mono ?_; rintro e w5 ⟨rfl, hb⟩
              have HBV2 : Hid (Below w2.heap.size w2 w5) := Lib.hid (HBV.out.trans (hb.mono HBV.out.size))
              obtain ⟨d0, d1, d2, d3, d4, d5⟩ := MK.out w5 HBV2.out
              clear HBV hb
              have HBV := HBV2
              clear HBV2
              go_wp2_with fail
              go_ret
              exact ⟨ret_b rfl, HB2.out.trans (HBV.out.mono HB2.out.size)⟩
            | true =>
              have qzA := hzAp rfl
              go_wp2_with fail
              go_ret
              exact ⟨ret_b rfl, HB2.out.trans (HBV.out.mono HB2.out.size)⟩
      | true =>
        go_wp2_with fail
        go_ret
        exact ⟨ret_b rfl, HB2.out.trans (HBV.out.mono HB2.out.size)⟩
set_option maxRecDepth 100000 in
set_option maxHeartbeats 8000000 in
theorem din_c (x0 : ByteArray) (x1 : ByteArray) (xa2 : Option Addr) (xn2 xc2 : Nat) (x3 : Bool) (xa4 : Option Addr) (xn4 xc4 : Nat) (xa5 : Option Addr) (xn5 xc5 : Nat) (tT tN tV tP tC b0 e0 : Bool) (w : World)
    (HT : Hid (∀ W, Below w.heap.size w W → Calls Tryz.prog 21 #[.agg #[.string x1, .slice xa2 xn2 xc2]] W fun e w' => (∃ tv, e = .returned (.tuple #[tv, .int .i64 (cond tT 0 8)])) ∧ Below W.heap.size W w'))
    (HN : Hid (∀ W, Below w.heap.size w W → Calls Tryz.prog 31 #[.string x0] W fun e w' => e = .returned (.bool tN) ∧ Below W.heap.size W w'))
    (HV : Hid (∀ W, Below w.heap.size w W → Calls Tryz.prog 22 #[.slice xa4 xn4 xc4] W fun e w' => (∃ tv, e = .returned (.tuple #[tv, .int .i64 (cond tV 0 8)])) ∧ Below W.heap.size W w'))
    (HP : Hid (∀ W, Below w.heap.size w W → Calls Tryz.prog 80 #[.slice xa4 xn4 xc4] W fun e w' => e = .returned (.bool tP) ∧ Below W.heap.size W w'))
    (HC : Hid (∀ W, Below w.heap.size w W → Calls Tryz.prog 73 #[.slice xa4 xn4 xc4, .func (.func 81) #[] #[]] W fun e w' => e = .returned (.bool tC) ∧ Below W.heap.size W w'))
    (hd : decide ((0 : Int) < (xn5 : Int)) = b0)
    (he : ((xn4 : Int) == 0) = e0)
    (hd2 : decide (0 < xn5) = b0)
    (he2 : (xn4 == 0) = e0) :
    Calls Tryz.prog 54 #[.agg #[.string x0, .string x1, .slice xa2 xn2 xc2, .bool x3, .slice xa4 xn4 xc4, .slice xa5 xn5 xc5]] w fun e w' => e = .returned (.bool (tT && tN && !b0 && cond x3 (tV && (tP || !tC)) e0)) ∧ Below w.heap.size w w' := by
  go_enter Tryz.func54, Tryz.ntmps54
  go_upto_region 1 with fail
  obtain ⟨w2, hw2⟩ : ∃ w2, w.alloc (.cells #[.string x0, .string x1, .slice xa2 xn2 xc2, .bool x3, .slice xa4 xn4 xc4, .slice xa5 xn5 xc5] 61 (0, 0)) = w2 := ⟨_, rfl⟩
  have HB2 : Hid (Below w.heap.size w w2) := Lib.hid (by rw [← hw2]; exact (Below.refl _ _).alloc (Nat.le_refl _) _)
  have k1' : w2.heap[w.heap.size]? = some (.cells #[.string x0, .string x1, .slice xa2 xn2 xc2, .bool x3, .slice xa4 xn4 xc4, .slice xa5 xn5 xc5] 61 (0, 0)) := by rw [← hw2]; exact heap_new _ _ _ rfl
  have MK : Hid (∀ W, Below w2.heap.size w2 W → W.cell? ⟨w.heap.size, 0, none⟩ = some (.string x0) ∧ W.cell? ⟨w.heap.size, 1, none⟩ = some (.string x1) ∧ W.cell? ⟨w.heap.size, 2, none⟩ = some (.slice xa2 xn2 xc2) ∧ W.cell? ⟨w.heap.size, 3, none⟩ = some (.bool x3) ∧ W.cell? ⟨w.heap.size, 4, none⟩ = some (.slice xa4 xn4 xc4) ∧ W.cell? ⟨w.heap.size, 5, none⟩ = some (.slice xa5 xn5 xc5)) := Lib.hid fun W hW => ⟨(Lib.cell_of_heap ((hW.block _ (heap_lt k1')).trans k1') 0).trans rfl, (Lib.cell_of_heap ((hW.block _ (heap_lt k1')).trans k1') 1).trans rfl, (Lib.cell_of_heap ((hW.block _ (heap_lt k1')).trans k1') 2).trans rfl, (Lib.cell_of_heap ((hW.block _ (heap_lt k1')).trans k1') 3).trans rfl, (Lib.cell_of_heap ((hW.block _ (heap_lt k1')).trans k1') 4).trans rfl, (Lib.cell_of_heap ((hW.block _ (heap_lt k1')).trans k1') 5).trans rfl⟩
  obtain ⟨d0, d1, d2, d3, d4, d5⟩ := MK.out w2 (Below.refl _ _)
  have HBV : Hid (Below w2.heap.size w2 w2) := Lib.hid (Below.refl _ _)
  try rw [hw2]
  clear hw2 k1'
  cases tT with
  | false =>
    go_wp2_with fail
    refine (HT.out _ (HB2.out.trans (HBV.out.mono HB2.out.size))).mono ?_; rintro e w5 ⟨⟨tv, rfl⟩, hb⟩
    have HBV2 : Hid (Below w2.heap.size w2 w5) := Lib.hid (HBV.out.trans (hb.mono HBV.out.size))
    obtain ⟨d0, d1, d2, d3, d4, d5⟩ := MK.out w5 HBV2.out
    clear HBV hb
    have HBV := HBV2
    clear HBV2
    cases tN with
    | false =>
      go_wp2_with fail
      refine (HN.out _ (HB2.out.trans (HBV.out.mono HB2.out.size))).mono ?_; rintro e w5 ⟨rfl, hb⟩
      have HBV2 : Hid (Below w2.heap.size w2 w5) := Lib.hid (HBV.out.trans (hb.mono HBV.out.size))
      obtain ⟨d0, d1, d2, d3, d4, d5⟩ := MK.out w5 HBV2.out
      clear HBV hb
      have HBV := HBV2
      clear HBV2
      go_wp2_with fail
      go_ret
      exact ⟨ret_b rfl, HB2.out.trans (HBV.out.mono HB2.out.size)⟩
    | true =>
      go_wp2_with fail
      refine (HN.out _ (HB2.out.trans (HBV.out.mono HB2.out.size))).mono ?_; rintro e w5 ⟨rfl, hb⟩
      have HBV2 : Hid (Below w2.heap.size w2 w5) := Lib.hid (HBV.out.trans (hb.mono HBV.out.size))
      obtain ⟨d0, d1, d2, d3, d4, d5⟩ := MK.out w5 HBV2.out
      clear HBV hb
      have HBV := HBV2
      clear HBV2
      go_wp2_with fail
      go_ret
      exact ⟨ret_b rfl, HB2.out.trans (HBV.out.mono HB2.out.size)⟩
  | true =>
    go_wp2_with fail
    refine (HT.out _ (HB2.out.trans (HBV.out.mono HB2.out.size))).mono ?_; rintro e w5 ⟨⟨tv, rfl⟩, hb⟩
    have HBV2 : Hid (Below w2.heap.size w2 w5) := Lib.hid (HBV.out.trans (hb.mono HBV.out.size))
    obtain ⟨d0, d1, d2, d3, d4, d5⟩ := MK.out w5 HBV2.out
    clear HBV hb
    have HBV := HBV2
    clear HBV2
    cases tN with
    | false =>
      go_wp2_with fail
      refine (HN.out _ (HB2.out.trans (HBV.out.mono HB2.out.size))).mono ?_; rintro e w5 ⟨rfl, hb⟩
      have HBV2 : Hid (Below w2.heap.size w2 w5) := Lib.hid (HBV.out.trans (hb.mono HBV.out.size))
      obtain ⟨d0, d1, d2, d3, d4, d5⟩ := MK.out w5 HBV2.out
      clear HBV hb
      have HBV := HBV2
      clear HBV2
      go_wp2_with fail
      go_ret
      exact ⟨ret_b rfl, HB2.out.trans (HBV.out.mono HB2.out.size)⟩
    | true =>
      go_wp2_with fail
      refine (HN.out _ (HB2.out.trans (HBV.out.mono HB2.out.size))).mono ?_; rintro e w5 ⟨rfl, hb⟩
      have HBV2 : Hid (Below w2.heap.size w2 w5) := Lib.hid (HBV.out.trans (hb.mono HBV.out.size))
      obtain ⟨d0, d1, d2, d3, d4, d5⟩ := MK.out w5 HBV2.out
      clear HBV hb
      have HBV := HBV2
      clear HBV2
      cases b0 with
      | false =>
        cases x3 with
        | false =>
          cases e0 with
          | false =>
            go_wp2_with fail
            go_ret
            exact ⟨ret_b rfl, HB2.out.trans (HBV.out.mono HB2.out.size)⟩
          | true =>
            go_wp2_with fail
            go_ret
            exact ⟨ret_b rfl, HB2.out.trans (HBV.out.mono HB2.out.size)⟩
        | true =>
          cases tV with
          | false =>
            go_wp2_with fail
            refine (HV.out _ (HB2.out.trans (HBV.out.mono HB2.out.size))).mono ?_; rintro e w5 ⟨⟨tv, rfl⟩, hb⟩
            have HBV2 : Hid (Below w2.heap.size w2 w5) := Lib.hid (HBV.out.trans (hb.mono HBV.out.size))
            obtain ⟨d0, d1, d2, d3, d4, d5⟩ := MK.out w5 HBV2.out
            clear HBV hb
            have HBV := HBV2
            clear HBV2
            go_wp2_with fail
            go_ret
            exact ⟨ret_b rfl, HB2.out.trans (HBV.out.mono HB2.out.size)⟩
          | true =>
            go_wp2_with fail
            refine (HV.out _ (HB2.out.trans (HBV.out.mono HB2.out.size))).mono ?_; rintro e w5 ⟨⟨tv, rfl⟩, hb⟩
            have HBV2 : Hid (Below w2.heap.size w2 w5) := Lib.hid (HBV.out.trans (hb.mono HBV.out.size))
            obtain ⟨d0, d1, d2, d3, d4, d5⟩ := MK.out w5 HBV2.out
            clear HBV hb
            have HBV := HBV2
            clear HBV2
            cases tP with
            | false =>
              go_wp2_with fail
              refine (HP.out _ (HB2.out.trans (HBV.out.mono HB2.out.size))).mono ?_; rintro e w5 ⟨rfl, hb⟩
              have HBV2 : Hid (Below w2.heap.size w2 w5) := Lib.hid (HBV.out.trans (hb.mono HBV.out.size))
              obtain ⟨d0, d1, d2, d3, d4, d5⟩ := MK.out w5 HBV2.out
              clear HBV hb
              have HBV := HBV2
              clear HBV2
              cases tC with
              | false =>
                go_wp2_with fail
                refine (HC.out _ (HB2.out.trans (HBV.out.mono HB2.out.size))).mono ?_; rintro e w5 ⟨rfl, hb⟩
                have HBV2 : Hid (Below w2.heap.size w2 w5) := Lib.hid (HBV.out.trans (hb.mono HBV.out.size))
                obtain ⟨d0, d1, d2, d3, d4, d5⟩ := MK.out w5 HBV2.out
                clear HBV hb
                have HBV := HBV2
                clear HBV2
                go_wp2_with fail
                go_ret
                exact ⟨ret_b rfl, HB2.out.trans (HBV.out.mono HB2.out.size)⟩
              | true =>
                go_wp2_with fail
                refine (HC.out _ (HB2.out.trans (HBV.out.mono HB2.out.size))).mono ?_; rintro e w5 ⟨rfl, hb⟩
                have HBV2 : Hid (Below w2.heap.size w2 w5) := Lib.hid (HBV.out.trans (hb.mono HBV.out.size))
                obtain ⟨d0, d1, d2, d3, d4, d5⟩ := MK.out w5 HBV2.out
                clear HBV hb
                have HBV := HBV2
                clear HBV2
                go_wp2_with fail
                go_ret
                exact ⟨ret_b rfl, HB2.out.trans (HBV.out.mono HB2.out.size)⟩
            | true =>
              go_wp2_with fail
              refine (HP.out _ (HB2.out.trans (HBV.out.mono HB2.out.size))).mono ?_; rintro e w5 ⟨rfl, hb⟩
              have HBV2 : Hid (Below w2.heap.size w2 w5) := Lib.hid (HBV.out.trans (hb.mono HBV.out.size))
              obtain ⟨d0, d1, d2, d3, d4, d5⟩ := MK.out w5 HBV2.out
              clear HBV hb
              have HBV := HBV2
              clear HBV2
              go_wp2_with fail
              go_ret
              exact ⟨ret_b rfl, HB2.out.trans (HBV.out.mono HB2.out.size)⟩
      | true =>
        go_wp2_with fail
        go_ret
        exact ⟨ret_b rfl, HB2.out.trans (HBV.out.mono HB2.out.size)⟩
end Go.Proofs.YtfagaflgdlomiaaGreatDoor
namespace Go.Proofs.YtfagaflgdlomiaaGreatDoor
open Go.RowKit
def SelRm (x : SelD) : Prop := SelSm x ∧ roomA x.args ≤ 80000 ∧ roomD x.dirs ≤ 80000 ∧ (-9223372036854775808 ≤ x.many ∧ x.many ≤ 9223372036854775807)
theorem dsl_any (x : SelD) (ev : Value) (w : World) (h : SelV ev x w) (hs : SelRm x) (hE : EnvU w) (hT : EnvT w) :
    Calls Tryz.prog 78 #[ev] w fun e w' => e = .returned (.bool (selB x)) ∧ Below w.heap.size w w' := by
  obtain ⟨a0, n0, c0, a1, n1, c1, rfl, h1, h2⟩ := h
  obtain ⟨⟨s1, s2, s3, s4⟩, r1, r2, r3⟩ := hs
  have e1 : (⟨x.als.toArray⟩ : ByteArray).toList = x.als := by rw [ByteArray.toList_eq]
  have e2 : (⟨x.name.toArray⟩ : ByteArray).toList = x.name := by rw [ByteArray.toList_eq]
  have hn : n0 = x.args.length := by
    rcases h1 with ⟨_, _, e, h⟩ | ⟨_, _, _, e, _⟩
    · injection e with _ e _; rw [e, h]; rfl
    · injection e with _ e _
  have hr : selB x = (namedB [] x.args && x.dirs.all dirB && !decide (x.many < 0) && cond ((x.kind.toNat : Int) == 1) (nameB x.name && (x.als.isEmpty || nameB x.als)) (cond ((x.kind.toNat : Int) == 2) (nameB x.name && !(x.name == [111, 110]) && x.als.isEmpty && ((n0 : Int) == 0) && (x.many == 0)) (cond ((x.kind.toNat : Int) == 3) ((x.name.isEmpty || nameB x.name) && x.als.isEmpty && ((n0 : Int) == 0) && decide (0 < x.many)) false))) := by
    unfold selB
    have k1 : (x.kind = 1) ↔ x.kind.toNat = 1 := u8_kind x.kind 1 (by decide)
    have k2 : (x.kind = 2) ↔ x.kind.toNat = 2 := u8_kind x.kind 2 (by decide)
    have k3 : (x.kind = 3) ↔ x.kind.toNat = 3 := u8_kind x.kind 3 (by decide)
    have q1 : ((x.kind.toNat : Int) == 1) = decide (x.kind.toNat = 1) := by rw [Bool.eq_iff_iff, beq_iff_eq, decide_eq_true_iff]; omega
    have q2 : ((x.kind.toNat : Int) == 2) = decide (x.kind.toNat = 2) := by rw [Bool.eq_iff_iff, beq_iff_eq, decide_eq_true_iff]; omega
    have q3 : ((x.kind.toNat : Int) == 3) = decide (x.kind.toNat = 3) := by rw [Bool.eq_iff_iff, beq_iff_eq, decide_eq_true_iff]; omega
    have q4 : ((n0 : Int) == 0) = x.args.isEmpty := by
      rw [hn]; cases x.args with
      | nil => rfl
      | cons c r => rw [List.length_cons]; simp; omega
    have q5 : (x.many == 0) = decide (x.many = 0) := by rw [Bool.eq_iff_iff, beq_iff_eq, decide_eq_true_iff]
    have q6 : (!decide (x.many < 0)) = decide (0 ≤ x.many) := by rw [Bool.eq_iff_iff]; simp
    have q7 : eqB x.name onK = (x.name == [111, 110]) := (eqB_of (by rw [beq_iff_eq]; rfl)).symm
    rw [q1, q2, q3, q4, q5, q6, q7]
    simp only [k1, k2, k3]
    congr 1
    by_cases h1 : x.kind.toNat = 1
    · simp [h1]
    · by_cases h2 : x.kind.toNat = 2
      · simp [h1, h2]
      · by_cases h3 : x.kind.toNat = 3
        · simp [h1, h2, h3]
        · simp [h1, h2, h3]
  rw [hr]
  refine dsl_c _ _ _ _ _ _ _ _ _ _ (namedB [] x.args) (x.dirs.all dirB) (nameB x.name) (nameB x.als) _ _ _ _ _ _ _ _ _ _ w ?_ ?_ ?_ ?_ rfl rfl rfl rfl rfl rfl rfl (by rw [Bool.eq_iff_iff, beq_iff_eq, beq_iff_eq]; omega) ?_ ?_ ?_ ?_ ?_ ?_ ?_ ?_ ?_ ?_ ?_ ?_
  · refine Lib.hid fun W hW => (argtoks_any x.args _ W (ArgSl.below h1 hW) ⟨_, _, _, rfl⟩ s3 r1 (hE.below hW) (hT.stays hW)).mono ?_
    rintro e w' ⟨⟨v, rfl, _⟩, hb⟩
    exact ⟨⟨v, by unfold atoksE; cases namedB [] x.args <;> rfl⟩, hb⟩
  · refine Lib.hid fun W hW => (dirtoks_any x.dirs _ W (DirSlc.dir (DirSlc.below h2 hW)) s4 r2 (hE.below hW) (hT.stays hW)).mono ?_
    rintro e w' ⟨⟨v, rfl, _⟩, hb⟩
    exact ⟨⟨v, by unfold dtoksE; cases x.dirs.all dirB <;> rfl⟩, hb⟩
  · exact Lib.hid fun W _ => calls_below (lname_big _ (by rw [← bsz]; exact s2) W)
  · exact Lib.hid fun W _ => calls_below (lname_big _ (by rw [← bsz]; exact s1) W)
  · rw [e1]; cases x.als <;> rfl
  · rw [e1]
  · rw [e1]; intro h; simpa using h
  · rw [e1]; intro h; simpa using h
  · rw [e2]; cases x.name <;> rfl
  · rw [e2]
  · rw [e2]; intro h; simpa using h
  · rw [e2]; intro h; simpa using h
  · rw [e2]
  · rw [e2]; rfl
  · rw [e2]; intro h; exact beq_iff_eq.1 h
  · rw [e2]; intro h; exact beq_eq_false_iff_ne.1 h
def endW (L : List SelD) (o : Option Nat) : Int := match o with
  | none => (L.length : Int) + 1
  | some q => (q : Int)
/-- How the rounds stand: at a place, or out. -/
def RS (L : List SelD) (f r o p : Nat) (R : Option Nat) : Prop := (∃ g, p ≤ L.length ∧ L.length ≤ p + g ∧ g ≤ f ∧ runS L g p r o = R) ∨ (p = L.length + 1 ∧ R = none)
theorem RS.done {L : List SelD} {f o p : Nat} {R : Option Nat} (h : RS L f 0 o p R) : (p : Int) = endW L R := by
  rcases h with ⟨g, h1, h2, h3, h4⟩ | ⟨h1, h2⟩
  · rw [runS_zero] at h4
    rw [← h4]; rfl
  · rw [h2, h1]; unfold endW; simp
theorem RS.out_ {L : List SelD} {f r o p : Nat} {R : Option Nat} (h : RS L f (r + 1) o p R) (hp : L.length ≤ p) : (L.length : Int) + 1 = endW L R := by
  rcases h with ⟨g, h1, h2, h3, h4⟩ | ⟨h1, h2⟩
  · rw [runS_out L g p r o hp] at h4
    rw [← h4]; rfl
  · rw [h2]; rfl
theorem RS.no {L : List SelD} {f r o p : Nat} {R : Option Nat} (h : RS L f (r + 1) o p R) (hp : p < L.length) (hx : deepB L[p] o = false) : (L.length : Int) + 1 = endW L R := by
  rcases h with ⟨g, h1, h2, h3, h4⟩ | ⟨h1, h2⟩
  · rw [runS_no L g p r o hp hx] at h4
    rw [← h4]; rfl
  · rw [h2]; rfl
theorem RS.next {L : List SelD} {f r o p : Nat} {R : Option Nat} (h : RS L f (r + 1) o p R) (hp : p < L.length) (hx : deepB L[p] o = true) :
    ∃ g, g < f ∧ L.length ≤ p + 1 + g ∧ ∃ q : Nat, endW L (runS L g (p + 1) L[p].many.toNat (o + 1)) = (q : Int) ∧ q ≤ L.length + 1 ∧ RS L f r o q R := by
  rcases h with ⟨g, h1, h2, h3, h4⟩ | ⟨h1, h2⟩
  · cases g with
    | zero => omega
    | succ g =>
      refine ⟨g, by omega, by omega, ?_⟩
      cases hu : runS L g (p + 1) L[p].many.toNat (o + 1) with
      | none =>
        rw [runS_bad L g p r o hp hx hu] at h4
        exact ⟨L.length + 1, by unfold endW; simp, Nat.le_refl _, Or.inr ⟨rfl, h4.symm⟩⟩
      | some q =>
        rw [runS_next L g p r o q hp hx hu] at h4
        have := runS_ends L g (p + 1) _ _ q (by omega) hu
        exact ⟨q, rfl, by omega, Or.inl ⟨g, this.2, by omega, by omega, h4⟩⟩
  · omega
theorem dw_ent : ∀ args w, (callFunc 77 args).run Tryz.prog w = .ok (.enter 77 args) w := enters_of Tryz.func77 (by kernel_rfl) rfl
/-- The selections' slice: where its elements lie, if there are some. -/
def SelAt (a : Option Addr) (n : Nat) (L : List SelD) (w : World) : Prop := n = L.length ∧ (0 < L.length → ∃ b off, a = some ⟨b, off, none⟩ ∧ RowG 6 SelE ⟨b, off, none⟩ L w)
theorem selAt_of {a : Option Addr} {n c : Nat} {F : List SelD} {w : World} (h : SelSl (.slice a n c) F w) : SelAt a n F w := by
  rcases h with ⟨a2, c2, e, rfl⟩ | ⟨b, off, c2, e, h, hp⟩
  · injection e with e1 e2 e3
    exact ⟨e2, fun h => absurd h (by simp)⟩
  · injection e with e1 e2 e3
    exact ⟨e2, fun _ => ⟨b, off, e1, h⟩⟩
set_option maxRecDepth 100000 in
set_option maxHeartbeats 8000000 in
theorem dwalk_step (L : List SelD) (sa : Option Addr) (n cap bl bw : Nat) (w0 : World) (hat : SelAt sa n L w0) (hsm : ∀ x ∈ L, SelRm x) (hl : L.length ≤ 100000) (hE : EnvU w0) (hT : EnvT w0)
    (cl : w0.cell? ⟨bl, 0, none⟩ = some (.slice sa n cap)) (cw : w0.cell? ⟨bw, 0, none⟩ = some (.func (.func 77) #[] #[.pointer (some ⟨bl, 0, none⟩), .pointer (some ⟨bw, 0, none⟩)])) (f : Nat)
    (HIH : Hid (∀ g, g < f → ∀ (p r o : Nat) (W : World), p ≤ L.length → L.length ≤ p + g → (r : Int) ≤ 9223372036854775807 → o ≤ 17 → (0 < r → o ≤ 16) → Below w0.heap.size w0 W →
      Calls Tryz.prog 77 #[.int .i64 (p : Int), .int .i64 (r : Int), .int .i64 (o : Int), .pointer (some ⟨bl, 0, none⟩), .pointer (some ⟨bw, 0, none⟩)] W fun e w' => e = .returned (.int .i64 (endW L (runS L g p r o))) ∧ Below W.heap.size W w'))
    (p0 r o : Nat) (W : World) (hp0 : p0 ≤ L.length) (hf : L.length ≤ p0 + f) (hr : (r : Int) ≤ 9223372036854775807) (ho : o ≤ 17) (ho2 : 0 < r → o ≤ 16) (hW : Below w0.heap.size w0 W) :
    Calls Tryz.prog 77 #[.int .i64 (p0 : Int), .int .i64 (r : Int), .int .i64 (o : Int), .pointer (some ⟨bl, 0, none⟩), .pointer (some ⟨bw, 0, none⟩)] W fun e w' => e = .returned (.int .i64 (endW L (runS L f p0 r o))) ∧ Below W.heap.size W w' := by
  obtain ⟨R, hR⟩ : ∃ R, runS L f p0 r o = R := ⟨_, rfl⟩
  have HS0 : Hid (RS L f r o p0 R) := Lib.hid (Or.inl ⟨f, hp0, hf, Nat.le_refl _, hR⟩)
  have HAT := Lib.hid hat
  have HNL : Hid (n = L.length) := Lib.hid hat.1
  have HSM := Lib.hid hsm
  have HE0 := Lib.hid hE
  have HT0 := Lib.hid hT
  have HWB := Lib.hid hW
  have HCL := Lib.hid cl
  have HCW := Lib.hid cw
  rw [hR]
  have hn : n ≤ 100000 := by rw [hat.1]; exact hl
  have hp0n : p0 ≤ n + 1 := by rw [hat.1]; omega
  have ew := dw_ent
  clear hat hsm hE hT hW cl cw hR hp0 hf hl
  go_enter Tryz.func77, Tryz.ntmps77
  go_wp2_with fail
  go_loopw [0, 10] (fun at_ ct wr => ∃ p j : Nat, at_ = .int .i64 (p : Int) ∧ ct = .int .i64 (j : Int) ∧ j ≤ r ∧ p ≤ n + 1 ∧ Hid (RS L f (r - j) o p R) ∧ Hid (Below W.heap.size W wr)) (fun at_ ct wr => r - (intOf ct).toNat)
  case atStart => exact ⟨p0, 0, rfl, rfl, Nat.zero_le _, hp0n, HS0, Lib.hid (Below.refl _ _)⟩
  case round =>
    clear HS0 hp0n
    rename World => wr
    obtain ⟨p, j, rfl, rfl, hj, hpn, HS, HB⟩ := hrel
    have hz := HB.out.size
    have hzw := HWB.out.size
    have hBW : Below w0.heap.size w0 wr := HWB.out.trans (HB.out.mono HWB.out.size)
    have HBW := Lib.hid hBW
    have e3 : wr.cell? ⟨bl, 0, none⟩ = some (.slice sa n cap) := (hBW.cell (p := ⟨_, _, none⟩) (lt_of_cell HCL.out)).trans HCL.out
    have e4 : wr.cell? ⟨bw, 0, none⟩ = some (.func (.func 77) #[] #[.pointer (some ⟨bl, 0, none⟩), .pointer (some ⟨bw, 0, none⟩)]) := (hBW.cell (p := ⟨_, _, none⟩) (lt_of_cell HCW.out)).trans HCW.out
    clear hBW
    by_cases hjr : j < r
    · have ho5 : o ≤ 16 := ho2 (by omega)
      obtain ⟨r1, hr1⟩ : ∃ r1, r - j = r1 + 1 := ⟨r - j - 1, by omega⟩
      have HS1 : Hid (RS L f (r1 + 1) o p R) := Lib.hid (by rw [← hr1]; exact HS.out)
      have HR1 : Hid (r - (j + 1) = r1) := Lib.hid (by omega)
      clear HS hr1
      have j1 : (j : Int) < (r : Int) := by omega
      have hex : decide ((n : Int) ≤ (p : Int)) = decide (n ≤ p) := by rw [Bool.eq_iff_iff]; simp
      by_cases hp : p < n
      · have hpl : p < L.length := by have := HNL.out; omega
        obtain ⟨b, off, hsa, hrow⟩ := HAT.out.2 (by omega)
        subst hsa
        obtain ⟨y0, y1, y2, y3, y4, y5, q0, q1, q2, q3, q4, q5, yy, yz⟩ := Sel_at (RowG.below hrow fun _ _ h => SelE.below h HBW.out) p hpl
        have sm := HSM.out L[p] (List.getElem_mem hpl)
        obtain ⟨t0, ht0⟩ : ∃ t, selB L[p] = t := ⟨_, rfl⟩
        have HC : Hid (∀ W', Below wr.heap.size wr W' → Calls Tryz.prog 78 #[.agg #[.int .u8 (L[p].kind.toNat : Int), .string ⟨L[p].als.toArray⟩, .string ⟨L[p].name.toArray⟩, .slice y0 y1 y2, .slice y3 y4 y5, .int .i64 L[p].many]] W' fun e w' => e = .returned (.bool t0) ∧ Below W'.heap.size W' w') := Lib.hid fun W' hW' => by
          rw [← ht0]
          exact dsl_any L[p] _ W' ⟨_, _, _, _, _, _, rfl, ArgSl.below yy hW', DirSlc.below yz hW'⟩ sm (HE0.out.below (HBW.out.trans (hW'.mono HBW.out.size))) (HT0.out.stays (HBW.out.trans (hW'.mono HBW.out.size)))
        have h1 : decide ((n : Int) ≤ (p : Int)) = false := by rw [decide_eq_false_iff_not]; omega
        have h1b : decide (n ≤ p) = false := by rw [decide_eq_false_iff_not]; omega
        have i1 : (p : Int).toNat = p := by omega
        have i2 : (0 : Int) ≤ (p : Int) := by omega
        have i3 : (p : Int) < (n : Int) := by omega
        cases t0 with
        | false =>
          have HF : Hid ((n : Int) + 1 = endW L R) := Lib.hid (by rw [HNL.out]; exact HS1.out.no hpl (by unfold deepB; rw [ht0]; rfl))
          clear ht0 yy yz sm hrow hex
          generalize (⟨L[p].als.toArray⟩ : ByteArray) = x1 at *
          generalize (⟨L[p].name.toArray⟩ : ByteArray) = x2 at *
          generalize (L[p].kind.toNat : Int) = kk at *
          generalize L[p].many = mm at *
          have pb := lt_of_cell q0
          have pl := lt_of_cell e3
          have pw := lt_of_cell e4
          go_wp2_with fail
          refine (HC.out _ (Below.refl _ _)).mono ?_; rintro e w5 ⟨rfl, hb⟩
          have f3 := (hb.cell (p := ⟨_, _, none⟩) pl).trans e3
          have HB1 := Lib.hid (HB.out.trans (hb.mono hz))
          clear hb e3 e4 q0 q1 q2 q3 q4 q5
          go_wp2_with fail
          go_ret
          exact ⟨ret_i HF.out, HB1.out⟩
        | true =>
          have hmn : 0 ≤ L[p].many := by
            have h := ht0
            unfold selB at h
            simp only [Bool.and_eq_true, decide_eq_true_eq] at h
            exact h.1.2
          obtain ⟨m, hm⟩ := Int.eq_ofNat_of_zero_le hmn
          have hmx : (m : Int) ≤ 9223372036854775807 := by rw [← hm]; exact sm.2.2.2.2
          have hmt : L[p].many.toNat = m := by rw [hm]; rfl
          have hdp : deepB L[p] o = !(decide (0 < (m : Int)) && decide (o = 16)) := by unfold deepB; rw [ht0, hm]; rfl
          rw [hm] at q5 HC
          have hto : ((o : Int) == 16) = decide (o = 16) := by rw [Bool.eq_iff_iff, beq_iff_eq, decide_eq_true_iff]; omega
          have HDP := Lib.hid hdp
          have HMT := Lib.hid hmt
          have HBT := Lib.hid hto
          clear ht0 yy yz sm hrow hex hdp hm hmt hmn hto
          generalize (⟨L[p].als.toArray⟩ : ByteArray) = x1 at *
          generalize (⟨L[p].name.toArray⟩ : ByteArray) = x2 at *
          generalize (L[p].kind.toNat : Int) = kk at *
          have pb := lt_of_cell q0
          have pl := lt_of_cell e3
          have pw := lt_of_cell e4
          obtain ⟨t2, ht2⟩ : ∃ t, decide (0 < (m : Int)) = t := ⟨_, rfl⟩
          cases t2 with
          | true =>
            have hm0 : (0 : Int) < (m : Int) := of_decide_eq_true ht2
            by_cases ho3 : o = 16
            · have hto : ((o : Int) == 16) = true := by rw [HBT.out, decide_eq_true_iff]; exact ho3
              have HF : Hid ((n : Int) + 1 = endW L R) := Lib.hid (by rw [HNL.out]; exact HS1.out.no hpl (by rw [HDP.out, ht2, decide_eq_true ho3]; rfl))
              clear ho3
              go_wp2_with fail
              refine (HC.out _ (Below.refl _ _)).mono ?_; rintro e w5 ⟨rfl, hb⟩
              have f3 := (hb.cell (p := ⟨_, _, none⟩) pl).trans e3
              have f5 := (hb.cell (p := ⟨b, _, none⟩) (lt_of_cell q5)).trans q5
              have HB1 := Lib.hid (HB.out.trans (hb.mono hz))
              clear hb e3 e4 q0 q1 q2 q3 q4 q5
              go_wp2_with fail
              go_ret
              exact ⟨ret_i HF.out, HB1.out⟩
            · have hto : ((o : Int) == 16) = false := by rw [HBT.out, decide_eq_false_iff_not]; exact ho3
              have HDY : Hid (deepB L[p] o = true) := Lib.hid (by rw [HDP.out, ht2, decide_eq_false ho3]; rfl)
              have ho4 : o ≤ 15 := by omega
              clear ho3
              obtain ⟨g, hg1, hg2, q, hq1, hq2, hq3⟩ := HS1.out.next hpl HDY.out
              rw [HMT.out] at hq1
              have HQ3 := Lib.hid hq3
              have HREC : Hid (∀ W', Below w0.heap.size w0 W' → Calls Tryz.prog 77 #[.int .i64 ((p : Int) + 1), .int .i64 (m : Int), .int .i64 ((o : Int) + 1), .pointer (some ⟨bl, 0, none⟩), .pointer (some ⟨bw, 0, none⟩)] W' fun e w' => e = .returned (.int .i64 (q : Int)) ∧ Below W'.heap.size W' w') := Lib.hid fun W' hW' => by
                have := HIH.out g hg1 (p + 1) m (o + 1) W' (by omega) (by omega) hmx (by omega) (by omega) hW'
                rw [hq1] at this
                exact this
              have hqn : q ≤ n + 1 := by have := HNL.out; omega
              have s1 : IntKind.i64.wrap ((p : Int) + 1) = (p : Int) + 1 := IntWalk.i64_in _ (by omega)
              have s2 : IntKind.i64.wrap ((o : Int) + 1) = (o : Int) + 1 := IntWalk.i64_in _ (by omega)
              clear hq1 hq2 hq3
              go_wp2_with fail
              refine (HC.out _ (Below.refl _ _)).mono ?_; rintro e w5 ⟨rfl, hb⟩
              have f3 := (hb.cell (p := ⟨_, _, none⟩) pl).trans e3
              have f4 := (hb.cell (p := ⟨_, _, none⟩) pw).trans e4
              have f5 := (hb.cell (p := ⟨b, _, none⟩) (lt_of_cell q5)).trans q5
              have HB1 := Lib.hid (HB.out.trans (hb.mono hz))
              have HW5 := Lib.hid (HBW.out.trans (hb.mono HBW.out.size))
              have hz5 := HB1.out.size
              clear hb e3 e4 q0 q1 q2 q3 q4 q5
              go_wp2_with fail
              refine wp_region_held_drew (S := fun W => Below w5.heap.size w5 W ∧ W.cell? ⟨bl, 0, none⟩ = some (.slice (some ⟨b, off, none⟩) n cap) ∧ W.cell? ⟨bw, 0, none⟩ = some (.func (.func 77) #[] #[.pointer (some ⟨bl, 0, none⟩), .pointer (some ⟨bw, 0, none⟩)]) ∧ W.cell? ⟨b, off + p * 6 + 5, none⟩ = some (.int .i64 (m : Int))) (by kernel_rfl) (⟨⟨rfl, rfl, rfl, Nat.le_refl _, fun _ _ => rfl⟩, f3, f4, f5⟩) (fun hHeld => ?_)
              refine tky 0 (some 39) (v := ?_) rfl (by kernel_rfl) (by kernel_rfl) (by kernel_rfl) (fun _ _ _ h => h) ?_ hHeld ?_
              rotate_left
              focus (intro w hSw; (try dsimp only at hSw); go_simp; (try with_reducible rfl); done)
              go_frame
              refine tky 1 (some 40) (v := ?_) rfl (by kernel_rfl) (by kernel_rfl) (by kernel_rfl) (fun _ _ _ h => h) ?_ hHeld ?_
              rotate_left
              focus (intro w hSw; (try dsimp only at hSw); go_simp; (try with_reducible rfl); done)
              go_frame
              refine tky 2 (some 41) (v := ?_) rfl (by kernel_rfl) (by kernel_rfl) (by kernel_rfl) (fun _ _ _ h => h) ?_ hHeld ?_
              rotate_left
              focus (intro w hSw; (try dsimp only at hSw); go_simp; (try with_reducible rfl); done)
              go_frame
              refine tky 3 (some 42) (v := ?_) rfl (by kernel_rfl) (by kernel_rfl) (by kernel_rfl) (fun _ _ _ h => h) ?_ hHeld ?_
              rotate_left
              focus (intro w hSw; (try dsimp only at hSw); go_simp; (try with_reducible rfl); done)
              go_frame
              refine tky 4 (some 43) (v := ?_) rfl (by kernel_rfl) (by kernel_rfl) (by kernel_rfl) (fun _ _ _ h => h) ?_ hHeld ?_
              rotate_left
              focus (intro w hSw; (try dsimp only at hSw); go_simp; (try with_reducible rfl); done)
              go_frame
              refine tky 5 (some 44) (v := ?_) rfl (by kernel_rfl) (by kernel_rfl) (by kernel_rfl) (fun _ _ _ h => h) ?_ hHeld ?_
              rotate_left
              focus (intro w hSw; (try dsimp only at hSw); go_simp; (try with_reducible rfl); done)
              go_frame
              refine tky 6 (some 45) (v := ?_) rfl (by kernel_rfl) (by kernel_rfl) (by kernel_rfl) (fun _ _ _ h => h) ?_ hHeld ?_
              rotate_left
              focus (intro w hSw; (try dsimp only at hSw); go_simp; (try with_reducible rfl); done)
              go_frame
              refine tky 7 (some 46) (v := ?_) rfl (by kernel_rfl) (by kernel_rfl) (by kernel_rfl) (fun _ _ _ h => h) ?_ hHeld ?_
              rotate_left
              focus (intro w hSw; (try dsimp only at hSw); go_simp; (try with_reducible rfl); done)
              go_frame
              refine tky 8 (some 47) (v := ?_) rfl (by kernel_rfl) (by kernel_rfl) (by kernel_rfl) (fun _ _ _ h => h) ?_ hHeld ?_
              rotate_left
              focus (intro w hSw; (try dsimp only at hSw); go_simp; (try with_reducible rfl); done)
              go_frame
              refine tky 9 (some 48) (v := ?_) rfl (by kernel_rfl) (by kernel_rfl) (by kernel_rfl) (fun _ _ _ h => h) ?_ hHeld ?_
              rotate_left
              focus (intro w hSw; (try dsimp only at hSw); go_simp; (try with_reducible rfl); done)
              go_frame
              refine rcons 10 rfl (by kernel_rfl) (fun K hK => ?_)
              go_simp
              refine (HREC.out _ (HW5.out.trans (hHeld.1.mono HW5.out.size))).mono ?_; rintro e w6 ⟨rfl, hb⟩
              (try dsimp only)
              refine hK.out _ _ (⟨hHeld.1.trans (hb.mono hHeld.1.size), (hb.cell (p := ⟨_, _, none⟩) (lt_of_cell hHeld.2.1)).trans hHeld.2.1, (hb.cell (p := ⟨_, _, none⟩) (lt_of_cell hHeld.2.2.1)).trans hHeld.2.2.1, (hb.cell (p := ⟨_, _, none⟩) (lt_of_cell hHeld.2.2.2)).trans hHeld.2.2.2⟩) (fun hHeld2 => ?_)
              clear hK K hHeld
              have hHeld := hHeld2
              clear hHeld2
              (try go_frame)
              refine tky 11 (some 0) (v := ?_) rfl (by kernel_rfl) (by kernel_rfl) (by kernel_rfl) (fun _ _ _ h => h) ?_ hHeld ?_
              rotate_left
              focus (intro w hSw; (try dsimp only at hSw); go_simp; (try with_reducible rfl); done)
              go_frame
              refine wpAnyH_done (by kernel_rfl) ?_ _
              have HBN : Hid (Below W.heap.size W _) := Lib.hid (HB1.out.trans (hHeld.1.mono hz5))
              have HQN : Hid (RS L f (r - (j + 1)) o q R) := Lib.hid (by rw [HR1.out]; exact HQ3.out)
              go_wp2_with fail
              go_roundw
              case rel => exact ⟨q, j + 1, rfl, by go_num, by omega, hqn, HQN, HBN⟩
              case measure => simp [intOf]; omega
          | false =>
            have hm0 : ¬ (0 : Int) < (m : Int) := of_decide_eq_false ht2
            have HDY : Hid (deepB L[p] o = true) := Lib.hid (by rw [HDP.out, ht2]; rfl)
            have ho4 : o ≤ 16 := ho5
            obtain ⟨g, hg1, hg2, q, hq1, hq2, hq3⟩ := HS1.out.next hpl HDY.out
            rw [HMT.out] at hq1
            have HQ3 := Lib.hid hq3
            have HREC : Hid (∀ W', Below w0.heap.size w0 W' → Calls Tryz.prog 77 #[.int .i64 ((p : Int) + 1), .int .i64 (m : Int), .int .i64 ((o : Int) + 1), .pointer (some ⟨bl, 0, none⟩), .pointer (some ⟨bw, 0, none⟩)] W' fun e w' => e = .returned (.int .i64 (q : Int)) ∧ Below W'.heap.size W' w') := Lib.hid fun W' hW' => by
              have := HIH.out g hg1 (p + 1) m (o + 1) W' (by omega) (by omega) hmx (by omega) (by omega) hW'
              rw [hq1] at this
              exact this
            have hqn : q ≤ n + 1 := by have := HNL.out; omega
            have s1 : IntKind.i64.wrap ((p : Int) + 1) = (p : Int) + 1 := IntWalk.i64_in _ (by omega)
            have s2 : IntKind.i64.wrap ((o : Int) + 1) = (o : Int) + 1 := IntWalk.i64_in _ (by omega)
            clear hq1 hq2 hq3
            go_wp2_with fail
            refine (HC.out _ (Below.refl _ _)).mono ?_; rintro e w5 ⟨rfl, hb⟩
            have f3 := (hb.cell (p := ⟨_, _, none⟩) pl).trans e3
            have f4 := (hb.cell (p := ⟨_, _, none⟩) pw).trans e4
            have f5 := (hb.cell (p := ⟨b, _, none⟩) (lt_of_cell q5)).trans q5
            have HB1 := Lib.hid (HB.out.trans (hb.mono hz))
            have HW5 := Lib.hid (HBW.out.trans (hb.mono HBW.out.size))
            have hz5 := HB1.out.size
            clear hb e3 e4 q0 q1 q2 q3 q4 q5
            go_wp2_with fail
            refine wp_region_held_drew (S := fun W => Below w5.heap.size w5 W ∧ W.cell? ⟨bl, 0, none⟩ = some (.slice (some ⟨b, off, none⟩) n cap) ∧ W.cell? ⟨bw, 0, none⟩ = some (.func (.func 77) #[] #[.pointer (some ⟨bl, 0, none⟩), .pointer (some ⟨bw, 0, none⟩)]) ∧ W.cell? ⟨b, off + p * 6 + 5, none⟩ = some (.int .i64 (m : Int))) (by kernel_rfl) (⟨⟨rfl, rfl, rfl, Nat.le_refl _, fun _ _ => rfl⟩, f3, f4, f5⟩) (fun hHeld => ?_)
            refine tky 0 (some 39) (v := ?_) rfl (by kernel_rfl) (by kernel_rfl) (by kernel_rfl) (fun _ _ _ h => h) ?_ hHeld ?_
            rotate_left
            focus (intro w hSw; (try dsimp only at hSw); go_simp; (try with_reducible rfl); done)
            go_frame
            refine tky 1 (some 40) (v := ?_) rfl (by kernel_rfl) (by kernel_rfl) (by kernel_rfl) (fun _ _ _ h => h) ?_ hHeld ?_
            rotate_left
            focus (intro w hSw; (try dsimp only at hSw); go_simp; (try with_reducible rfl); done)
            go_frame
            refine tky 2 (some 41) (v := ?_) rfl (by kernel_rfl) (by kernel_rfl) (by kernel_rfl) (fun _ _ _ h => h) ?_ hHeld ?_
            rotate_left
            focus (intro w hSw; (try dsimp only at hSw); go_simp; (try with_reducible rfl); done)
            go_frame
            refine tky 3 (some 42) (v := ?_) rfl (by kernel_rfl) (by kernel_rfl) (by kernel_rfl) (fun _ _ _ h => h) ?_ hHeld ?_
            rotate_left
            focus (intro w hSw; (try dsimp only at hSw); go_simp; (try with_reducible rfl); done)
            go_frame
            refine tky 4 (some 43) (v := ?_) rfl (by kernel_rfl) (by kernel_rfl) (by kernel_rfl) (fun _ _ _ h => h) ?_ hHeld ?_
            rotate_left
            focus (intro w hSw; (try dsimp only at hSw); go_simp; (try with_reducible rfl); done)
            go_frame
            refine tky 5 (some 44) (v := ?_) rfl (by kernel_rfl) (by kernel_rfl) (by kernel_rfl) (fun _ _ _ h => h) ?_ hHeld ?_
            rotate_left
            focus (intro w hSw; (try dsimp only at hSw); go_simp; (try with_reducible rfl); done)
            go_frame
            refine tky 6 (some 45) (v := ?_) rfl (by kernel_rfl) (by kernel_rfl) (by kernel_rfl) (fun _ _ _ h => h) ?_ hHeld ?_
            rotate_left
            focus (intro w hSw; (try dsimp only at hSw); go_simp; (try with_reducible rfl); done)
            go_frame
            refine tky 7 (some 46) (v := ?_) rfl (by kernel_rfl) (by kernel_rfl) (by kernel_rfl) (fun _ _ _ h => h) ?_ hHeld ?_
            rotate_left
            focus (intro w hSw; (try dsimp only at hSw); go_simp; (try with_reducible rfl); done)
            go_frame
            refine tky 8 (some 47) (v := ?_) rfl (by kernel_rfl) (by kernel_rfl) (by kernel_rfl) (fun _ _ _ h => h) ?_ hHeld ?_
            rotate_left
            focus (intro w hSw; (try dsimp only at hSw); go_simp; (try with_reducible rfl); done)
            go_frame
            refine tky 9 (some 48) (v := ?_) rfl (by kernel_rfl) (by kernel_rfl) (by kernel_rfl) (fun _ _ _ h => h) ?_ hHeld ?_
            rotate_left
            focus (intro w hSw; (try dsimp only at hSw); go_simp; (try with_reducible rfl); done)
            go_frame
            refine rcons 10 rfl (by kernel_rfl) (fun K hK => ?_)
            go_simp
            refine (HREC.out _ (HW5.out.trans (hHeld.1.mono HW5.out.size))).mono ?_; rintro e w6 ⟨rfl, hb⟩
            (try dsimp only)
            refine hK.out _ _ (⟨hHeld.1.trans (hb.mono hHeld.1.size), (hb.cell (p := ⟨_, _, none⟩) (lt_of_cell hHeld.2.1)).trans hHeld.2.1, (hb.cell (p := ⟨_, _, none⟩) (lt_of_cell hHeld.2.2.1)).trans hHeld.2.2.1, (hb.cell (p := ⟨_, _, none⟩) (lt_of_cell hHeld.2.2.2)).trans hHeld.2.2.2⟩) (fun hHeld2 => ?_)
            clear hK K hHeld
            have hHeld := hHeld2
            clear hHeld2
            (try go_frame)
            refine tky 11 (some 0) (v := ?_) rfl (by kernel_rfl) (by kernel_rfl) (by kernel_rfl) (fun _ _ _ h => h) ?_ hHeld ?_
            rotate_left
            focus (intro w hSw; (try dsimp only at hSw); go_simp; (try with_reducible rfl); done)
            go_frame
            refine wpAnyH_done (by kernel_rfl) ?_ _
            have HBN : Hid (Below W.heap.size W _) := Lib.hid (HB1.out.trans (hHeld.1.mono hz5))
            have HQN : Hid (RS L f (r - (j + 1)) o q R) := Lib.hid (by rw [HR1.out]; exact HQ3.out)
            go_wp2_with fail
            go_roundw
            case rel => exact ⟨q, j + 1, rfl, by go_num, by omega, hqn, HQN, HBN⟩
            case measure => simp [intOf]; omega
      · have h1 : decide ((n : Int) ≤ (p : Int)) = true := by rw [decide_eq_true_iff]; omega
        have h1b : decide (n ≤ p) = true := by rw [decide_eq_true_iff]; omega
        have HF : Hid ((n : Int) + 1 = endW L R) := Lib.hid (by rw [HNL.out]; exact HS1.out.out_ (by have := HNL.out; omega))
        clear hex
        go_wp2_with fail
        go_ret
        exact ⟨ret_i HF.out, HB.out⟩
    · have hj2 : j = r := by omega
      have HF : Hid ((p : Int) = endW L R) := Lib.hid (by
        have := HS.out
        rw [hj2, Nat.sub_self] at this
        exact this.done)
      have j1 : ¬ (j : Int) < (r : Int) := by omega
      clear HS hj2
      go_wp2_with fail
      go_ret
      exact ⟨ret_i HF.out, HB.out⟩
theorem dwalk_any (L : List SelD) (sa : Option Addr) (n cap bl bw : Nat) (w0 : World) (hat : SelAt sa n L w0) (hsm : ∀ x ∈ L, SelRm x) (hl : L.length ≤ 100000) (hE : EnvU w0) (hT : EnvT w0)
    (cl : w0.cell? ⟨bl, 0, none⟩ = some (.slice sa n cap)) (cw : w0.cell? ⟨bw, 0, none⟩ = some (.func (.func 77) #[] #[.pointer (some ⟨bl, 0, none⟩), .pointer (some ⟨bw, 0, none⟩)])) :
    ∀ f : Nat, ∀ (p r o : Nat) (W : World), p ≤ L.length → L.length ≤ p + f → (r : Int) ≤ 9223372036854775807 → o ≤ 17 → (0 < r → o ≤ 16) → Below w0.heap.size w0 W →
      Calls Tryz.prog 77 #[.int .i64 (p : Int), .int .i64 (r : Int), .int .i64 (o : Int), .pointer (some ⟨bl, 0, none⟩), .pointer (some ⟨bw, 0, none⟩)] W fun e w' => e = .returned (.int .i64 (endW L (runS L f p r o))) ∧ Below W.heap.size W w' := by
  intro f
  induction f using Nat.strongRecOn with
  | _ f ih =>
    intro p r o W h1 h2 h3 h4 h5 h6
    exact dwalk_step L sa n cap bl bw w0 hat hsm hl hE hT cl cw f (Lib.hid fun g hg p r o W a b c d e f' => ih g hg p r o W a b c d e f') p r o W h1 h2 h3 h4 h5 h6
end Go.Proofs.YtfagaflgdlomiaaGreatDoor
namespace Go.Proofs.YtfagaflgdlomiaaGreatDoor
open Go.RowKit
theorem slg_form' {α : Type} {k : Nat} {E : Addr → α → World → Prop} {v : Value} {L : List α} {w : World} (h : SlG k E v L w) : ∃ a n c, v = .slice a n c := by
  rcases h with ⟨a, c, e, _⟩ | ⟨b, off, c, e, _⟩
  · exact ⟨_, _, _, e⟩
  · exact ⟨_, _, _, e⟩
theorem endW_all (L : List SelD) (R : Option Nat) : (endW L R == (L.length : Int)) = decide (R = some L.length) := by
  cases R with
  | none =>
    rw [Bool.eq_iff_iff, beq_iff_eq, decide_eq_true_iff]; unfold endW
    exact ⟨fun h => absurd h (by simp only; omega), fun h => by cases h⟩
  | some q =>
    rw [Bool.eq_iff_iff, beq_iff_eq, decide_eq_true_iff]; unfold endW
    exact ⟨fun h => by rw [Int.ofNat_inj.1 h], fun h => by injection h with h; rw [h]⟩
set_option maxRecDepth 100000 in
set_option maxHeartbeats 4000000 in
theorem docsels_any (L : List SelD) (v : Value) (many : Int) (w : World) (hv : SelSl v L w) (hl : L.length ≤ 100000) (hsm : ∀ x ∈ L, SelRm x) (hmm : -9223372036854775808 ≤ many ∧ many ≤ 9223372036854775807) (hE : EnvU w) (hT : EnvT w) :
    Calls Tryz.prog 51 #[v, .int .i64 many] w fun e w' => e = .returned (.bool (selsB L many)) ∧ Below w.heap.size w w' := by
  obtain ⟨sa, n, c, rfl⟩ := slg_form' hv
  have HAT := Lib.hid (selAt_of hv)
  have hn : n = L.length := HAT.out.1
  unfold selsB
  by_cases hm : 0 < many
  · rw [decide_eq_true hm, Bool.true_and, ← endW_all]
    obtain ⟨q, hq⟩ : ∃ q, endW L (runS L L.length 0 many.toNat 1) = q := ⟨_, rfl⟩
    rw [hq, ← hn]
    have HR : Hid (∀ (W : World) (bl bw : Nat), Below w.heap.size w W → W.cell? ⟨bl, 0, none⟩ = some (.slice sa n c) → W.cell? ⟨bw, 0, none⟩ = some (.func (.func 77) #[] #[.pointer (some ⟨bl, 0, none⟩), .pointer (some ⟨bw, 0, none⟩)]) → ∀ W', Below W.heap.size W W' →
        Calls Tryz.prog 77 #[.int .i64 0, .int .i64 many, .int .i64 1, .pointer (some ⟨bl, 0, none⟩), .pointer (some ⟨bw, 0, none⟩)] W' fun e w' => e = .returned (.int .i64 q) ∧ Below W'.heap.size W' w') := Lib.hid fun W bl bw hW h1 h2 W' hW' => by
      have hr : ((many.toNat : Nat) : Int) = many := by omega
      have := dwalk_any L sa n c bl bw W (selAt_of (SelSl.below hv hW)) hsm hl (hE.below hW) (hT.stays hW) h1 h2 L.length 0 many.toNat 1 W' (Nat.zero_le _) (by omega) (by omega) (by omega) (by omega) hW'
      rw [hr, hq] at this
      exact this
    obtain ⟨tE, htE⟩ : ∃ t, (q == (n : Int)) = t := ⟨_, rfl⟩
    rw [htE]
    have ew := dw_ent
    clear hv hsm hE hT hl hn hq
    go_enter Tryz.func51, Tryz.ntmps51
    go_upto_region 3 with fail
    obtain ⟨w2, hw2⟩ : ∃ w2, (w.alloc (.cells #[.slice sa n c] 72 (0, 0))).alloc (.cells #[.func (.func 77) #[] #[.pointer (some ⟨w.heap.size, 0, none⟩), .pointer (some ⟨w.heap.size + 1, 0, none⟩)]] 142 (0, 0)) = w2 := ⟨_, rfl⟩
    have HB2 : Hid (Below w.heap.size w w2) := Lib.hid (by rw [← hw2]; exact ((Below.refl _ _).alloc (Nat.le_refl _) _).alloc (by simp) _)
    have k0 : w2.heap[w.heap.size]? = some (.cells #[.slice sa n c] 72 (0, 0)) := by rw [← hw2]; exact heap_old (heap_new _ _ _ rfl)
    have k1 : w2.heap[w.heap.size + 1]? = some (.cells #[.func (.func 77) #[] #[.pointer (some ⟨w.heap.size, 0, none⟩), .pointer (some ⟨w.heap.size + 1, 0, none⟩)]] 142 (0, 0)) := by rw [← hw2]; exact heap_new _ _ _ (by simp)
    have f0 : w2.cell? ⟨w.heap.size, 0, none⟩ = some (.slice sa n c) := (Lib.cell_of_heap k0 0).trans rfl
    have f1 : w2.cell? ⟨w.heap.size + 1, 0, none⟩ = some (.func (.func 77) #[] #[.pointer (some ⟨w.heap.size, 0, none⟩), .pointer (some ⟨w.heap.size + 1, 0, none⟩)]) := (Lib.cell_of_heap k1 0).trans rfl
    try rw [hw2]
    clear hw2 k0 k1
    obtain ⟨lb, hlb⟩ : ∃ lb, w.heap.size = lb := ⟨_, rfl⟩
    obtain ⟨fb, hfb⟩ : ∃ fb, w.heap.size + 1 = fb := ⟨_, rfl⟩
    rw [hfb] at f1
    rw [hlb] at f0 f1
    try rw [hfb]
    try rw [hlb]
    clear hlb hfb
    have HR2 := Lib.hid (HR.out w2 lb fb HB2.out f0 f1)
    clear HR
    refine wp_region_held_drew (S := fun W => Below w2.heap.size w2 W ∧ W.cell? ⟨lb, 0, none⟩ = some (.slice sa n c) ∧ W.cell? ⟨fb, 0, none⟩ = some (.func (.func 77) #[] #[.pointer (some ⟨lb, 0, none⟩), .pointer (some ⟨fb, 0, none⟩)])) (by kernel_rfl) (⟨⟨rfl, rfl, rfl, Nat.le_refl _, fun _ _ => rfl⟩, f0, f1⟩) (fun hHeld => ?_)
    refine tky 0 (some 7) (v := ?_) rfl (by kernel_rfl) (by kernel_rfl) (by kernel_rfl) (fun _ _ _ h => h) ?_ hHeld ?_
    rotate_left
    focus (intro w hSw; (try dsimp only at hSw); go_simp; (try with_reducible rfl); done)
    go_frame
    refine tky 1 (some 8) (v := ?_) rfl (by kernel_rfl) (by kernel_rfl) (by kernel_rfl) (fun _ _ _ h => h) ?_ hHeld ?_
    rotate_left
    focus (intro w hSw; (try dsimp only at hSw); go_simp; (try with_reducible rfl); done)
    go_frame
    refine tky 2 (some 9) (v := ?_) rfl (by kernel_rfl) (by kernel_rfl) (by kernel_rfl) (fun _ _ _ h => h) ?_ hHeld ?_
    rotate_left
    focus (intro w hSw; (try dsimp only at hSw); go_simp; (try with_reducible rfl); done)
    go_frame
    refine tky 3 (some 10) (v := ?_) rfl (by kernel_rfl) (by kernel_rfl) (by kernel_rfl) (fun _ _ _ h => h) ?_ hHeld ?_
    rotate_left
    focus (intro w hSw; (try dsimp only at hSw); go_simp; (try with_reducible rfl); done)
    go_frame
    refine tky 4 (some 11) (v := ?_) rfl (by kernel_rfl) (by kernel_rfl) (by kernel_rfl) (fun _ _ _ h => h) ?_ hHeld ?_
    rotate_left
    focus (intro w hSw; (try dsimp only at hSw); go_simp; (try with_reducible rfl); done)
    go_frame
    refine tky 6 (some 13) (v := ?_) rfl (by kernel_rfl) (by kernel_rfl) (by kernel_rfl) (fun _ _ _ h => h) ?_ hHeld ?_
    rotate_left
    focus (intro w hSw; (try dsimp only at hSw); go_simp; (try with_reducible rfl); done)
    go_frame
    refine tky 7 (some 14) (v := ?_) rfl (by kernel_rfl) (by kernel_rfl) (by kernel_rfl) (fun _ _ _ h => h) ?_ hHeld ?_
    rotate_left
    focus (intro w hSw; (try dsimp only at hSw); go_simp; (try with_reducible rfl); done)
    go_frame
    refine rcons 5 rfl (by kernel_rfl) (fun K hK => ?_)
    go_simp
    refine (HR2.out _ hHeld.1).mono ?_; rintro e w5 ⟨rfl, hb⟩
    (try dsimp only)
    refine hK.out _ _ (⟨hHeld.1.trans (hb.mono hHeld.1.size), (hb.cell (p := ⟨_, _, none⟩) (lt_of_cell hHeld.2.1)).trans hHeld.2.1, (hb.cell (p := ⟨_, _, none⟩) (lt_of_cell hHeld.2.2)).trans hHeld.2.2⟩) (fun hHeld2 => ?_)
    clear hK K hHeld
    have hHeld := hHeld2
    clear hHeld2
    (try go_frame)
    refine tky 8 (some 15) (v := ?_) rfl (by kernel_rfl) (by kernel_rfl) (by kernel_rfl) (fun _ _ _ h => h) ?_ hHeld ?_
    rotate_left
    focus (intro w hSw; (try dsimp only at hSw); go_simp; (try with_reducible rfl); done)
    go_frame
    refine tky 9 (some 16) (v := ?_) rfl (by kernel_rfl) (by kernel_rfl) (by kernel_rfl) (fun _ _ _ h => h) ?_ hHeld ?_
    rotate_left
    focus (intro w hSw; (try dsimp only at hSw); go_simp; (try with_reducible rfl); done)
    go_frame
    refine tky 10 (some 4) (v := ?_) rfl (by kernel_rfl) (by kernel_rfl) (by kernel_rfl) (fun _ _ _ h => h) ?_ hHeld ?_
    rotate_left
    focus (intro w hSw; (try dsimp only at hSw); go_simp; (try with_reducible rfl); done)
    go_frame
    refine wpAnyH_done (by kernel_rfl) ?_ _
    have HBN := Lib.hid (HB2.out.trans (hHeld.1.mono HB2.out.size))
    go_wp2_with fail
    go_ret
    exact ⟨rfl, HBN.out⟩
  · rw [decide_eq_false hm, Bool.false_and]
    have hmf : decide (0 < many) = false := decide_eq_false hm
    clear hv hsm hE hT hl hn
    go_enter Tryz.func51, Tryz.ntmps51
    go_upto_region 3 with fail
    obtain ⟨w2, hw2⟩ : ∃ w2, (w.alloc (.cells #[.slice sa n c] 72 (0, 0))).alloc (.cells #[.func (.func 77) #[] #[.pointer (some ⟨w.heap.size, 0, none⟩), .pointer (some ⟨w.heap.size + 1, 0, none⟩)]] 142 (0, 0)) = w2 := ⟨_, rfl⟩
    have HB2 : Hid (Below w.heap.size w w2) := Lib.hid (by rw [← hw2]; exact ((Below.refl _ _).alloc (Nat.le_refl _) _).alloc (by simp) _)
    have k0 : w2.heap[w.heap.size]? = some (.cells #[.slice sa n c] 72 (0, 0)) := by rw [← hw2]; exact heap_old (heap_new _ _ _ rfl)
    have k1 : w2.heap[w.heap.size + 1]? = some (.cells #[.func (.func 77) #[] #[.pointer (some ⟨w.heap.size, 0, none⟩), .pointer (some ⟨w.heap.size + 1, 0, none⟩)]] 142 (0, 0)) := by rw [← hw2]; exact heap_new _ _ _ (by simp)
    have f0 : w2.cell? ⟨w.heap.size, 0, none⟩ = some (.slice sa n c) := (Lib.cell_of_heap k0 0).trans rfl
    have f1 : w2.cell? ⟨w.heap.size + 1, 0, none⟩ = some (.func (.func 77) #[] #[.pointer (some ⟨w.heap.size, 0, none⟩), .pointer (some ⟨w.heap.size + 1, 0, none⟩)]) := (Lib.cell_of_heap k1 0).trans rfl
    try rw [hw2]
    clear hw2 k0 k1
    obtain ⟨lb, hlb⟩ : ∃ lb, w.heap.size = lb := ⟨_, rfl⟩
    obtain ⟨fb, hfb⟩ : ∃ fb, w.heap.size + 1 = fb := ⟨_, rfl⟩
    rw [hfb] at f1
    rw [hlb] at f0 f1
    try rw [hfb]
    try rw [hlb]
    clear hlb hfb
    refine wp_region_held_drew (S := fun W => Below w2.heap.size w2 W ∧ W.cell? ⟨lb, 0, none⟩ = some (.slice sa n c) ∧ W.cell? ⟨fb, 0, none⟩ = some (.func (.func 77) #[] #[.pointer (some ⟨lb, 0, none⟩), .pointer (some ⟨fb, 0, none⟩)])) (by kernel_rfl) (⟨⟨rfl, rfl, rfl, Nat.le_refl _, fun _ _ => rfl⟩, f0, f1⟩) (fun hHeld => ?_)
    refine tky 0 (some 7) (v := ?_) rfl (by kernel_rfl) (by kernel_rfl) (by kernel_rfl) (fun _ _ _ h => h) ?_ hHeld ?_
    rotate_left
    focus (intro w hSw; (try dsimp only at hSw); go_simp; (try with_reducible rfl); done)
    go_frame
    refine tky 1 (some 8) (v := ?_) rfl (by kernel_rfl) (by kernel_rfl) (by kernel_rfl) (fun _ _ _ h => h) ?_ hHeld ?_
    rotate_left
    focus (intro w hSw; (try dsimp only at hSw); go_simp; (try with_reducible rfl); done)
    go_frame
    refine tky 2 (some 9) (v := ?_) rfl (by kernel_rfl) (by kernel_rfl) (by kernel_rfl) (fun _ _ _ h => h) ?_ hHeld ?_
    rotate_left
    focus (intro w hSw; (try dsimp only at hSw); go_simp; (try with_reducible rfl); done)
    go_frame
    refine tkn 3 (some 10) rfl (by kernel_rfl) (by kernel_rfl) (by kernel_rfl) (fun _ _ _ h => h) hHeld ?_
    go_frame
    refine tkn 4 (some 11) rfl (by kernel_rfl) (by kernel_rfl) (by kernel_rfl) (fun _ _ _ h => h) hHeld ?_
    go_frame
    refine tkn 5 (some 12) rfl (by kernel_rfl) (by kernel_rfl) (by kernel_rfl) (fun _ _ _ h => h) hHeld ?_
    go_frame
    refine tkn 6 (some 13) rfl (by kernel_rfl) (by kernel_rfl) (by kernel_rfl) (fun _ _ _ h => h) hHeld ?_
    go_frame
    refine tkn 7 (some 14) rfl (by kernel_rfl) (by kernel_rfl) (by kernel_rfl) (fun _ _ _ h => h) hHeld ?_
    go_frame
    refine tkn 8 (some 15) rfl (by kernel_rfl) (by kernel_rfl) (by kernel_rfl) (fun _ _ _ h => h) hHeld ?_
    go_frame
    refine tky 9 (some 16) (v := ?_) rfl (by kernel_rfl) (by kernel_rfl) (by kernel_rfl) (fun _ _ _ h => h) ?_ hHeld ?_
    rotate_left
    focus (intro w hSw; (try dsimp only at hSw); go_simp; (try with_reducible rfl); done)
    go_frame
    refine tky 10 (some 4) (v := ?_) rfl (by kernel_rfl) (by kernel_rfl) (by kernel_rfl) (fun _ _ _ h => h) ?_ hHeld ?_
    rotate_left
    focus (intro w hSw; (try dsimp only at hSw); go_simp; (try with_reducible rfl); done)
    go_frame
    refine wpAnyH_done (by kernel_rfl) ?_ _
    have HBN := Lib.hid (HB2.out.trans (hHeld.1.mono HB2.out.size))
    go_wp2_with fail
    go_ret
    exact ⟨rfl, HBN.out⟩
end Go.Proofs.YtfagaflgdlomiaaGreatDoor
namespace Go.Proofs.YtfagaflgdlomiaaGreatDoor
open Go.RowKit
/-- A variable's own part: the program's words and the reference's. -/
def inDB (x : Inp) : Bool := mayI x && x.dirs.isEmpty
theorem isV_kind (c : Cel) : ((c.kind.toNat : Int) == 5) = isV c := by
  unfold isV
  rw [Bool.eq_iff_iff, beq_iff_eq, beq_iff_eq, ← UInt8.toNat_inj]
  show ((c.kind.toNat : Int) = 5) ↔ c.kind.toNat = 5
  omega
theorem plain_isV {V : List Cel} (h : plainB V = true) : V.any isV = false := by
  unfold plainB at h
  rw [Bool.and_eq_true] at h
  rw [List.any_eq_false]
  intro c hc
  have := List.all_eq_true.1 h.2 c hc
  unfold isV
  cases h5 : (c.kind == 5) with
  | false => simp
  | true => rw [h5] at this; simp at this
set_option maxRecDepth 100000 in
theorem di1_any (c : Cel) (w : World) : Calls Tryz.prog 81 #[.agg (celCells c)] w fun e w' => e = .returned (.bool (isV c)) ∧ Below w.heap.size w w' := by
  rw [← isV_kind]
  unfold celCells
  generalize (c.kind.toNat : Int) = kk
  generalize (⟨c.name.toArray⟩ : ByteArray) = x1
  generalize (⟨c.text.toArray⟩ : ByteArray) = x2
  generalize c.num = x3
  generalize c.many = x4
  go_enter Tryz.func81, Tryz.ntmps81
  go_wp2_with fail
  go_ret
  exact ⟨rfl, (Below.refl _ _).alloc (Nat.le_refl _) _⟩
theorem di1_ent : ∀ args w, (callFunc 81 args).run Tryz.prog w = .ok (.enter 81 args) w := enters_of Tryz.func81 (by kernel_rfl) rfl
theorem din_any (x : Inp) (ev : Value) (w : World) (h : InpV ev x w) (hs : InpSm x) (hE : EnvU w) (hT : EnvT w) :
    Calls Tryz.prog 54 #[ev] w fun e w' => e = .returned (.bool (inDB x)) ∧ Below w.heap.size w w' := by
  obtain ⟨a0, n0, c0, a1, n1, c1, a2, n2, c2, rfl, h1, h2, h3⟩ := h
  obtain ⟨s1, s2, s3, s4, s5⟩ := hs
  have hd : n2 = x.dirs.length := xsl_len h3
  have hv : n1 = x.dflt.length := celsl_len h2
  have hr : inDB x = (ttB x.tnm x.wr && nameB x.name && !decide ((0 : Int) < (n2 : Int)) && cond x.has (litB x.dflt && (plainB x.dflt || !x.dflt.any isV)) ((n1 : Int) == 0)) := by
    unfold inDB mayI
    have e1 : (!decide ((0 : Int) < (n2 : Int))) = x.dirs.isEmpty := by
      rw [hd]; cases x.dirs with
      | nil => rfl
      | cons c r => rw [List.length_cons, Bool.eq_iff_iff]; simp; try omega
    have e2 : ((n1 : Int) == 0) = x.dflt.isEmpty := by
      rw [hv]; cases x.dflt with
      | nil => rfl
      | cons c r => rw [List.length_cons, Bool.eq_iff_iff]; simp; try omega
    have e3 : (plainB x.dflt || !x.dflt.any isV) = !x.dflt.any isV := by
      cases hp : plainB x.dflt with
      | false => rfl
      | true => rw [plain_isV hp]; rfl
    rw [e1, e2, e3]
    cases ttB x.tnm x.wr <;> cases nameB x.name <;> cases x.dirs.isEmpty <;> cases (cond x.has (litB x.dflt && !x.dflt.any isV) x.dflt.isEmpty) <;> rfl
  rw [hr]
  refine din_c _ _ _ _ _ _ _ _ _ _ _ _ (ttB x.tnm x.wr) (nameB x.name) (litB x.dflt) (plainB x.dflt) (x.dflt.any isV) _ _ w ?_ ?_ ?_ ?_ ?_ rfl rfl (by rw [Bool.eq_iff_iff]; simp) (by rw [Bool.eq_iff_iff, beq_iff_eq, beq_iff_eq]; omega)
  · refine Lib.hid fun W hW => (tt_any ⟨x.tnm.toArray⟩ x.wr _ W (h1.below hW) (by rw [← bsz]; exact s2) (by omega)).mono ?_
    rintro e w' ⟨⟨v, rfl, _⟩, hb⟩
    exact ⟨⟨v, by unfold ttE; cases ttB x.tnm x.wr <;> rfl⟩, hb⟩
  · exact Lib.hid fun W _ => calls_below (lname_big _ (by rw [← bsz]; exact s1) W)
  · refine Lib.hid fun W hW => (tokens_any x.dflt _ W (h2.below hW) s4 (hE.below hW) (hT.stays hW)).mono ?_
    rintro e w' ⟨⟨v, rfl, _⟩, hb⟩
    exact ⟨⟨v, by unfold toksE; cases litB x.dflt <;> rfl⟩, hb⟩
  · exact Lib.hid fun W hW => cplain_any x.dflt _ W (h2.below hW) s4 (hE.below hW)
  · exact Lib.hid fun W hW => ccontains_any _ #[] di1_ent isV x.dflt _ W (h2.below hW) s4.1 (Lib.hid fun W' k hk _ => by
      have := di1_any x.dflt[k] W'
      simpa using this)
set_option maxRecDepth 100000 in
theorem dc1_any (x : Inp) (ev : Value) (w : World) (h : InpV ev x w) (hs : InpSm x) (hE : EnvU w) (hT : EnvT w) :
    Calls Tryz.prog 53 #[ev] w fun e w' => e = .returned (.bool (!inDB x)) ∧ Below w.heap.size w w' := by
  have HC : Hid (∀ W, Below w.heap.size w W → Calls Tryz.prog 54 #[ev] W fun e w' => e = .returned (.bool (inDB x)) ∧ Below W.heap.size W w') := Lib.hid fun W hW => din_any x ev W (h.below hW) hs (hE.below hW) (hT.stays hW)
  generalize inDB x = t at *
  obtain ⟨a0, n0, c0, a1, n1, c1, a2, n2, c2, rfl, h1, h2, h3⟩ := h
  clear h1 h2 h3 hs
  generalize (⟨x.name.toArray⟩ : ByteArray) = x1 at *
  generalize (⟨x.tnm.toArray⟩ : ByteArray) = x2 at *
  generalize x.has = x3 at *
  go_enter Tryz.func53, Tryz.ntmps53
  go_wp2_with fail
  refine (HC.out _ ((Below.refl _ _).alloc (Nat.le_refl _) _)).mono ?_; rintro e w5 ⟨rfl, hb⟩
  have HB := Lib.hid (((Below.refl w.heap.size w).alloc (Nat.le_refl _) (.cells #[.string x1, .string x2, .slice a0 n0 c0, .bool x3, .slice a1 n1 c1, .slice a2 n2 c2] 61 (0, 0))).trans (hb.mono (by simp)))
  clear hb
  go_wp2_with fail
  go_ret
  exact ⟨rfl, HB.out⟩
theorem dc1_ent : ∀ args w, (callFunc 53 args).run Tryz.prog w = .ok (.enter 53 args) w := enters_of Tryz.func53 (by kernel_rfl) rfl
noncomputable def oprB (x : OpD) : Bool := (decide (x.kind.toNat = 1) || decide (x.kind.toNat = 2)) && (x.name.isEmpty || nameB x.name) && selsB x.sels x.many && !x.vars.any fun v => !inDB v
noncomputable def frgB (x : FrgD) : Bool := nameB x.name && !(x.name == [111, 110]) && nameB x.on && selsB x.sels x.many
noncomputable def docB (x : DocD) : Bool := decide (0 < x.ops.length + x.frags.length) && x.ops.all oprB && x.frags.all frgB
def OprAt (a : Option Addr) (n : Nat) (L : List OpD) (w : World) : Prop := n = L.length ∧ (0 < L.length → ∃ b off, a = some ⟨b, off, none⟩ ∧ RowG 5 OprE ⟨b, off, none⟩ L w)
theorem oprAt_of {a : Option Addr} {n c : Nat} {F : List OpD} {w : World} (h : OprSl (.slice a n c) F w) : OprAt a n F w := by
  rcases h with ⟨a2, c2, e, rfl⟩ | ⟨b, off, c2, e, h, hp⟩
  · injection e with e1 e2 e3
    exact ⟨e2, fun h => absurd h (by simp)⟩
  · injection e with e1 e2 e3
    exact ⟨e2, fun _ => ⟨b, off, e1, h⟩⟩
def FrgAt (a : Option Addr) (n : Nat) (L : List FrgD) (w : World) : Prop := n = L.length ∧ (0 < L.length → ∃ b off, a = some ⟨b, off, none⟩ ∧ RowG 4 FrgE ⟨b, off, none⟩ L w)
theorem frgAt_of {a : Option Addr} {n c : Nat} {F : List FrgD} {w : World} (h : FrgSl (.slice a n c) F w) : FrgAt a n F w := by
  rcases h with ⟨a2, c2, e, rfl⟩ | ⟨b, off, c2, e, h, hp⟩
  · injection e with e1 e2 e3
    exact ⟨e2, fun h => absurd h (by simp)⟩
  · injection e with e1 e2 e3
    exact ⟨e2, fun _ => ⟨b, off, e1, h⟩⟩
def OprRm (x : OpD) : Prop := OprSm x ∧ (∀ s ∈ x.sels, SelRm s) ∧ (-9223372036854775808 ≤ x.many ∧ x.many ≤ 9223372036854775807)
def FrgRm (x : FrgD) : Prop := FrgSm x ∧ (∀ s ∈ x.sels, SelRm s) ∧ (-9223372036854775808 ≤ x.many ∧ x.many ≤ 9223372036854775807)
set_option maxRecDepth 100000 in
set_option maxHeartbeats 16000000 in
theorem dcheck_go (L : List OpD) (M : List FrgD) (oa fa : Option Addr) (on_ oc fn_ fc : Nat) (w : World) (ho : OprAt oa on_ L w) (hf : FrgAt fa fn_ M w) (hl : L.length ≤ 100000) (hm : M.length ≤ 100000)
    (hso : ∀ x ∈ L, OprRm x) (hsf : ∀ x ∈ M, FrgRm x) (hE : EnvU w) (hT : EnvT w) :
    Calls Tryz.prog 23 #[.agg #[.slice oa on_ oc, .slice fa fn_ fc]] w fun e w' => e = .returned (.int .i64 (cond (decide (0 < L.length + M.length) && L.all oprB && M.all frgB) 0 8)) ∧ Below w.heap.size w w' := by
  obtain ⟨Z, hZ⟩ : ∃ Z, (decide (0 < L.length + M.length) && L.all oprB) = Z := ⟨_, rfl⟩
  obtain ⟨Z2, hZ2⟩ : ∃ Z2, (Z && M.all frgB) = Z2 := ⟨_, rfl⟩
  rw [hZ, hZ2]
  have h0 : decide (0 < L.length + M.length) = decide ((0 : Int) < (on_ : Int) + (fn_ : Int)) := by rw [ho.1, hf.1, Bool.eq_iff_iff]; simp; omega
  rw [h0] at hZ
  have HZ0 : Hid ((decide ((0 : Int) < (on_ : Int) + (fn_ : Int)) && (L.drop 0).all oprB) = Z) := Lib.hid hZ
  have HZ2 : Hid ((Z && (M.drop 0).all frgB) = Z2) := Lib.hid hZ2
  have HO := Lib.hid ho
  have HFR := Lib.hid hf
  have HSO := Lib.hid hso
  have HSF := Lib.hid hsf
  have HNO : Hid (on_ = L.length) := Lib.hid ho.1
  have HNF : Hid (fn_ = M.length) := Lib.hid hf.1
  have HE0 := Lib.hid hE
  have HT0 := Lib.hid hT
  have hon : on_ ≤ 100000 := by rw [ho.1]; exact hl
  have hfn : fn_ ≤ 100000 := by rw [hf.1]; exact hm
  have sum1 : IntKind.i64.wrap ((on_ : Int) + (fn_ : Int)) = (on_ : Int) + (fn_ : Int) := IntWalk.i64_in _ (by omega)
  obtain ⟨m0, hm0⟩ : ∃ t : Bool, decide ((0 : Int) < (on_ : Int) + (fn_ : Int)) = t := ⟨_, rfl⟩
  rw [hm0] at HZ0
  clear ho hf hl hm hso hsf hE hT hZ hZ2 h0
  go_enter Tryz.func23, Tryz.ntmps23
  go_upto_region 1 with fail
  obtain ⟨db, hdb⟩ : ∃ db, w.heap.size = db := ⟨_, rfl⟩
  obtain ⟨w1, hw1⟩ : ∃ w1, w.alloc (.cells #[.slice oa on_ oc, .slice fa fn_ fc] 44 (0, 0)) = w1 := ⟨_, rfl⟩
  have HBD : Hid (Below w.heap.size w w1) := Lib.hid (by rw [← hw1]; exact (Below.refl _ _).alloc (Nat.le_refl _) _)
  have kd : w1.heap[w.heap.size]? = some (.cells #[.slice oa on_ oc, .slice fa fn_ fc] 44 (0, 0)) := by rw [← hw1]; exact heap_new _ _ _ rfl
  rw [hdb] at kd
  have MD : Hid (∀ W, Below w1.heap.size w1 W → W.cell? ⟨db, 0, none⟩ = some (.slice oa on_ oc) ∧ W.cell? ⟨db, 1, none⟩ = some (.slice fa fn_ fc)) := Lib.hid fun W hW => ⟨(Lib.cell_of_heap ((hW.block _ (heap_lt kd)).trans kd) 0).trans rfl, (Lib.cell_of_heap ((hW.block _ (heap_lt kd)).trans kd) 1).trans rfl⟩
  obtain ⟨g0, g1⟩ := MD.out w1 (Below.refl _ _)
  try rw [hw1]
  try rw [hdb]
  clear hw1 kd hdb
  go_wp2_with fail
  go_loopw [3, 20] (fun mv iv wr => ∃ (i : Nat) (mv' : Bool), i ≤ on_ ∧ mv = .bool mv' ∧ iv = .int .i64 (i : Int) ∧ Hid ((mv' && (L.drop i).all oprB) = Z) ∧ Hid (Below w1.heap.size w1 wr)) (fun mv iv wr => on_ - (intOf iv).toNat)
  case atStart => exact ⟨0, m0, Nat.zero_le _, rfl, rfl, HZ0, Lib.hid (Below.refl _ _)⟩
  case round =>
    clear HZ0 g0 g1 hm0
    rename World => wr
    obtain ⟨i, mv, hi, rfl, rfl, HQ, HB⟩ := hrel
    have hz := HB.out.size
    have HBR := Lib.hid (HBD.out.trans (HB.out.mono HBD.out.size))
    by_cases hin : i < on_
    · as_aux_lemma =>
        have hil : i < L.length := by have := HNO.out; omega
        obtain ⟨b, off, rfl, hrow⟩ := HO.out.2 (by omega)
        obtain ⟨y0, y1, y2, y3, y4, y5, q0, q1, q2, q3, q4, yy, yz⟩ := Opr_at (RowG.below hrow fun _ _ h => OprE.below h HBR.out) i hil
        obtain ⟨⟨s1, s2, s3⟩, s4, s5⟩ := HSO.out L[i] (List.getElem_mem hil)
        have hq := HQ.out
        rw [List.drop_eq_getElem_cons hil, List.all_cons] at hq
        unfold oprB at hq
        obtain ⟨tN, htN⟩ : ∃ t, nameB L[i].name = t := ⟨_, rfl⟩
        obtain ⟨tS, htS⟩ : ∃ t, selsB L[i].sels L[i].many = t := ⟨_, rfl⟩
        obtain ⟨tV, htV⟩ : ∃ t, (L[i].vars.any fun v => !inDB v) = t := ⟨_, rfl⟩
        have e1 : (⟨L[i].name.toArray⟩ : ByteArray).toList = L[i].name := by rw [ByteArray.toList_eq]
        have HN : Hid (∀ W, Below wr.heap.size wr W → Calls Tryz.prog 31 #[.string ⟨L[i].name.toArray⟩] W fun e w' => e = .returned (.bool tN) ∧ Below W.heap.size W w') := Lib.hid fun W _ => by rw [← htN]; exact calls_below (lname_big _ (by rw [← bsz]; exact Nat.le_trans s1 (by omega)) W)
        have HS : Hid (∀ W, Below wr.heap.size wr W → Calls Tryz.prog 51 #[.slice y3 y4 y5, .int .i64 L[i].many] W fun e w' => e = .returned (.bool tS) ∧ Below W.heap.size W w') := Lib.hid fun W hW => by rw [← htS]; exact docsels_any L[i].sels _ _ W (SelSl.below yz hW) s3.1 s4 s5 (HE0.out.below (HBR.out.trans (hW.mono HBR.out.size))) (HT0.out.stays (HBR.out.trans (hW.mono HBR.out.size)))
        have HV : Hid (∀ W, Below wr.heap.size wr W → Calls Tryz.prog 52 #[.slice y0 y1 y2, .func (.func 53) #[] #[]] W fun e w' => e = .returned (.bool tV) ∧ Below W.heap.size W w') := Lib.hid fun W hW => by
          rw [← htV]
          have hE2 : EnvU W := HE0.out.below (HBR.out.trans (hW.mono HBR.out.size))
          have hT2 : EnvT W := HT0.out.stays (HBR.out.trans (hW.mono HBR.out.size))
          exact inp_contains _ #[] dc1_ent (fun v => !inDB v) L[i].vars _ W (InpSl.below yy hW) s2.1 (Lib.hid fun W' k hk ev hv hb => dc1_any _ ev W' hv (s2.2 _ (List.getElem_mem hk)) (hE2.below hb) (hT2.stays hb))
        rw [htN, htS, htV, ← e1, ← show ((L[i].kind.toNat : Int) == 1) = decide (L[i].kind.toNat = 1) from by rw [Bool.eq_iff_iff, beq_iff_eq, decide_eq_true_iff]; omega, ← show ((L[i].kind.toNat : Int) == 2) = decide (L[i].kind.toNat = 2) from by rw [Bool.eq_iff_iff, beq_iff_eq, decide_eq_true_iff]; omega] at hq
        clear htN htS htV e1 yy yz s1 s2 s3 s4 s5 hrow HQ
        generalize (⟨L[i].name.toArray⟩ : ByteArray) = x1 at *
        generalize (L[i].kind.toNat : Int) = kk at *
        generalize L[i].many = mm at *
        obtain ⟨k1, hk1⟩ : ∃ t : Bool, (kk == 1) = t := ⟨_, rfl⟩
        obtain ⟨k2, hk2⟩ : ∃ t : Bool, (kk == 2) = t := ⟨_, rfl⟩
        obtain ⟨zN, hzN⟩ : ∃ t : Bool, (x1.toList == []) = t := ⟨_, rfl⟩
        have hzNe : x1.toList.isEmpty = zN := by rw [← hzN]; cases x1.toList <;> rfl
        have hzNp : zN = true → x1.toList = [] := fun h => by rw [h] at hzN; simpa using hzN
        have hzNn : zN = false → ¬ x1.toList = [] := fun h => by rw [h] at hzN; simpa using hzN
        rw [hk1, hk2, hzNe] at hq
        have HQ2 := Lib.hid hq
        clear hq
        have i1 : (i : Int).toNat = i := by omega
        have i2 : (0 : Int) ≤ (i : Int) := by omega
        have i3 : (i : Int) < (on_ : Int) := by omega
        have pb := lt_of_cell q0
        go_upto_region 5 with fail
        obtain ⟨xb, hxb⟩ : ∃ xb, wr.heap.size = xb := ⟨_, rfl⟩
        obtain ⟨w2, hw2⟩ : ∃ w2, wr.alloc (.cells #[.int .u8 kk, .string x1, .slice y0 y1 y2, .int .i64 mm, .slice y3 y4 y5] 74 (0, 0)) = w2 := ⟨_, rfl⟩
        have HBA : Hid (Below wr.heap.size wr w2) := Lib.hid (by rw [← hw2]; exact (Below.refl _ _).alloc (Nat.le_refl _) _)
        have kb : w2.heap[wr.heap.size]? = some (.cells #[.int .u8 kk, .string x1, .slice y0 y1 y2, .int .i64 mm, .slice y3 y4 y5] 74 (0, 0)) := by rw [← hw2]; exact heap_new _ _ _ rfl
        rw [hxb] at kb
        have MK : Hid (∀ W, Below w2.heap.size w2 W → W.cell? ⟨xb, 0, none⟩ = some (.int .u8 kk) ∧ W.cell? ⟨xb, 1, none⟩ = some (.string x1) ∧ W.cell? ⟨xb, 2, none⟩ = some (.slice y0 y1 y2) ∧ W.cell? ⟨xb, 3, none⟩ = some (.int .i64 mm) ∧ W.cell? ⟨xb, 4, none⟩ = some (.slice y3 y4 y5)) := Lib.hid fun W hW => ⟨(Lib.cell_of_heap ((hW.block _ (heap_lt kb)).trans kb) 0).trans rfl, (Lib.cell_of_heap ((hW.block _ (heap_lt kb)).trans kb) 1).trans rfl, (Lib.cell_of_heap ((hW.block _ (heap_lt kb)).trans kb) 2).trans rfl, (Lib.cell_of_heap ((hW.block _ (heap_lt kb)).trans kb) 3).trans rfl, (Lib.cell_of_heap ((hW.block _ (heap_lt kb)).trans kb) 4).trans rfl⟩
        obtain ⟨d0, d1, d2, d3, d4⟩ := MK.out w2 (Below.refl _ _)
        try rw [hw2]
        try rw [hxb]
        have HBV : Hid (Below w2.heap.size w2 w2) := Lib.hid (Below.refl _ _)
        clear hw2 kb q0 q1 q2 q3 q4 pb
        cases k1 with
        | false =>
          cases k2 with
          | false =>
            cases mv with
            | false =>
              have HF : Hid ((false && (L.drop (i + 1)).all oprB) = Z) := Lib.hid (by rw [← HQ2.out]; rfl)
              have HBN : Hid (Below w1.heap.size w1 _) := Lib.hid (HB.out.trans ((HBA.out.trans (HBV.out.mono HBA.out.size)).mono hz))
              go_wp2_with fail
              go_roundw
              case rel => exact ⟨i + 1, false, by omega, by first | rfl | simp, by go_num, HF, HBN⟩
              case measure => simp [intOf]; omega
            | true =>
              have HF : Hid ((false && (L.drop (i + 1)).all oprB) = Z) := Lib.hid (by rw [← HQ2.out]; rfl)
              have HBN : Hid (Below w1.heap.size w1 _) := Lib.hid (HB.out.trans ((HBA.out.trans (HBV.out.mono HBA.out.size)).mono hz))
              go_wp2_with fail
              go_roundw
              case rel => exact ⟨i + 1, false, by omega, by first | rfl | simp, by go_num, HF, HBN⟩
              case measure => simp [intOf]; omega
          | true =>
            cases mv with
            | false =>
              have HF : Hid ((false && (L.drop (i + 1)).all oprB) = Z) := Lib.hid (by rw [← HQ2.out]; rfl)
              have HBN : Hid (Below w1.heap.size w1 _) := Lib.hid (HB.out.trans ((HBA.out.trans (HBV.out.mono HBA.out.size)).mono hz))
              go_wp2_with fail
              go_roundw
              case rel => exact ⟨i + 1, false, by omega, by first | rfl | simp, by go_num, HF, HBN⟩
              case measure => simp [intOf]; omega
            | true =>
              cases zN with
              | false =>
                have qzN := hzNn rfl
                cases tN with
                | false =>
                  go_wp2_with fail
                  refine (HN.out _ (HBA.out.trans (HBV.out.mono HBA.out.size))).mono ?_; rintro e w5 ⟨rfl, hb⟩
                  have HBV2 : Hid (Below w2.heap.size w2 w5) := Lib.hid (HBV.out.trans (hb.mono HBV.out.size))
                  obtain ⟨d0, d1, d2, d3, d4⟩ := MK.out w5 HBV2.out
                  clear HBV hb
                  have HBV := HBV2
                  clear HBV2
                  have HF : Hid ((false && (L.drop (i + 1)).all oprB) = Z) := Lib.hid (by rw [← HQ2.out]; rfl)
                  have HBN : Hid (Below w1.heap.size w1 _) := Lib.hid (HB.out.trans ((HBA.out.trans (HBV.out.mono HBA.out.size)).mono hz))
                  go_wp2_with fail
                  go_roundw
                  case rel => exact ⟨i + 1, false, by omega, by first | rfl | simp, by go_num, HF, HBN⟩
                  case measure => simp [intOf]; omega
                | true =>
                  go_wp2_with fail
                  refine (HN.out _ (HBA.out.trans (HBV.out.mono HBA.out.size))).mono ?_; rintro e w5 ⟨rfl, hb⟩
                  have HBV2 : Hid (Below w2.heap.size w2 w5) := Lib.hid (HBV.out.trans (hb.mono HBV.out.size))
                  obtain ⟨d0, d1, d2, d3, d4⟩ := MK.out w5 HBV2.out
                  clear HBV hb
                  have HBV := HBV2
                  clear HBV2
                  cases tS with
                  | false =>
                    go_wp2_with fail
                    refine (HS.out _ (HBA.out.trans (HBV.out.mono HBA.out.size))).mono ?_; rintro e w5 ⟨rfl, hb⟩
                    have HBV2 : Hid (Below w2.heap.size w2 w5) := Lib.hid (HBV.out.trans (hb.mono HBV.out.size))
                    obtain ⟨d0, d1, d2, d3, d4⟩ := MK.out w5 HBV2.out
                    clear HBV hb
                    have HBV := HBV2
                    clear HBV2
                    have HF : Hid ((false && (L.drop (i + 1)).all oprB) = Z) := Lib.hid (by rw [← HQ2.out]; rfl)
                    have HBN : Hid (Below w1.heap.size w1 _) := Lib.hid (HB.out.trans ((HBA.out.trans (HBV.out.mono HBA.out.size)).mono hz))
                    go_wp2_with fail
                    go_roundw
                    case rel => exact ⟨i + 1, false, by omega, by first | rfl | simp, by go_num, HF, HBN⟩
                    case measure => simp [intOf]; omega
                  | true =>
                    go_wp2_with fail
                    refine (HS.out _ (HBA.out.trans (HBV.out.mono HBA.out.size))).mono ?_; rintro e w5 ⟨rfl, hb⟩
                    have HBV2 : Hid (Below w2.heap.size w2 w5) := Lib.hid (HBV.out.trans (hb.mono HBV.out.size))
                    obtain ⟨d0, d1, d2, d3, d4⟩ := MK.out w5 HBV2.out
                    clear HBV hb
                    have HBV := HBV2
                    clear HBV2
                    cases tV with
                    | false =>
                      go_wp2_with fail
                      refine (HV.out _ (HBA.out.trans (HBV.out.mono HBA.out.size))).mono ?_; rintro e w5 ⟨rfl, hb⟩
                      have HBV2 : Hid (Below w2.heap.size w2 w5) := Lib.hid (HBV.out.trans (hb.mono HBV.out.size))
                      obtain ⟨d0, d1, d2, d3, d4⟩ := MK.out w5 HBV2.out
                      clear HBV hb
                      have HBV := HBV2
                      clear HBV2
                      have HF : Hid ((true && (L.drop (i + 1)).all oprB) = Z) := Lib.hid (by rw [← HQ2.out]; rfl)
                      have HBN : Hid (Below w1.heap.size w1 _) := Lib.hid (HB.out.trans ((HBA.out.trans (HBV.out.mono HBA.out.size)).mono hz))
                      go_wp2_with fail
                      go_roundw
                      case rel => exact ⟨i + 1, true, by omega, by first | rfl | simp, by go_num, HF, HBN⟩
                      case measure => simp [intOf]; omega
                    | true =>
                      go_wp2_with fail
                      refine (HV.out _ (HBA.out.trans (HBV.out.mono HBA.out.size))).mono ?_; rintro e w5 ⟨rfl, hb⟩
                      have HBV2 : Hid (Below w2.heap.size w2 w5) := Lib.hid (HBV.out.trans (hb.mono HBV.out.size))
                      obtain ⟨d0, d1, d2, d3, d4⟩ := MK.out w5 HBV2.out
                      clear HBV hb
                      have HBV := HBV2
                      clear HBV2
                      have HF : Hid ((false && (L.drop (i + 1)).all oprB) = Z) := Lib.hid (by rw [← HQ2.out]; rfl)
                      have HBN : Hid (Below w1.heap.size w1 _) := Lib.hid (HB.out.trans ((HBA.out.trans (HBV.out.mono HBA.out.size)).mono hz))
                      go_wp2_with fail
                      go_roundw
                      case rel => exact ⟨i + 1, false, by omega, by first | rfl | simp, by go_num, HF, HBN⟩
                      case measure => simp [intOf]; omega
              | true =>
                have qzN := hzNp rfl
                cases tS with
                | false =>
                  go_wp2_with fail
                  refine (HS.out _ (HBA.out.trans (HBV.out.mono HBA.out.size))).mono ?_; rintro e w5 ⟨rfl, hb⟩
                  have HBV2 : Hid (Below w2.heap.size w2 w5) := Lib.hid (HBV.out.trans (hb.mono HBV.out.size))
                  obtain ⟨d0, d1, d2, d3, d4⟩ := MK.out w5 HBV2.out
                  clear HBV hb
                  have HBV := HBV2
                  clear HBV2
                  have HF : Hid ((false && (L.drop (i + 1)).all oprB) = Z) := Lib.hid (by rw [← HQ2.out]; rfl)
                  have HBN : Hid (Below w1.heap.size w1 _) := Lib.hid (HB.out.trans ((HBA.out.trans (HBV.out.mono HBA.out.size)).mono hz))
                  go_wp2_with fail
                  go_roundw
                  case rel => exact ⟨i + 1, false, by omega, by first | rfl | simp, by go_num, HF, HBN⟩
                  case measure => simp [intOf]; omega
                | true =>
                  go_wp2_with fail
                  refine (HS.out _ (HBA.out.trans (HBV.out.mono HBA.out.size))).mono ?_; rintro e w5 ⟨rfl, hb⟩
                  have HBV2 : Hid (Below w2.heap.size w2 w5) := Lib.hid (HBV.out.trans (hb.mono HBV.out.size))
                  obtain ⟨d0, d1, d2, d3, d4⟩ := MK.out w5 HBV2.out
                  clear HBV hb
                  have HBV := HBV2
                  clear HBV2
                  cases tV with
                  | false =>
                    go_wp2_with fail
                    refine (HV.out _ (HBA.out.trans (HBV.out.mono HBA.out.size))).mono ?_; rintro e w5 ⟨rfl, hb⟩
                    have HBV2 : Hid (Below w2.heap.size w2 w5) := Lib.hid (HBV.out.trans (hb.mono HBV.out.size))
                    obtain ⟨d0, d1, d2, d3, d4⟩ := MK.out w5 HBV2.out
                    clear HBV hb
                    have HBV := HBV2
                    clear HBV2
                    have HF : Hid ((true && (L.drop (i + 1)).all oprB) = Z) := Lib.hid (by rw [← HQ2.out]; rfl)
                    have HBN : Hid (Below w1.heap.size w1 _) := Lib.hid (HB.out.trans ((HBA.out.trans (HBV.out.mono HBA.out.size)).mono hz))
                    go_wp2_with fail
                    go_roundw
                    case rel => exact ⟨i + 1, true, by omega, by first | rfl | simp, by go_num, HF, HBN⟩
                    case measure => simp [intOf]; omega
                  | true =>
                    go_wp2_with fail
                    refine (HV.out _ (HBA.out.trans (HBV.out.mono HBA.out.size))).mono ?_; rintro e w5 ⟨rfl, hb⟩
                    have HBV2 : Hid (Below w2.heap.size w2 w5) := Lib.hid (HBV.out.trans (hb.mono HBV.out.size))
                    obtain ⟨d0, d1, d2, d3, d4⟩ := MK.out w5 HBV2.out
                    clear HBV hb
                    have HBV := HBV2
                    clear HBV2
                    have HF : Hid ((false && (L.drop (i + 1)).all oprB) = Z) := Lib.hid (by rw [← HQ2.out]; rfl)
                    have HBN : Hid (Below w1.heap.size w1 _) := Lib.hid (HB.out.trans ((HBA.out.trans (HBV.out.mono HBA.out.size)).mono hz))
                    go_wp2_with fail
                    go_roundw
                    case rel => exact ⟨i + 1, false, by omega, by first | rfl | simp, by go_num, HF, HBN⟩
                    case measure => simp [intOf]; omega
        | true =>
          cases mv with
          | false =>
            have HF : Hid ((false && (L.drop (i + 1)).all oprB) = Z) := Lib.hid (by rw [← HQ2.out]; rfl)
            have HBN : Hid (Below w1.heap.size w1 _) := Lib.hid (HB.out.trans ((HBA.out.trans (HBV.out.mono HBA.out.size)).mono hz))
            go_wp2_with fail
            go_roundw
            case rel => exact ⟨i + 1, false, by omega, by first | rfl | simp, by go_num, HF, HBN⟩
            case measure => simp [intOf]; omega
          | true =>
            cases zN with
            | false =>
              have qzN := hzNn rfl
              cases tN with
              | false =>
                go_wp2_with fail
                refine (HN.out _ (HBA.out.trans (HBV.out.mono HBA.out.size))).mono ?_; rintro e w5 ⟨rfl, hb⟩
                have HBV2 : Hid (Below w2.heap.size w2 w5) := Lib.hid (HBV.out.trans (hb.mono HBV.out.size))
                obtain ⟨d0, d1, d2, d3, d4⟩ := MK.out w5 HBV2.out
                clear HBV hb
                have HBV := HBV2
                clear HBV2
                have HF : Hid ((false && (L.drop (i + 1)).all oprB) = Z) := Lib.hid (by rw [← HQ2.out]; rfl)
                have HBN : Hid (Below w1.heap.size w1 _) := Lib.hid (HB.out.trans ((HBA.out.trans (HBV.out.mono HBA.out.size)).mono hz))
                go_wp2_with fail
                go_roundw
                case rel => exact ⟨i + 1, false, by omega, by first | rfl | simp, by go_num, HF, HBN⟩
                case measure => simp [intOf]; omega
              | true =>
                go_wp2_with fail
                refine (HN.out _ (HBA.out.trans (HBV.out.mono HBA.out.size))).mono ?_; rintro e w5 ⟨rfl, hb⟩
                have HBV2 : Hid (Below w2.heap.size w2 w5) := Lib.hid (HBV.out.trans (hb.mono HBV.out.size))
                obtain ⟨d0, d1, d2, d3, d4⟩ := MK.out w5 HBV2.out
                clear HBV hb
                have HBV := HBV2
                clear HBV2
                cases tS with
                | false =>
                  go_wp2_with fail
                  refine (HS.out _ (HBA.out.trans (HBV.out.mono HBA.out.size))).mono ?_; rintro e w5 ⟨rfl, hb⟩
                  have HBV2 : Hid (Below w2.heap.size w2 w5) := Lib.hid (HBV.out.trans (hb.mono HBV.out.size))
                  obtain ⟨d0, d1, d2, d3, d4⟩ := MK.out w5 HBV2.out
                  clear HBV hb
                  have HBV := HBV2
                  clear HBV2
                  have HF : Hid ((false && (L.drop (i + 1)).all oprB) = Z) := Lib.hid (by rw [← HQ2.out]; rfl)
                  have HBN : Hid (Below w1.heap.size w1 _) := Lib.hid (HB.out.trans ((HBA.out.trans (HBV.out.mono HBA.out.size)).mono hz))
                  go_wp2_with fail
                  go_roundw
                  case rel => exact ⟨i + 1, false, by omega, by first | rfl | simp, by go_num, HF, HBN⟩
                  case measure => simp [intOf]; omega
                | true =>
                  go_wp2_with fail
                  refine (HS.out _ (HBA.out.trans (HBV.out.mono HBA.out.size))).mono ?_; rintro e w5 ⟨rfl, hb⟩
                  have HBV2 : Hid (Below w2.heap.size w2 w5) := Lib.hid (HBV.out.trans (hb.mono HBV.out.size))
                  obtain ⟨d0, d1, d2, d3, d4⟩ := MK.out w5 HBV2.out
                  clear HBV hb
                  have HBV := HBV2
                  clear HBV2
                  cases tV with
                  | false =>
                    go_wp2_with fail
                    refine (HV.out _ (HBA.out.trans (HBV.out.mono HBA.out.size))).mono ?_; rintro e w5 ⟨rfl, hb⟩
                    have HBV2 : Hid (Below w2.heap.size w2 w5) := Lib.hid (HBV.out.trans (hb.mono HBV.out.size))
                    obtain ⟨d0, d1, d2, d3, d4⟩ := MK.out w5 HBV2.out
                    clear HBV hb
                    have HBV := HBV2
                    clear HBV2
                    have HF : Hid ((true && (L.drop (i + 1)).all oprB) = Z) := Lib.hid (by rw [← HQ2.out]; rfl)
                    have HBN : Hid (Below w1.heap.size w1 _) := Lib.hid (HB.out.trans ((HBA.out.trans (HBV.out.mono HBA.out.size)).mono hz))
                    go_wp2_with fail
                    go_roundw
                    case rel => exact ⟨i + 1, true, by omega, by first | rfl | simp, by go_num, HF, HBN⟩
                    case measure => simp [intOf]; omega
                  | true =>
                    go_wp2_with fail
                    refine (HV.out _ (HBA.out.trans (HBV.out.mono HBA.out.size))).mono ?_; rintro e w5 ⟨rfl, hb⟩
                    have HBV2 : Hid (Below w2.heap.size w2 w5) := Lib.hid (HBV.out.trans (hb.mono HBV.out.size))
                    obtain ⟨d0, d1, d2, d3, d4⟩ := MK.out w5 HBV2.out
                    clear HBV hb
                    have HBV := HBV2
                    clear HBV2
                    have HF : Hid ((false && (L.drop (i + 1)).all oprB) = Z) := Lib.hid (by rw [← HQ2.out]; rfl)
                    have HBN : Hid (Below w1.heap.size w1 _) := Lib.hid (HB.out.trans ((HBA.out.trans (HBV.out.mono HBA.out.size)).mono hz))
                    go_wp2_with fail
                    go_roundw
                    case rel => exact ⟨i + 1, false, by omega, by first | rfl | simp, by go_num, HF, HBN⟩
                    case measure => simp [intOf]; omega
            | true =>
              have qzN := hzNp rfl
              cases tS with
              | false =>
                go_wp2_with fail
                refine (HS.out _ (HBA.out.trans (HBV.out.mono HBA.out.size))).mono ?_; rintro e w5 ⟨rfl, hb⟩
                have HBV2 : Hid (Below w2.heap.size w2 w5) := Lib.hid (HBV.out.trans (hb.mono HBV.out.size))
                obtain ⟨d0, d1, d2, d3, d4⟩ := MK.out w5 HBV2.out
                clear HBV hb
                have HBV := HBV2
                clear HBV2
                have HF : Hid ((false && (L.drop (i + 1)).all oprB) = Z) := Lib.hid (by rw [← HQ2.out]; rfl)
                have HBN : Hid (Below w1.heap.size w1 _) := Lib.hid (HB.out.trans ((HBA.out.trans (HBV.out.mono HBA.out.size)).mono hz))
                go_wp2_with fail
                go_roundw
                case rel => exact ⟨i + 1, false, by omega, by first | rfl | simp, by go_num, HF, HBN⟩
                case measure => simp [intOf]; omega
              | true =>
                go_wp2_with fail
                refine (HS.out _ (HBA.out.trans (HBV.out.mono HBA.out.size))).mono ?_; rintro e w5 ⟨rfl, hb⟩
                have HBV2 : Hid (Below w2.heap.size w2 w5) := Lib.hid (HBV.out.trans (hb.mono HBV.out.size))
                obtain ⟨d0, d1, d2, d3, d4⟩ := MK.out w5 HBV2.out
                clear HBV hb
                have HBV := HBV2
                clear HBV2
                cases tV with
                | false =>
                  go_wp2_with fail
                  refine (HV.out _ (HBA.out.trans (HBV.out.mono HBA.out.size))).mono ?_; rintro e w5 ⟨rfl, hb⟩
                  have HBV2 : Hid (Below w2.heap.size w2 w5) := Lib.hid (HBV.out.trans (hb.mono HBV.out.size))
                  obtain ⟨d0, d1, d2, d3, d4⟩ := MK.out w5 HBV2.out
                  clear HBV hb
                  have HBV := HBV2
                  clear HBV2
                  have HF : Hid ((true && (L.drop (i + 1)).all oprB) = Z) := Lib.hid (by rw [← HQ2.out]; rfl)
                  have HBN : Hid (Below w1.heap.size w1 _) := Lib.hid (HB.out.trans ((HBA.out.trans (HBV.out.mono HBA.out.size)).mono hz))
                  go_wp2_with fail
                  go_roundw
                  case rel => exact ⟨i + 1, true, by omega, by first | rfl | simp, by go_num, HF, HBN⟩
                  case measure => simp [intOf]; omega
                | true =>
                  go_wp2_with fail
                  refine (HV.out _ (HBA.out.trans (HBV.out.mono HBA.out.size))).mono ?_; rintro e w5 ⟨rfl, hb⟩
                  have HBV2 : Hid (Below w2.heap.size w2 w5) := Lib.hid (HBV.out.trans (hb.mono HBV.out.size))
                  obtain ⟨d0, d1, d2, d3, d4⟩ := MK.out w5 HBV2.out
                  clear HBV hb
                  have HBV := HBV2
                  clear HBV2
                  have HF : Hid ((false && (L.drop (i + 1)).all oprB) = Z) := Lib.hid (by rw [← HQ2.out]; rfl)
                  have HBN : Hid (Below w1.heap.size w1 _) := Lib.hid (HB.out.trans ((HBA.out.trans (HBV.out.mono HBA.out.size)).mono hz))
                  go_wp2_with fail
                  go_roundw
                  case rel => exact ⟨i + 1, false, by omega, by first | rfl | simp, by go_num, HF, HBN⟩
                  case measure => simp [intOf]; omega
    · obtain ⟨g0, g1⟩ := MD.out wr HB.out
      have HZ3 : Hid ((mv && (M.drop 0).all frgB) = Z2) := Lib.hid (by
        have h := HQ.out
        rw [List.drop_of_length_le (by have := HNO.out; omega)] at h
        have h2 : mv = Z := by rw [← h]; simp
        rw [h2]; exact HZ2.out)
      clear HZ2 HQ
      have i3 : ¬ (i : Int) < (on_ : Int) := by omega
      go_wp2_with fail
      go_loopw [3, 63] (fun mv jv wr2 => ∃ (j : Nat) (mv' : Bool), j ≤ fn_ ∧ mv = .bool mv' ∧ jv = .int .i64 (j : Int) ∧ Hid ((mv' && (M.drop j).all frgB) = Z2) ∧ Hid (Below w1.heap.size w1 wr2)) (fun mv jv wr2 => fn_ - (intOf jv).toNat)
      case atStart => exact ⟨0, mv, Nat.zero_le _, rfl, rfl, HZ3, HB⟩
      case round =>
        clear HZ3 g0 g1 HB HBR hz
        rename_i wr' wr _
        obtain ⟨j, mv, hj, rfl, rfl, HQ, HB⟩ := hrel
        have hz := HB.out.size
        have HBR := Lib.hid (HBD.out.trans (HB.out.mono HBD.out.size))
        by_cases hjn : j < fn_
        · as_aux_lemma =>
            have hil : j < M.length := by have := HNF.out; omega
            obtain ⟨b, off, rfl, hrow⟩ := HFR.out.2 (by omega)
            obtain ⟨y0, y1, y2, q0, q1, q2, q3, yy⟩ := Frg_at (RowG.below hrow fun _ _ h => FrgE.below h HBR.out) j hil
            obtain ⟨⟨s1, s2, s3⟩, s4, s5⟩ := HSF.out M[j] (List.getElem_mem hil)
            have hq := HQ.out
            rw [List.drop_eq_getElem_cons hil, List.all_cons] at hq
            unfold frgB at hq
            obtain ⟨tN, htN⟩ : ∃ t, nameB M[j].name = t := ⟨_, rfl⟩
            obtain ⟨tO, htO⟩ : ∃ t, nameB M[j].on = t := ⟨_, rfl⟩
            obtain ⟨tS, htS⟩ : ∃ t, selsB M[j].sels M[j].many = t := ⟨_, rfl⟩
            have e1 : (⟨M[j].name.toArray⟩ : ByteArray).toList = M[j].name := by rw [ByteArray.toList_eq]
            have HN : Hid (∀ W, Below wr.heap.size wr W → Calls Tryz.prog 31 #[.string ⟨M[j].name.toArray⟩] W fun e w' => e = .returned (.bool tN) ∧ Below W.heap.size W w') := Lib.hid fun W _ => by rw [← htN]; exact calls_below (lname_big _ (by rw [← bsz]; exact s1) W)
            have HO : Hid (∀ W, Below wr.heap.size wr W → Calls Tryz.prog 31 #[.string ⟨M[j].on.toArray⟩] W fun e w' => e = .returned (.bool tO) ∧ Below W.heap.size W w') := Lib.hid fun W _ => by rw [← htO]; exact calls_below (lname_big _ (by rw [← bsz]; exact s2) W)
            have HS : Hid (∀ W, Below wr.heap.size wr W → Calls Tryz.prog 51 #[.slice y0 y1 y2, .int .i64 M[j].many] W fun e w' => e = .returned (.bool tS) ∧ Below W.heap.size W w') := Lib.hid fun W hW => by rw [← htS]; exact docsels_any M[j].sels _ _ W (SelSl.below yy hW) s3.1 s4 s5 (HE0.out.below (HBR.out.trans (hW.mono HBR.out.size))) (HT0.out.stays (HBR.out.trans (hW.mono HBR.out.size)))
            rw [htN, htO, htS, ← e1] at hq
            clear htN htO htS e1 yy s1 s2 s3 s4 s5 hrow HQ
            generalize (⟨M[j].name.toArray⟩ : ByteArray) = x1 at *
            generalize (⟨M[j].on.toArray⟩ : ByteArray) = x2 at *
            generalize M[j].many = mm at *
            obtain ⟨on, hon⟩ : ∃ t : Bool, (x1.toList == [111, 110]) = t := ⟨_, rfl⟩
            have hone : (x1.toList != [111, 110]) = !on := by rw [← hon]; rfl
            have honp : on = true → x1.toList = [111, 110] := fun h => by rw [h] at hon; exact beq_iff_eq.1 hon
            have honn : on = false → ¬ x1.toList = [111, 110] := fun h => by rw [h] at hon; exact beq_eq_false_iff_ne.1 hon
            rw [hon] at hq
            have HQ2 := Lib.hid hq
            clear hq
            have i1 : (j : Int).toNat = j := by omega
            have i2 : (0 : Int) ≤ (j : Int) := by omega
            have i3 : (j : Int) < (fn_ : Int) := by omega
            have pb := lt_of_cell q0
            go_upto_region 11 with fail
            obtain ⟨xb, hxb⟩ : ∃ xb, wr.heap.size = xb := ⟨_, rfl⟩
            obtain ⟨w2, hw2⟩ : ∃ w2, wr.alloc (.cells #[.string x1, .string x2, .int .i64 mm, .slice y0 y1 y2] 77 (0, 0)) = w2 := ⟨_, rfl⟩
            have HBA : Hid (Below wr.heap.size wr w2) := Lib.hid (by rw [← hw2]; exact (Below.refl _ _).alloc (Nat.le_refl _) _)
            have kb : w2.heap[wr.heap.size]? = some (.cells #[.string x1, .string x2, .int .i64 mm, .slice y0 y1 y2] 77 (0, 0)) := by rw [← hw2]; exact heap_new _ _ _ rfl
            rw [hxb] at kb
            have MK : Hid (∀ W, Below w2.heap.size w2 W → W.cell? ⟨xb, 0, none⟩ = some (.string x1) ∧ W.cell? ⟨xb, 1, none⟩ = some (.string x2) ∧ W.cell? ⟨xb, 2, none⟩ = some (.int .i64 mm) ∧ W.cell? ⟨xb, 3, none⟩ = some (.slice y0 y1 y2)) := Lib.hid fun W hW => ⟨(Lib.cell_of_heap ((hW.block _ (heap_lt kb)).trans kb) 0).trans rfl, (Lib.cell_of_heap ((hW.block _ (heap_lt kb)).trans kb) 1).trans rfl, (Lib.cell_of_heap ((hW.block _ (heap_lt kb)).trans kb) 2).trans rfl, (Lib.cell_of_heap ((hW.block _ (heap_lt kb)).trans kb) 3).trans rfl⟩
            obtain ⟨d0, d1, d2, d3⟩ := MK.out w2 (Below.refl _ _)
            try rw [hw2]
            try rw [hxb]
            have HBV : Hid (Below w2.heap.size w2 w2) := Lib.hid (Below.refl _ _)
            clear hw2 kb q0 q1 q2 q3 pb
            cases mv with
            | false =>
              have HF : Hid ((false && (M.drop (j + 1)).all frgB) = Z2) := Lib.hid (by rw [← HQ2.out]; rfl)
              have HBN : Hid (Below w1.heap.size w1 _) := Lib.hid (HB.out.trans ((HBA.out.trans (HBV.out.mono HBA.out.size)).mono hz))
              go_wp2_with fail
              go_roundw
              case rel => exact ⟨j + 1, false, by omega, by first | rfl | simp, by go_num, HF, HBN⟩
              case measure => simp [intOf]; omega
            | true =>
              cases tN with
              | false =>
                go_wp2_with fail
                refine (HN.out _ (HBA.out.trans (HBV.out.mono HBA.out.size))).mono ?_; rintro e w5 ⟨rfl, hb⟩
                have HBV2 : Hid (Below w2.heap.size w2 w5) := Lib.hid (HBV.out.trans (hb.mono HBV.out.size))
                obtain ⟨d0, d1, d2, d3⟩ := MK.out w5 HBV2.out
                clear HBV hb
                have HBV := HBV2
                clear HBV2
                have HF : Hid ((false && (M.drop (j + 1)).all frgB) = Z2) := Lib.hid (by rw [← HQ2.out]; rfl)
                have HBN : Hid (Below w1.heap.size w1 _) := Lib.hid (HB.out.trans ((HBA.out.trans (HBV.out.mono HBA.out.size)).mono hz))
                go_wp2_with fail
                go_roundw
                case rel => exact ⟨j + 1, false, by omega, by first | rfl | simp, by go_num, HF, HBN⟩
                case measure => simp [intOf]; omega
              | true =>
                go_wp2_with fail
                refine (HN.out _ (HBA.out.trans (HBV.out.mono HBA.out.size))).mono ?_; rintro e w5 ⟨rfl, hb⟩
                have HBV2 : Hid (Below w2.heap.size w2 w5) := Lib.hid (HBV.out.trans (hb.mono HBV.out.size))
                obtain ⟨d0, d1, d2, d3⟩ := MK.out w5 HBV2.out
                clear HBV hb
                have HBV := HBV2
                clear HBV2
                cases on with
                | false =>
                  have qon := honn rfl
                  cases tO with
                  | false =>
                    go_wp2_with fail
                    refine (HO.out _ (HBA.out.trans (HBV.out.mono HBA.out.size))).mono ?_; rintro e w5 ⟨rfl, hb⟩
                    have HBV2 : Hid (Below w2.heap.size w2 w5) := Lib.hid (HBV.out.trans (hb.mono HBV.out.size))
                    obtain ⟨d0, d1, d2, d3⟩ := MK.out w5 HBV2.out
                    clear HBV hb
                    have HBV := HBV2
                    clear HBV2
                    have HF : Hid ((false && (M.drop (j + 1)).all frgB) = Z2) := Lib.hid (by rw [← HQ2.out]; rfl)
                    have HBN : Hid (Below w1.heap.size w1 _) := Lib.hid (HB.out.trans ((HBA.out.trans (HBV.out.mono HBA.out.size)).mono hz))
                    go_wp2_with fail
                    go_roundw
                    case rel => exact ⟨j + 1, false, by omega, by first | rfl | simp, by go_num, HF, HBN⟩
                    case measure => simp [intOf]; omega
                  | true =>
                    go_wp2_with fail
                    refine (HO.out _ (HBA.out.trans (HBV.out.mono HBA.out.size))).mono ?_; rintro e w5 ⟨rfl, hb⟩
                    have HBV2 : Hid (Below w2.heap.size w2 w5) := Lib.hid (HBV.out.trans (hb.mono HBV.out.size))
                    obtain ⟨d0, d1, d2, d3⟩ := MK.out w5 HBV2.out
                    clear HBV hb
                    have HBV := HBV2
                    clear HBV2
                    cases tS with
                    | false =>
                      go_wp2_with fail
                      refine (HS.out _ (HBA.out.trans (HBV.out.mono HBA.out.size))).mono ?_; rintro e w5 ⟨rfl, hb⟩
                      have HBV2 : Hid (Below w2.heap.size w2 w5) := Lib.hid (HBV.out.trans (hb.mono HBV.out.size))
                      obtain ⟨d0, d1, d2, d3⟩ := MK.out w5 HBV2.out
                      clear HBV hb
                      have HBV := HBV2
                      clear HBV2
                      have HF : Hid ((false && (M.drop (j + 1)).all frgB) = Z2) := Lib.hid (by rw [← HQ2.out]; rfl)
                      have HBN : Hid (Below w1.heap.size w1 _) := Lib.hid (HB.out.trans ((HBA.out.trans (HBV.out.mono HBA.out.size)).mono hz))
                      go_wp2_with fail
                      go_roundw
                      case rel => exact ⟨j + 1, false, by omega, by first | rfl | simp, by go_num, HF, HBN⟩
                      case measure => simp [intOf]; omega
                    | true =>
                      go_wp2_with fail
                      refine (HS.out _ (HBA.out.trans (HBV.out.mono HBA.out.size))).mono ?_; rintro e w5 ⟨rfl, hb⟩
                      have HBV2 : Hid (Below w2.heap.size w2 w5) := Lib.hid (HBV.out.trans (hb.mono HBV.out.size))
                      obtain ⟨d0, d1, d2, d3⟩ := MK.out w5 HBV2.out
                      clear HBV hb
                      have HBV := HBV2
                      clear HBV2
                      have HF : Hid ((true && (M.drop (j + 1)).all frgB) = Z2) := Lib.hid (by rw [← HQ2.out]; rfl)
                      have HBN : Hid (Below w1.heap.size w1 _) := Lib.hid (HB.out.trans ((HBA.out.trans (HBV.out.mono HBA.out.size)).mono hz))
                      go_wp2_with fail
                      go_roundw
                      case rel => exact ⟨j + 1, true, by omega, by first | rfl | simp, by go_num, HF, HBN⟩
                      case measure => simp [intOf]; omega
                | true =>
                  have qon := honp rfl
                  have HF : Hid ((false && (M.drop (j + 1)).all frgB) = Z2) := Lib.hid (by rw [← HQ2.out]; rfl)
                  have HBN : Hid (Below w1.heap.size w1 _) := Lib.hid (HB.out.trans ((HBA.out.trans (HBV.out.mono HBA.out.size)).mono hz))
                  go_wp2_with fail
                  go_roundw
                  case rel => exact ⟨j + 1, false, by omega, by first | rfl | simp, by go_num, HF, HBN⟩
                  case measure => simp [intOf]; omega
        · have HF : Hid (mv = Z2) := Lib.hid (by
            have h := HQ.out
            rw [List.drop_of_length_le (by have := HNF.out; omega)] at h
            rw [← h]; simp)
          clear HQ
          have i3 : ¬ (j : Int) < (fn_ : Int) := by omega
          cases mv with
          | true =>
            go_wp2_with fail
            go_ret
            exact ⟨by rw [← HF.out]; rfl, HBR.out⟩
          | false =>
            go_wp2_with fail
            go_ret
            exact ⟨by rw [← HF.out]; rfl, HBR.out⟩
theorem dcheck_any (x : DocD) (v : Value) (w : World) (hv : DocV v x w) (hl : x.ops.length ≤ 100000) (hm : x.frags.length ≤ 100000) (hso : ∀ y ∈ x.ops, OprRm y) (hsf : ∀ y ∈ x.frags, FrgRm y) (hE : EnvU w) (hT : EnvT w) :
    Calls Tryz.prog 23 #[v] w fun e w' => e = .returned (.int .i64 (cond (docB x) 0 8)) ∧ Below w.heap.size w w' := by
  obtain ⟨_, _, _, _, _, _, rfl, h1, h2⟩ := hv
  exact dcheck_go x.ops x.frags _ _ _ _ _ _ w (oprAt_of h1) (frgAt_of h2) hl hm hso hsf hE hT
end Go.Proofs.YtfagaflgdlomiaaGreatDoor
namespace Go.Proofs.YtfagaflgdlomiaaGreatDoor
open Go.RowKit
theorem joinE_of {L : List Tok} {s : ByteArray} (h1 : okTs L = true) (h2 : joinT L = s.data.toList) : joinE L = .tuple #[.string s, .int .i64 0] := by
  unfold joinE
  rw [if_pos h1, h2]
theorem tokw_own {B : Nat} {L : List Tok} {v : Value} {w : World} {s : ByteArray} (hown : OwnT B v L w) (hE : EnvU w) (hl : L.length ≤ 3000) (hz : ∀ t ∈ L, t.text.length ≤ 20000) (h0 : 0 < L.length) (h1 : okTs L = true) (h2 : joinT L = s.data.toList) : TokW v [s] w := by
  have hj := joinE_of h1 h2
  obtain ⟨g, cap, hv, _, _⟩ := World.ownsRow.form hown h0
  subst hv
  exact tokw_go h0 fun W hb => (ljoin_any L _ hl hz W (hE.below hb) (hown.sl.below hb)).mono (by rintro e w' ⟨rfl, h⟩; exact ⟨by rw [hj], h⟩)
theorem tokw_own0 {B : Nat} {v : Value} {w : World} (hown : OwnT B v [] w) : TokW v [] w := by
  obtain ⟨a, n, c, rfl, hn⟩ := hown.form
  have hn : n = 0 := hn
  subst hn
  exact tokw_nil (s := ⟨#[]⟩) fun W hb => (ljoin_none a c W).mono (by rintro e w' ⟨rfl, h⟩; exact ⟨by rw [joinE_of (L := []) (s := ⟨#[]⟩) rfl rfl], h⟩)
theorem join_of (L : List ByteArray) (s : ByteArray) (hl : L.length ≤ 1000000) (h1 : joinW (L.map (·.data.toList)) = s.data.toList) (h2 : s.data.toList.length ≤ 1000000000) : JoinDoes L s := fun B v W ho =>
  (sjoin_any B v L W ho hl (by rw [h1]; exact h2)).mono (by rintro e w' ⟨rfl, h⟩; exact ⟨by rw [h1], h⟩)
theorem dirs0 (w : World) : Hid (∀ W, Below w.heap.size w W → Calls Tryz.prog 12 #[.slice none 0 0] W fun e w' => (∃ u, e = .returned (.tuple #[u, .int .i64 0]) ∧ TokW u [] w') ∧ Below W.heap.size W w') :=
  Lib.hid fun W _ => (dirtoks_none none 0 W).mono (by rintro e w' ⟨rfl, h⟩; exact ⟨⟨_, rfl, tokw_own0 (B := 0) (World.ownsRow_nil _ _ _ _)⟩, h⟩)
theorem slg_one {α : Type} {k b off c : Nat} {E : Addr → α → World → Prop} {x : α} {w : World} (h : E ⟨b, off, none⟩ x w) : SlG k E (.slice (some ⟨b, off, none⟩) 1 c) [x] w := by
  refine Or.inr ⟨b, off, c, rfl, fun i hi => ?_, by simp⟩
  have hi0 : i = 0 := by simpa using hi
  subst hi0
  simpa [addr_addB] using h
def dfnX : Dfn := ⟨1, [69], [], [[65]], [], []⟩
theorem defs_x : defsB [dfnX] = true := by decide +kernel
theorem sdl_ex (db nb : Nat) (w : World)
    (k0 : w.cell? ⟨db, 0, none⟩ = some (.int .u8 1)) (k1 : w.cell? ⟨db, 1, none⟩ = some (.string ⟨#[69]⟩)) (k2 : w.cell? ⟨db, 2, none⟩ = some (.slice none 0 0)) (k3 : w.cell? ⟨db, 3, none⟩ = some (.slice (some ⟨nb, 0, none⟩) 1 1))
    (k4 : w.cell? ⟨db, 4, none⟩ = some (.slice none 0 0)) (k5 : w.cell? ⟨db, 5, none⟩ = some (.slice none 0 0)) (hn : w.cell? ⟨nb, 0, none⟩ = some (.string ⟨#[65]⟩)) (hE : EnvU w) :
    Calls Tryz.prog 4 #[.slice (some ⟨db, 0, none⟩) 1 1] w fun e w' => e = .returned (.tuple #[.string ⟨#[101, 110, 117, 109, 32, 69, 32, 123, 32, 65, 32, 125]⟩, .int .i64 0]) ∧ Below w.heap.size w w' := by
  have hsl : DfnSl (.slice (some ⟨db, 0, none⟩) 1 1) [dfnX] w := slg_one ⟨k0, k1, ⟨_, _, _, k2, Or.inl ⟨_, _, rfl, rfl⟩⟩, ⟨_, _, _, k3, slg_one hn⟩, ⟨_, _, _, k4, Or.inl ⟨_, _, rfl, rfl⟩⟩, ⟨_, _, _, k5, Or.inl ⟨_, _, rfl, rfl⟩⟩⟩
  refine psdl_go db 0 nb 0 1 ⟨#[69]⟩ ⟨#[65]⟩ _ none 0 0 w k0 k1 k2 k3 k4 k5 hn (Lib.hid fun W hW => ?_) (dirs0 w) (Lib.hid (join_of _ _ (by decide) (by decide +kernel) (by decide)))
  refine (schk_any [dfnX] _ 1 1 W (DfnSl.below hsl hW) ⟨by decide, fun x hx => ?_⟩ (hE.below hW)).mono (by rintro e w' ⟨rfl, h⟩; exact ⟨by rw [defs_x]; rfl, h⟩)
  rw [List.mem_singleton] at hx
  subst hx
  exact ⟨by decide, ⟨by decide, fun x hx => by cases hx⟩, ⟨by decide, fun x hx => by have hx := List.mem_singleton.1 hx; subst hx; decide⟩, ⟨by decide, fun x hx => by cases hx⟩, ⟨by decide, fun x hx => by cases hx⟩⟩
theorem sdl_none (w : World) (hE : EnvU w) : Calls Tryz.prog 4 #[.slice none 0 0] w fun e w' => e = .returned (.tuple #[.string ⟨#[]⟩, .int .i64 8]) ∧ Below w.heap.size w w' :=
  psdl_bad none 0 0 w (Lib.hid fun W hW => (schk_any [] none 0 0 W (Or.inl ⟨_, _, rfl, rfl⟩) ⟨by decide, fun x hx => by cases hx⟩ (hE.below hW)).mono (by rintro e w' ⟨rfl, h⟩; exact ⟨rfl, h⟩))
theorem tt_x : ttE ([73, 110, 116] : List UInt8) [1, 2] = 0 ∧ 0 < (ttL ([73, 110, 116] : List UInt8) [1, 2]).length ∧ (ttL ([73, 110, 116] : List UInt8) [1, 2]).length ≤ 3000 ∧ (∀ t ∈ ttL ([73, 110, 116] : List UInt8) [1, 2], t.text.length ≤ 20000) ∧ okTs (ttL ([73, 110, 116] : List UInt8) [1, 2]) = true ∧ joinT (ttL ([73, 110, 116] : List UInt8) [1, 2]) = ([91, 32, 73, 110, 116, 32, 93, 32, 33] : List UInt8) := by decide +kernel
theorem type_ex (b : Nat) (w : World) (k0 : w.cell? ⟨b, 0, none⟩ = some (.int .u8 1)) (k1 : w.cell? ⟨b, 1, none⟩ = some (.int .u8 2)) (hE : EnvU w) :
    Calls Tryz.prog 5 #[.agg #[.string ⟨#[73, 110, 116]⟩, .slice (some ⟨b, 0, none⟩) 2 2]] w fun e w' => e = .returned (.tuple #[.string ⟨#[91, 32, 73, 110, 116, 32, 93, 32, 33]⟩, .int .i64 0]) ∧ Below w.heap.size w w' := by
  have hsl : BSl (.slice (some ⟨b, 0, none⟩) 2 2) [1, 2] w := Or.inr ⟨b, 0, 2, rfl, fun i hi => by
    match i, hi with
    | 0, _ => exact k0
    | 1, _ => exact k1, by decide⟩
  refine ptype_go ⟨#[73, 110, 116]⟩ ⟨#[91, 32, 73, 110, 116, 32, 93, 32, 33]⟩ _ 2 2 w (Lib.hid fun W hW => ?_) (Lib.hid (join_of _ _ (by decide) (by decide +kernel) (by decide)))
  refine (tt_any ⟨#[73, 110, 116]⟩ [1, 2] _ W (hsl.below hW) (by decide) (by decide)).mono ?_
  rintro e w' ⟨⟨v, rfl, ho⟩, hb⟩
  have ho : OwnT W.heap.size v (ttL ([73, 110, 116] : List UInt8) [1, 2]) w' := ho
  exact ⟨⟨v, by rw [show ttE (⟨#[73, 110, 116]⟩ : ByteArray).data.toList [1, 2] = 0 from tt_x.1], tokw_own ho ((hE.below hW).below hb) tt_x.2.2.1 tt_x.2.2.2.1 tt_x.2.1 tt_x.2.2.2.2.1 tt_x.2.2.2.2.2⟩, hb⟩
def celsX : List Cel := [⟨6, [], [], 0, 2⟩, ⟨3, [], [120], 0, 0⟩, ⟨5, [], [118], 0, 0⟩]
theorem cels_x : toksE celsX = 0 ∧ 0 < (toksL celsX).length ∧ (toksL celsX).length ≤ 3000 ∧ (∀ t ∈ toksL celsX, t.text.length ≤ 20000) ∧ okTs (toksL celsX) = true ∧ joinT (toksL celsX) = ([91, 32, 34, 120, 34, 32, 36, 32, 118, 32, 93] : List UInt8) := by decide +kernel
theorem celsx_sm : SmallV celsX := ⟨by decide, fun c hc => by
  simp only [celsX, List.mem_cons, List.not_mem_nil, or_false] at hc
  rcases hc with rfl | rfl | rfl <;> exact ⟨by decide, by decide, by unfold R; decide, by unfold R; decide⟩⟩
theorem value_ex (b : Nat) (w : World) (hsl : CelSl (.slice (some ⟨b, 0, none⟩) 3 3) celsX w) (hE : EnvU w) (hT : EnvT w) :
    Calls Tryz.prog 6 #[.slice (some ⟨b, 0, none⟩) 3 3] w fun e w' => e = .returned (.tuple #[.string ⟨#[91, 32, 34, 120, 34, 32, 36, 32, 118, 32, 93]⟩, .int .i64 0]) ∧ Below w.heap.size w w' := by
  refine pvalue_go _ ⟨#[91, 32, 34, 120, 34, 32, 36, 32, 118, 32, 93]⟩ w (Lib.hid fun W hW => ?_) (Lib.hid (join_of _ _ (by decide) (by decide +kernel) (by decide)))
  refine (tokens_any celsX _ W (hsl.below hW) celsx_sm (hE.below hW) (hT.stays hW)).mono ?_
  rintro e w' ⟨⟨v, rfl, ho⟩, hb⟩
  exact ⟨⟨v, by rw [cels_x.1], tokw_own ho ((hE.below hW).below hb) cels_x.2.2.1 cels_x.2.2.2.1 cels_x.2.1 cels_x.2.2.2.2.1 cels_x.2.2.2.2.2⟩, hb⟩
theorem doc_none (w : World) (hE : EnvU w) (hT : EnvT w) : Calls Tryz.prog 7 #[.agg #[.slice none 0 0, .slice none 0 0]] w fun e w' => e = .returned (.tuple #[.string ⟨#[]⟩, .int .i64 8]) ∧ Below w.heap.size w w' :=
  pdoc_bad none none 0 0 0 0 w (Lib.hid fun W hW => (dcheck_any ⟨[], []⟩ _ W ⟨_, _, _, _, _, _, rfl, Or.inl ⟨_, _, rfl, rfl⟩, Or.inl ⟨_, _, rfl, rfl⟩⟩ (by decide) (by decide) (fun x hx => by cases hx) (fun x hx => by cases hx) (hE.below hW) (hT.stays hW)).mono (by
    rintro e w' ⟨rfl, h⟩
    exact ⟨by rw [show docB ⟨[], []⟩ = false from by decide +kernel]; rfl, h⟩))
def argsX : List (List UInt8 × List Cel) := [([98], [⟨2, [], [], 1, 0⟩])]
theorem args_x : atoksE argsX = 0 ∧ 0 < (atoksL argsX).length ∧ (atoksL argsX).length ≤ 3000 ∧ (∀ t ∈ atoksL argsX, t.text.length ≤ 20000) ∧ okTs (atoksL argsX) = true ∧ joinT (atoksL argsX) = ([40, 32, 98, 32, 58, 32, 49, 32, 41] : List UInt8) := by decide +kernel
theorem argsx_sm : ArgsSm argsX := ⟨by decide, fun x hx => by
  rw [argsX, List.mem_singleton] at hx
  subst hx
  exact ⟨by decide, by decide, fun c hc => by rw [List.mem_singleton] at hc; subst hc; exact ⟨by decide, by decide, by unfold R; decide, by unfold R; decide⟩⟩⟩
def opX (k : UInt8) (A : List (List UInt8 × List Cel)) : OpD := ⟨k, [], [], 1, [⟨1, [], [97], A, [], 0⟩]⟩
theorem doc_q : docB ⟨[opX 1 argsX], []⟩ = true := by decide +kernel
theorem doc_m : docB ⟨[opX 2 []], []⟩ = true := by decide +kernel
theorem oprx_rm (k : UInt8) (A : List (List UInt8 × List Cel)) (hA : ArgsSm A) (hr : roomA A ≤ 80000) : ∀ y ∈ [opX k A], OprRm y := fun y hy => by
  rw [List.mem_singleton] at hy
  subst hy
  have hs : SelSm ⟨1, [], [97], A, [], 0⟩ := ⟨Nat.zero_le _, (by show (1 : Nat) ≤ _; decide), hA, Nat.zero_le _, fun x hx => by cases hx⟩
  refine ⟨⟨Nat.zero_le _, ⟨Nat.zero_le _, fun x hx => by cases hx⟩, (by show (1 : Nat) ≤ _; decide), fun x hx => ?_⟩, fun x hx => ?_, (by show (-9223372036854775808 : Int) ≤ 1; decide), (by show (1 : Int) ≤ 9223372036854775807; decide)⟩
  · have hx := List.mem_singleton.1 hx
    subst hx; exact hs
  · have hx := List.mem_singleton.1 hx
    subst hx; exact ⟨hs, hr, (by show roomD [] ≤ 80000; decide), (by show (-9223372036854775808 : Int) ≤ 0; decide), (by show (0 : Int) ≤ 9223372036854775807; decide)⟩
theorem docv_x (k : UInt8) (A : List (List UInt8 × List Cel)) (ob b : Nat) (aa : Option Addr) (an ac : Nat) (w : World) (hA : ArgSl (.slice aa an ac) A w)
    (k0 : w.cell? ⟨ob, 0, none⟩ = some (.int .u8 (k.toNat : Int))) (k1 : w.cell? ⟨ob, 1, none⟩ = some (.string ⟨#[]⟩)) (k2 : w.cell? ⟨ob, 2, none⟩ = some (.slice none 0 0)) (k3 : w.cell? ⟨ob, 3, none⟩ = some (.int .i64 1)) (k4 : w.cell? ⟨ob, 4, none⟩ = some (.slice (some ⟨b, 0, none⟩) 1 1))
    (c0 : w.cell? ⟨b, 0, none⟩ = some (.int .u8 1)) (c1 : w.cell? ⟨b, 1, none⟩ = some (.string ⟨#[]⟩)) (c2 : w.cell? ⟨b, 2, none⟩ = some (.string ⟨#[97]⟩)) (c3 : w.cell? ⟨b, 3, none⟩ = some (.slice aa an ac))
    (c4 : w.cell? ⟨b, 4, none⟩ = some (.slice none 0 0)) (c5 : w.cell? ⟨b, 5, none⟩ = some (.int .i64 0)) : DocV (.agg #[.slice (some ⟨ob, 0, none⟩) 1 1, .slice none 0 0]) ⟨[opX k A], []⟩ w :=
  ⟨_, _, _, _, _, _, rfl, slg_one ⟨k0, k1, ⟨_, _, _, k2, Or.inl ⟨_, _, rfl, rfl⟩⟩, k3, ⟨_, _, _, k4, slg_one ⟨c0, c1, c2, ⟨_, _, _, c3, hA⟩, ⟨_, _, _, c4, Or.inl ⟨_, _, rfl, rfl⟩⟩, c5⟩⟩⟩, Or.inl ⟨_, _, rfl, rfl⟩⟩
theorem doc_qx (ob b ab : Nat) (w : World) (hA : ArgSl (.slice (some ⟨ab, 0, none⟩) 1 1) argsX w) (hE : EnvU w) (hT : EnvT w)
    (k0 : w.cell? ⟨ob, 0, none⟩ = some (.int .u8 1)) (k1 : w.cell? ⟨ob, 1, none⟩ = some (.string ⟨#[]⟩)) (k2 : w.cell? ⟨ob, 2, none⟩ = some (.slice none 0 0)) (k3 : w.cell? ⟨ob, 3, none⟩ = some (.int .i64 1)) (k4 : w.cell? ⟨ob, 4, none⟩ = some (.slice (some ⟨b, 0, none⟩) 1 1))
    (c0 : w.cell? ⟨b, 0, none⟩ = some (.int .u8 1)) (c1 : w.cell? ⟨b, 1, none⟩ = some (.string ⟨#[]⟩)) (c2 : w.cell? ⟨b, 2, none⟩ = some (.string ⟨#[97]⟩)) (c3 : w.cell? ⟨b, 3, none⟩ = some (.slice (some ⟨ab, 0, none⟩) 1 1))
    (c4 : w.cell? ⟨b, 4, none⟩ = some (.slice none 0 0)) (c5 : w.cell? ⟨b, 5, none⟩ = some (.int .i64 0)) :
    Calls Tryz.prog 7 #[.agg #[.slice (some ⟨ob, 0, none⟩) 1 1, .slice none 0 0]] w fun e w' => e = .returned (.tuple #[.string ⟨#[123, 32, 97, 32, 40, 32, 98, 32, 58, 32, 49, 32, 41, 32, 125]⟩, .int .i64 0]) ∧ Below w.heap.size w w' := by
  have hA1 : ArgSl (.slice (some ⟨ab, 0, none⟩) 1 1) argsX w := hA
  have hv := docv_x 1 argsX ob b (some ⟨ab, 0, none⟩) 1 1 w hA1 k0 k1 k2 k3 k4 c0 c1 c2 c3 c4 c5
  refine pdoc_q ob 0 b 0 [⟨#[40, 32, 98, 32, 58, 32, 49, 32, 41]⟩] ⟨#[97]⟩ ⟨#[123, 32, 97, 32, 40, 32, 98, 32, 58, 32, 49, 32, 41, 32, 125]⟩ (some ⟨ab, 0, none⟩) none 1 1 0 0 w (by decide) k0 k1 k2 k3 k4 c0 c1 c2 c3 c4 c5 (Lib.hid fun W hW => ?_) (Lib.hid fun W hW => ?_) (dirs0 w) (Lib.hid (join_of _ _ (by decide) (by decide +kernel) (by decide)))
  · refine (dcheck_any _ _ W (hv.below hW) (by decide) (by decide) (oprx_rm 1 argsX argsx_sm (by decide)) (fun x hx => by cases hx) (hE.below hW) (hT.stays hW)).mono ?_
    rintro e w' ⟨rfl, h⟩
    exact ⟨by rw [doc_q]; rfl, h⟩
  · refine (argtoks_any argsX _ W (ArgSl.below hA1 hW) ⟨_, _, _, rfl⟩ argsx_sm (by decide) (hE.below hW) (hT.stays hW)).mono ?_
    rintro e w' ⟨⟨v, rfl, ho⟩, hb⟩
    exact ⟨⟨v, by rw [args_x.1], tokw_own ho ((hE.below hW).below hb) args_x.2.2.1 args_x.2.2.2.1 args_x.2.1 args_x.2.2.2.2.1 args_x.2.2.2.2.2⟩, hb⟩
theorem doc_mx (ob b : Nat) (w : World) (hE : EnvU w) (hT : EnvT w)
    (k0 : w.cell? ⟨ob, 0, none⟩ = some (.int .u8 2)) (k1 : w.cell? ⟨ob, 1, none⟩ = some (.string ⟨#[]⟩)) (k2 : w.cell? ⟨ob, 2, none⟩ = some (.slice none 0 0)) (k3 : w.cell? ⟨ob, 3, none⟩ = some (.int .i64 1)) (k4 : w.cell? ⟨ob, 4, none⟩ = some (.slice (some ⟨b, 0, none⟩) 1 1))
    (c0 : w.cell? ⟨b, 0, none⟩ = some (.int .u8 1)) (c1 : w.cell? ⟨b, 1, none⟩ = some (.string ⟨#[]⟩)) (c2 : w.cell? ⟨b, 2, none⟩ = some (.string ⟨#[97]⟩)) (c3 : w.cell? ⟨b, 3, none⟩ = some (.slice none 0 0))
    (c4 : w.cell? ⟨b, 4, none⟩ = some (.slice none 0 0)) (c5 : w.cell? ⟨b, 5, none⟩ = some (.int .i64 0)) :
    Calls Tryz.prog 7 #[.agg #[.slice (some ⟨ob, 0, none⟩) 1 1, .slice none 0 0]] w fun e w' => e = .returned (.tuple #[.string ⟨#[109, 117, 116, 97, 116, 105, 111, 110, 32, 123, 32, 97, 32, 125]⟩, .int .i64 0]) ∧ Below w.heap.size w w' := by
  have hA1 : ArgSl (.slice none 0 0) [] w := Or.inl ⟨_, _, rfl, rfl⟩
  have hv := docv_x 2 [] ob b none 0 0 w hA1 k0 k1 k2 k3 k4 c0 c1 c2 c3 c4 c5
  refine pdoc_m ob 0 b 0 [] ⟨#[97]⟩ ⟨#[109, 117, 116, 97, 116, 105, 111, 110, 32, 123, 32, 97, 32, 125]⟩ none none 0 0 0 0 w (by decide) k0 k1 k2 k3 k4 c0 c1 c2 c3 c4 c5 (Lib.hid fun W hW => ?_) (Lib.hid fun W hW => ?_) (dirs0 w) (Lib.hid (join_of _ _ (by decide) (by decide +kernel) (by decide)))
  · refine (dcheck_any _ _ W (hv.below hW) (by decide) (by decide) (oprx_rm 2 [] ⟨by decide, fun x hx => by cases hx⟩ (by decide)) (fun x hx => by cases hx) (hE.below hW) (hT.stays hW)).mono ?_
    rintro e w' ⟨rfl, h⟩
    exact ⟨by rw [doc_m]; rfl, h⟩
  · refine (argtoks_any [] _ W (ArgSl.below hA1 hW) ⟨_, _, _, rfl⟩ ⟨by decide, fun x hx => by cases hx⟩ (by decide) (hE.below hW) (hT.stays hW)).mono ?_
    rintro e w' ⟨⟨v, rfl, ho⟩, hb⟩
    have ho : OwnT W.heap.size v [] w' := ho
    exact ⟨⟨v, rfl, tokw_own0 ho⟩, hb⟩
end Go.Proofs.YtfagaflgdlomiaaGreatDoor
namespace Go.Proofs.YtfagaflgdlomiaaGreatDoor
open Go.RowKit
set_option maxRecDepth 100000 in
set_option maxHeartbeats 4000000 in
theorem field_x (s : ByteArray) (a : Option Addr) (n c : Nat) (w : World) :
    Calls Tryz.prog 27 #[.string s, .slice a n c] w fun e w' => e = .returned (.slice (some ⟨w.heap.size, 0, none⟩) 1 1) ∧ w' = w.alloc (.cells #[.int .u8 1, .string ⟨#[]⟩, .string s, .slice a n c, .slice none 0 0, .int .i64 0] 113) := by
  go_enter Tryz.func27, Tryz.ntmps27
  go_wp2_with fail
  go_ret
  exact ⟨rfl, rfl⟩
set_option maxRecDepth 100000 in
set_option maxHeartbeats 4000000 in
theorem is_x (k : Int) (b : Nat) (s : ByteArray) (w : World)
    (HQ : Hid (∀ W ob, Below w.heap.size w W → W.cell? ⟨ob, 0, none⟩ = some (.int .u8 k) → W.cell? ⟨ob, 1, none⟩ = some (.string ⟨#[]⟩) → W.cell? ⟨ob, 2, none⟩ = some (.slice none 0 0) → W.cell? ⟨ob, 3, none⟩ = some (.int .i64 1) → W.cell? ⟨ob, 4, none⟩ = some (.slice (some ⟨b, 0, none⟩) 1 1) →
      Calls Tryz.prog 7 #[.agg #[.slice (some ⟨ob, 0, none⟩) 1 1, .slice none 0 0]] W fun e w' => e = .returned (.tuple #[.string s, .int .i64 0]) ∧ Below W.heap.size W w')) :
    Calls Tryz.prog 26 #[.agg #[.int .u8 k, .string ⟨#[]⟩, .slice none 0 0, .int .i64 1, .slice (some ⟨b, 0, none⟩) 1 1], .string s] w fun e w' => e = .returned (.bool true) ∧ Below w.heap.size w w' := by
  have hs : (s.data.toList == s.data.toList) = true := beq_self_eq_true _
  have hs2 : (s.toList == s.toList) = true := beq_self_eq_true _
  go_enter Tryz.func26, Tryz.ntmps26
  go_wp2_with fail
  refine (HQ.out _ (w.heap.size + 1) (by go_grown) (by simp [go_sem]) (by simp [go_sem]) (by simp [go_sem]) (by simp [go_sem]) (by simp [go_sem])).mono ?_
  rintro e w1 ⟨rfl, hb⟩
  have HB := Lib.hid hb
  clear hb
  go_wp2_with fail
  go_ret
  exact ⟨rfl, Below.trans (by go_grown) (HB.out.mono (by simp <;> omega))⟩
set_option maxRecDepth 100000 in
set_option maxHeartbeats 4000000 in
theorem alive_x (w : World) (hE : EnvU w) (hT : EnvT w) :
    Calls Tryz.prog 8 #[] w fun e w' => e = .returned (.bool true) ∧ Below w.heap.size w w' := by
  have HE := Lib.hid hE
  have HT := Lib.hid hT
  clear hE hT
  go_enter Tryz.func8, Tryz.ntmps8
  go_wp2_with fail
  refine (field_x _ _ _ _ _).mono ?_
  rintro e w1 ⟨rfl, hw1⟩
  have B1 : Hid (Below w.heap.size w w1) := Lib.hid (by rw [hw1]; go_grown)
  have hA : Hid (ArgSl (.slice (some ⟨w.heap.size + 1 + 1, 0, none⟩) 1 1) argsX w1) := Lib.hid (Or.inr ⟨_, _, _, rfl, fun i hi => by
    have hi0 : i = 0 := by have : i < 1 := hi; omega
    subst hi0
    refine ⟨by rw [hw1]; simp [go_sem, argsX], _, _, _, by rw [hw1]; simp [go_sem, argsX], Or.inr ⟨w.heap.size, 0, 1, rfl, fun j hj => ?_, Nat.zero_lt_one⟩⟩
    have hj0 : j = 0 := by have : j < 1 := hj; omega
    subst hj0
    refine ⟨?_, ?_, ?_, ?_, ?_⟩ <;> (rw [hw1]; simp [go_sem, argsX]), by decide⟩)
  have C1 : Hid (w1.cell? ⟨w.heap.size + 1 + 1 + 1, 0, none⟩ = some (.int .u8 1) ∧ w1.cell? ⟨w.heap.size + 1 + 1 + 1, 1, none⟩ = some (.string ⟨#[]⟩) ∧ w1.cell? ⟨w.heap.size + 1 + 1 + 1, 2, none⟩ = some (.string ⟨#[97]⟩) ∧ w1.cell? ⟨w.heap.size + 1 + 1 + 1, 3, none⟩ = some (.slice (some ⟨w.heap.size + 1 + 1, 0, none⟩) 1 1) ∧ w1.cell? ⟨w.heap.size + 1 + 1 + 1, 4, none⟩ = some (.slice none 0 0) ∧ w1.cell? ⟨w.heap.size + 1 + 1 + 1, 5, none⟩ = some (.int .i64 0)) :=
    Lib.hid (by rw [hw1]; simp [go_sem])
  have E1 : Hid (EnvU w1 ∧ EnvT w1) := Lib.hid ⟨HE.out.below B1.out, HT.out.stays B1.out⟩
  clear hw1
  go_wp2_with fail
  have HQ : Hid (∀ W ob, Below w1.heap.size w1 W → W.cell? ⟨ob, 0, none⟩ = some (.int .u8 1) → W.cell? ⟨ob, 1, none⟩ = some (.string ⟨#[]⟩) → W.cell? ⟨ob, 2, none⟩ = some (.slice none 0 0) → W.cell? ⟨ob, 3, none⟩ = some (.int .i64 1) → W.cell? ⟨ob, 4, none⟩ = some (.slice (some ⟨w.heap.size + 1 + 1 + 1, 0, none⟩) 1 1) →
      Calls Tryz.prog 7 #[.agg #[.slice (some ⟨ob, 0, none⟩) 1 1, .slice none 0 0]] W fun e w' => e = .returned (.tuple #[.string ⟨#[123, 32, 97, 32, 40, 32, 98, 32, 58, 32, 49, 32, 41, 32, 125]⟩, .int .i64 0]) ∧ Below W.heap.size W w') := Lib.hid fun W ob hW k0 k1 k2 k3 k4 =>
    doc_qx ob _ (w.heap.size + 1 + 1) W (ArgSl.below hA.out hW) (E1.out.1.below hW) (E1.out.2.stays hW) k0 k1 k2 k3 k4 ((hW.cell (cell_lt C1.out.1)).trans C1.out.1) ((hW.cell (cell_lt C1.out.2.1)).trans C1.out.2.1) ((hW.cell (cell_lt C1.out.2.2.1)).trans C1.out.2.2.1) ((hW.cell (cell_lt C1.out.2.2.2.1)).trans C1.out.2.2.2.1) ((hW.cell (cell_lt C1.out.2.2.2.2.1)).trans C1.out.2.2.2.2.1) ((hW.cell (cell_lt C1.out.2.2.2.2.2)).trans C1.out.2.2.2.2.2)
  refine (is_x 1 _ ⟨#[123, 32, 97, 32, 40, 32, 98, 32, 58, 32, 49, 32, 41, 32, 125]⟩ w1 HQ).mono ?_
  rintro e w2 ⟨rfl, hb⟩
  have B2 : Hid (Below w.heap.size w w2) := Lib.hid (B1.out.trans (hb.mono B1.out.size))
  have E2 : Hid (EnvU w2 ∧ EnvT w2) := Lib.hid ⟨E1.out.1.below hb, E1.out.2.stays hb⟩
  clear hb HQ
  go_wp2_with fail
  refine (field_x _ _ _ _ _).mono ?_
  rintro e w3 ⟨rfl, hw3⟩
  have B23 : Hid (Below w2.heap.size w2 w3) := Lib.hid (by rw [hw3]; go_grown)
  have B3 : Hid (Below w.heap.size w w3) := Lib.hid (B2.out.trans (B23.out.mono B2.out.size))
  have C3 : Hid (w3.cell? ⟨w2.heap.size, 0, none⟩ = some (.int .u8 1) ∧ w3.cell? ⟨w2.heap.size, 1, none⟩ = some (.string ⟨#[]⟩) ∧ w3.cell? ⟨w2.heap.size, 2, none⟩ = some (.string ⟨#[97]⟩) ∧ w3.cell? ⟨w2.heap.size, 3, none⟩ = some (.slice none 0 0) ∧ w3.cell? ⟨w2.heap.size, 4, none⟩ = some (.slice none 0 0) ∧ w3.cell? ⟨w2.heap.size, 5, none⟩ = some (.int .i64 0)) :=
    Lib.hid (by rw [hw3]; simp [go_sem])
  have E3 : Hid (EnvU w3 ∧ EnvT w3) := Lib.hid ⟨E2.out.1.below B23.out, E2.out.2.stays B23.out⟩
  clear hw3
  go_wp2_with fail
  have HQ : Hid (∀ W ob, Below w3.heap.size w3 W → W.cell? ⟨ob, 0, none⟩ = some (.int .u8 2) → W.cell? ⟨ob, 1, none⟩ = some (.string ⟨#[]⟩) → W.cell? ⟨ob, 2, none⟩ = some (.slice none 0 0) → W.cell? ⟨ob, 3, none⟩ = some (.int .i64 1) → W.cell? ⟨ob, 4, none⟩ = some (.slice (some ⟨w2.heap.size, 0, none⟩) 1 1) →
      Calls Tryz.prog 7 #[.agg #[.slice (some ⟨ob, 0, none⟩) 1 1, .slice none 0 0]] W fun e w' => e = .returned (.tuple #[.string ⟨#[109, 117, 116, 97, 116, 105, 111, 110, 32, 123, 32, 97, 32, 125]⟩, .int .i64 0]) ∧ Below W.heap.size W w') := Lib.hid fun W ob hW k0 k1 k2 k3 k4 =>
    doc_mx ob _ W (E3.out.1.below hW) (E3.out.2.stays hW) k0 k1 k2 k3 k4 ((hW.cell (cell_lt C3.out.1)).trans C3.out.1) ((hW.cell (cell_lt C3.out.2.1)).trans C3.out.2.1) ((hW.cell (cell_lt C3.out.2.2.1)).trans C3.out.2.2.1) ((hW.cell (cell_lt C3.out.2.2.2.1)).trans C3.out.2.2.2.1) ((hW.cell (cell_lt C3.out.2.2.2.2.1)).trans C3.out.2.2.2.2.1) ((hW.cell (cell_lt C3.out.2.2.2.2.2)).trans C3.out.2.2.2.2.2)
  refine (is_x 2 _ ⟨#[109, 117, 116, 97, 116, 105, 111, 110, 32, 123, 32, 97, 32, 125]⟩ w3 HQ).mono ?_
  rintro e w4 ⟨rfl, hb⟩
  have B4 : Hid (Below w.heap.size w w4) := Lib.hid (B3.out.trans (hb.mono B3.out.size))
  clear hb HQ
  go_wp2_with fail
  go_ret
  exact ⟨rfl, B4.out⟩
set_option maxRecDepth 100000 in
set_option maxHeartbeats 8000000 in
theorem printnames_walk (w : World) (hET : EnvU w ∧ EnvT w) :
    Calls Tryz.prog 3 #[] w fun e w' => e = .returned (.bool true) ∧ Below w.heap.size w w' := by
  have E0 := Lib.hid hET
  clear hET
  go_enter Tryz.func3, Tryz.ntmps3
  go_wp2_with fail
  refine (sdl_ex (w.heap.size + 1) w.heap.size _ (by simp [go_sem]) (by simp [go_sem]) (by simp [go_sem]) (by simp [go_sem]) (by simp [go_sem]) (by simp [go_sem]) (by simp [go_sem]) (E0.out.1.below (by go_grown))).mono ?_
  rintro e w1 ⟨rfl, hb⟩
  have B1 : Hid (Below w.heap.size w w1) := Lib.hid (Below.trans (by go_grown) (hb.mono (by simp <;> omega)))
  have E1 : Hid (EnvU w1 ∧ EnvT w1) := Lib.hid ⟨E0.out.1.below B1.out, E0.out.2.stays B1.out⟩
  clear hb
  go_wp2_with fail
  refine (type_ex w1.heap.size _ (by simp [go_sem]) (by simp [go_sem]) (E1.out.1.below (by go_grown))).mono ?_
  rintro e w2 ⟨rfl, hb⟩
  have B12 : Hid (Below w1.heap.size w1 w2) := Lib.hid (Below.trans (by go_grown) (hb.mono (by simp <;> omega)))
  have B2 : Hid (Below w.heap.size w w2) := Lib.hid (B1.out.trans (B12.out.mono B1.out.size))
  have E2 : Hid (EnvU w2 ∧ EnvT w2) := Lib.hid ⟨E1.out.1.below B12.out, E1.out.2.stays B12.out⟩
  clear hb B12
  go_wp2_with fail
  refine (value_ex w2.heap.size _ (Or.inr ⟨_, _, _, rfl, fun j hj => ?_, by decide⟩) (E2.out.1.below (by go_grown)) (E2.out.2.stays (by go_grown))).mono ?_
  · match j, hj with
    | 0, _ => refine ⟨?_, ?_, ?_, ?_, ?_⟩ <;> simp [go_sem, celsX]
    | 1, _ => refine ⟨?_, ?_, ?_, ?_, ?_⟩ <;> simp [go_sem, celsX]
    | 2, _ => refine ⟨?_, ?_, ?_, ?_, ?_⟩ <;> simp [go_sem, celsX]
  rintro e w3 ⟨rfl, hb⟩
  have B23 : Hid (Below w2.heap.size w2 w3) := Lib.hid (Below.trans (by go_grown) (hb.mono (by simp <;> omega)))
  have B3 : Hid (Below w.heap.size w w3) := Lib.hid (B2.out.trans (B23.out.mono B2.out.size))
  have E3 : Hid (EnvU w3 ∧ EnvT w3) := Lib.hid ⟨E2.out.1.below B23.out, E2.out.2.stays B23.out⟩
  clear hb B23
  go_wp2_with fail
  refine (doc_none _ E3.out.1 E3.out.2).mono ?_
  rintro e w4 ⟨rfl, hb⟩
  have B4 : Hid (Below w.heap.size w w4) := Lib.hid (B3.out.trans (hb.mono B3.out.size))
  have E4 : Hid (EnvU w4 ∧ EnvT w4) := Lib.hid ⟨E3.out.1.below hb, E3.out.2.stays hb⟩
  clear hb
  go_wp2_with fail
  refine (sdl_none _ E4.out.1).mono ?_
  rintro e w5 ⟨rfl, hb⟩
  have B5 : Hid (Below w.heap.size w w5) := Lib.hid (B4.out.trans (hb.mono B4.out.size))
  have E5 : Hid (EnvU w5 ∧ EnvT w5) := Lib.hid ⟨E4.out.1.below hb, E4.out.2.stays hb⟩
  clear hb
  go_wp2_with fail
  refine (alive_x _ E5.out.1 E5.out.2).mono ?_
  rintro e w6 ⟨rfl, hb⟩
  have B6 : Hid (Below w.heap.size w w6) := Lib.hid (B5.out.trans (hb.mono B5.out.size))
  clear hb
  go_wp2_with fail
  go_ret
  exact ⟨rfl, B6.out⟩
end Go.Proofs.YtfagaflgdlomiaaGreatDoor
namespace Go.Proofs.YtfagaflgdlomiaaGreatDoor
open Go.RowKit Go.WideShapes Go.ChangeShapes
section
variable {H : Type} {enc : TypeId × Value → H} {P : Program}
/-- What 'post_of_same' asks of all addresses is asked here of the old blocks alone. -/
theorem post_below {f : Func} {s : ChangeSpec} {apart fresh handsOn again : Bool} {W W' : World} {args : Array Value} {v : Value} {ds gs : List (DataW H)} {before pa pv : List MemPlace}
    (hW : DataW.Whole enc P f.params.toList s.vars apart W args.toList ds gs before)
    (hres : ∀ (b : Nat) (sp : Nat → Bool) (hd : Bool), DataW.TrodAll enc P W' b sp hd f.resultTypes.toList (v.resultList f.resultTypes.size) (s.fn H (ds ++ gs)).results [])
    (hargs : ∀ sp : Nat → Bool, (∀ p ∈ before, sp p.block = true) → DataW.TrodAll enc P W' 0 sp true f.params.toList args.toList (s.fn H (ds ++ gs)).args pa)
    (hvars : ∀ sp : Nat → Bool, (∀ p ∈ before, sp p.block = true) → DataW.TrodVars enc P W' sp s.vars (s.fn H (ds ++ gs)).vars pv)
    (hps : before = pa ++ pv) (hb : Below W.heap.size W W')
    (hok : ∀ (j : Nat) (t : TypeId) (r : Value), f.resultTypes[j]? = some t → (v.resultList f.resultTypes.size)[j]? = some r → Value.okWide P W' .any 0 t r) :
    s.post enc P f apart fresh handsOn again W args v W' := by
  have old : ∀ p ∈ before, decide (p.block < W.heap.size) = true := fun p hp => decide_eq_true (hW.lt p hp)
  subst hps
  refine ⟨ds, gs, pa ++ pv, [], pa, pv, hW, hres _ _ _, hargs _ old, hvars _ old, World.keptBut_mono (fun p hp => ⟨hp, ?_⟩) (hb.frame (· ∈ pa ++ pv)), fun _ => ?_⟩
  · exact .inr (List.mem_append.1 hp)
  · obtain ⟨_, _, _, _, _, hz, hn⟩ := hW
    refine ⟨hok, _, _, ([] ++ pa) ++ pv, ⟨[] ++ pa, pv, trodAll_append (hargs _ (fun _ _ => rfl)) (hres _ _ _), hvars _ (fun _ _ => rfl), rfl, ?_, ?_⟩, ?_⟩
    · intro b off hp
      have hin : MemPlace.cell b off ∈ pa ++ pv := by simpa using hp
      rw [hb.frozen (of_decide_eq_true (old _ hin))]
      exact hz b off hin
    · intro ha
      simpa using hn ha
    · intro p hp _
      simpa using hp
end
end Go.Proofs.YtfagaflgdlomiaaGreatDoor
