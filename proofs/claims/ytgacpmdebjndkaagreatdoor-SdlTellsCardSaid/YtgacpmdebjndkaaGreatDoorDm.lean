/- sdl's typ, args, dirs. -/
import Derived.Test.YtgacpmdebjndkaaGreatDoorDl
set_option linter.unusedSimpArgs false
set_option linter.unusedVariables false
namespace Go.Proofs.YtgacpmdebjndkaaGreatDoor
open Go.RowKit
set_option maxRecDepth 100000 in
set_option maxHeartbeats 4000000 in
theorem styp_go (nm : ByteArray) (nb : Bool) (a : Option Addr) (c : Nat) (ws : List UInt8) (hl : ws.length ≤ 100000) (w : World) (hu : BSl (.slice a ws.length c) ws w)
    (HNM : Hid (∀ W, Calls Tryz.prog 14 #[.string nm] W fun e w' => e = .returned (.bool nb) ∧ W = w')) :
    Calls Tryz.prog 18 #[.agg #[.string nm, .slice a ws.length c]] w fun e w' => e = .returned (.bool (nb && (decide (ws.length ≤ 8) && typB 2 ws))) ∧ Below w.heap.size w w' := by
  obtain ⟨Z, hZ⟩ : ∃ Z, typB 2 ws = Z := ⟨_, rfl⟩
  have HT0 : Hid (typB (prvB ws 0) (ws.drop 0) = Z) := Lib.hid hZ
  rw [hZ]
  have HRW : Hid (0 < ws.length → ∃ b off, a = some ⟨b, off, none⟩ ∧ b < w.heap.size ∧ BRow b off ws w) := Lib.hid fun h => by
    rcases hu with ⟨a2, c2, e, rfl⟩ | ⟨b, off, cap, e, h2, h3⟩
    · simp at h
    · injection e with e1 e2 e3
      exact ⟨b, off, e1, lt_of_cell (h2 0 h3), h2⟩
  obtain ⟨n, hn⟩ : ∃ n, ws.length = n := ⟨_, rfl⟩
  have HN := Lib.hid hn
  rw [hn] at hl ⊢
  clear hu hZ hn
  go_enter Tryz.func18, Tryz.ntmps18
  go_upto_region 1 with fail
  obtain ⟨w1, hw1⟩ : ∃ w1, w.alloc (.cells #[.string nm, .slice a n c] 38 (0, 0)) = w1 := ⟨_, rfl⟩
  have HB1 : Hid (Below w.heap.size w w1) := Lib.hid (by rw [← hw1]; exact (Below.refl _ _).alloc (Nat.le_refl _) _)
  have k1 : w1.heap[w.heap.size]? = some (.cells #[.string nm, .slice a n c] 38 (0, 0)) := by rw [← hw1]; exact heap_new _ _ _ rfl
  obtain ⟨d0, d1, _, _⟩ := ref_cells k1
  rw [hw1]
  clear hw1 k1
  go_wp2_with fail
  go_loopw [9] (fun iv wr => ∃ i : Nat, i ≤ n ∧ iv = .int .i64 (i : Int) ∧ Hid (typB (prvB ws i) (ws.drop i) = Z) ∧ wr = w1) (fun iv wr => n - (intOf iv).toNat)
  case atStart => exact ⟨0, Nat.zero_le _, rfl, HT0, rfl⟩
  case round =>
    clear HT0
    rename World => wr
    obtain ⟨i, hin, rfl, HTB, rfl⟩ := hrel
    by_cases hge : i = n
    · subst hge
      have hlt : ¬ (i : Int) < (i : Int) := by omega
      have hz : Z = true := by
        have := HTB.out
        rw [List.drop_of_length_le (by have := HN.out; omega)] at this
        exact this.symm
      have HZ := Lib.hid hz
      clear hz
      by_cases h8 : i ≤ 8
      · have h8i : (i : Int) ≤ 8 := by omega
        go_wp2_with fail
        refine (HNM.out _).mono ?_; rintro e w2 ⟨rfl, rfl⟩
        go_wp2_with fail
        go_ret
        exact ⟨ret_b (by rw [HZ.out, decide_eq_true h8]; simp), HB1.out⟩
      · have h8i : ¬ (i : Int) ≤ 8 := by omega
        go_wp2_with fail
        go_ret
        exact ⟨ret_b (by first | rfl | (rw [decide_eq_false h8]; simp)), HB1.out⟩
    · have hil : i < ws.length := by have := HN.out; omega
      obtain ⟨b, off, rfl, hbw, hrow⟩ := HRW.out (by omega)
      have hx := (HB1.out.cell (p := ⟨b, off + i, none⟩) hbw).trans (hrow i hil)
      have htb := HTB.out
      rw [List.drop_eq_getElem_cons hil, typB_step] at htb
      have hnx : prvB ws (i + 1) = ws[i]'hil := by
        unfold prvB
        rw [if_neg (by omega), Nat.add_sub_cancel, List.getD_eq_getElem?_getD, List.getElem?_eq_getElem hil]; rfl
      have HPV : Hid (∀ k, i = k + 1 → ∃ y : UInt8, prvB ws i = y ∧ wr.cell? ⟨b, off + k, none⟩ = some (.int .u8 (y.toNat : Int))) := Lib.hid fun k hk => by
        have hkl : k < ws.length := by omega
        refine ⟨ws[k], ?_, (HB1.out.cell (p := ⟨b, off + k, none⟩) hbw).trans (hrow k hkl)⟩
        unfold prvB
        rw [if_neg (by omega), show i - 1 = k by omega, List.getD_eq_getElem?_getD, List.getElem?_eq_getElem hkl]; rfl
      have hp0 : i = 0 → prvB ws i = 2 := fun h => by unfold prvB; rw [if_pos h]
      have HP0 := Lib.hid hp0
      generalize ws[i]'hil = x at hx htb hnx
      obtain ⟨xi, hxi⟩ : ∃ xi : Int, (x.toNat : Int) = xi := ⟨_, rfl⟩
      rw [hxi] at hx
      have i1 : (i : Int).toNat = i := by omega
      have i2 : (0 : Int) ≤ (i : Int) := by omega
      have i3 : (i : Int) < (n : Int) := by omega
      have HNX := Lib.hid hnx
      have hin2 : i + 1 ≤ n := by omega
      clear hrow hbw hil HRW HTB hp0 hnx hge
      generalize prvB ws i = lst at *
      have HON : (typB x (ws.drop (i + 1)) = Z) → Hid (typB (prvB ws (i + 1)) (ws.drop (i + 1)) = Z) := fun h => Lib.hid (by rw [HNX.out]; exact h)
      by_cases hx2 : x = 2
      · subst hx2
        have hx3 : xi = 2 := by rw [← hxi]; rfl
        subst hx3
        have HTN := HON (by rw [← htb]; rfl)
        clear htb hxi HON
        by_cases hi0 : i = 0
        · have h00 : ¬ (0 : Int) < (i : Int) := by omega
          clear hi0
          go_wp2_with fail
          go_roundw
          case rel => exact ⟨i + 1, hin2, by go_num, HTN, by first | rfl | trivial⟩
          case measure => simp [intOf]; omega
        · have h00 : (0 : Int) < (i : Int) := by omega
          go_wp2_with fail
          go_roundw
          case rel => exact ⟨i + 1, hin2, by go_num, HTN, by first | rfl | trivial⟩
          case measure => simp [intOf]; omega
      · by_cases hx1 : x = 1
        · subst hx1
          have hx3 : xi = 1 := by rw [← hxi]; rfl
          subst hx3
          by_cases hi0 : i = 0
          · have h00 : ¬ (0 : Int) < (i : Int) := by omega
            have hl2 := HP0.out hi0
            have HTN := HON (by rw [← htb, hl2]; rfl)
            clear htb hxi HON hl2 hi0
            go_wp2_with fail
            go_roundw
            case rel => exact ⟨i + 1, hin2, by go_num, HTN, by first | rfl | trivial⟩
            case measure => simp [intOf]; omega
          · have h00 : (0 : Int) < (i : Int) := by omega
            obtain ⟨k, hk⟩ : ∃ k, i = k + 1 := ⟨i - 1, by omega⟩
            obtain ⟨y, hy, hyc⟩ := HPV.out k hk
            obtain ⟨yi, hyi⟩ : ∃ yi : Int, (y.toNat : Int) = yi := ⟨_, rfl⟩
            rw [hyi] at hyc
            subst hy
            have j1 : IntKind.i64.wrap ((i : Int) - 1) = (k : Int) := by rw [IntWalk.i64_in _ (by omega)]; omega
            have j2 : (k : Int).toNat = k := by omega
            have j3 : (0 : Int) ≤ (k : Int) := by omega
            have j4 : (k : Int) < (n : Int) := by omega
            by_cases hls : lst = 1
            · subst hls
              have hy1 : yi = 1 := by rw [← hyi]; rfl
              subst hy1
              have HF : Hid (Z = false) := Lib.hid (by rw [← htb]; rfl)
              clear htb hxi HON hyi hk hi0
              go_wp2_with fail
              go_ret
              exact ⟨ret_b (by rw [HF.out]; simp), HB1.out⟩
            · have hy1 : ¬ yi = 1 := fun h => hls (UInt8.toNat_inj.1 (by have : ((1 : UInt8).toNat : Int) = 1 := rfl; omega))
              have hyb : (yi == 1) = false := by simpa using hy1
              have hlb : (lst == 1) = false := by simpa using hls
              have HTN := HON (by rw [← htb, hlb]; rfl)
              clear htb hxi HON hyi hls hlb hk hi0
              go_wp2_with fail
              go_roundw
              case rel => exact ⟨i + 1, hin2, by go_num, HTN, by first | rfl | trivial⟩
              case measure => simp [intOf]; omega
        · have h1 : ¬ xi = 1 := fun h => hx1 (UInt8.toNat_inj.1 (by have : ((1 : UInt8).toNat : Int) = 1 := rfl; omega))
          have h2 : ¬ xi = 2 := fun h => hx2 (UInt8.toNat_inj.1 (by have : ((2 : UInt8).toNat : Int) = 2 := rfl; omega))
          have h1b : (xi == 1) = false := by simpa using h1
          have h2b : (xi == 2) = false := by simpa using h2
          have HF : Hid (Z = false) := Lib.hid (by
            rw [← htb, (by simpa using hx1 : (x == 1) = false), (by simpa using hx2 : (x == 2) = false)]; rfl)
          clear htb hxi HON hx1 hx2
          by_cases hi0 : i = 0
          · have h00 : ¬ (0 : Int) < (i : Int) := by omega
            clear hi0
            go_wp2_with fail
            go_ret
            exact ⟨ret_b (by rw [HF.out]; simp), HB1.out⟩
          · have h00 : (0 : Int) < (i : Int) := by omega
            clear hi0
            go_wp2_with fail
            go_ret
            exact ⟨ret_b (by rw [HF.out]; simp), HB1.out⟩
theorem styp_any (nm ws : List UInt8) (a : Option Addr) (n c : Nat) (w : World) (hu : BSl (.slice a n c) ws w) (hn : nm.length ≤ 9223372036854775807) (hl : ws.length ≤ 100000) :
    Calls Tryz.prog 18 #[.agg #[.string ⟨nm.toArray⟩, .slice a n c]] w fun e w' => e = .returned (.bool (ttB nm ws)) ∧ Below w.heap.size w w' := by
  obtain ⟨a2, c2, e⟩ := hu.form
  injection e with e1 e2 e3
  subst e2
  exact styp_go _ _ a c ws hl w hu (Lib.hid fun W => lname_big _ (by rw [← bsz]; exact hn) W)
noncomputable def argsB : List ArgD → List ArgD → Bool
  | _, [] => true
  | P, x :: r => !P.any (fun b => eqB b.1 x.1) && nameB x.1 && fixV x.2 && argsB (P ++ [x]) r
theorem argsB_named : ∀ (A P : List ArgD) (nm : List (List UInt8)), (∀ s, nm.contains s = P.any fun b => eqB b.1 s) → argsB P A = (namedB nm A && !A.any fun a => a.2.any isV)
  | [], P, nm, h => rfl
  | x :: r, P, nm, h => by
    rw [argsB, namedB_step, argsB_named r (P ++ [x]) (x.1 :: nm) (fun s => by
      rw [List.contains_cons, List.any_append, h s]
      have : (s == x.1) = eqB x.1 s := eqB_of (by rw [beq_iff_eq]; exact eq_comm)
      rw [this]
      simp [Bool.or_comm]), h x.1, fixV_lit, List.any_cons]
    cases P.any (fun b => eqB b.1 x.1) <;> cases nameB x.1 <;> cases litB x.2 <;> cases x.2.any isV <;> cases namedB (x.1 :: nm) r <;> simp
set_option maxRecDepth 100000 in
set_option maxHeartbeats 4000000 in
theorem sac_c (x0 : ByteArray) (xa1 : Option Addr) (xn1 xc1 : Nat) (bv : Nat) (y0 : ByteArray) (t0 : Bool) (w : World)
    (hcap : w.cell? ⟨bv, 0, none⟩ = some (.string y0))
    (h0 : (x0.toList == y0.toList) = t0) :
    Calls Tryz.prog 65 #[.agg #[.string x0, .slice xa1 xn1 xc1], .pointer (some ⟨bv, 0, none⟩)] w fun e w' => e = .returned (.bool (t0)) ∧ Below w.heap.size w w' := by
  go_enter Tryz.func65, Tryz.ntmps65
  go_upto_region 1 with fail
  obtain ⟨w2, hw2⟩ : ∃ w2, w.alloc (.cells #[.string x0, .slice xa1 xn1 xc1] 82 (0, 0)) = w2 := ⟨_, rfl⟩
  have HB2 : Hid (Below w.heap.size w w2) := Lib.hid (by rw [← hw2]; exact (Below.refl _ _).alloc (Nat.le_refl _) _)
  have k1 : w2.heap[w.heap.size]? = some (.cells #[.string x0, .slice xa1 xn1 xc1] 82 (0, 0)) := by rw [← hw2]; exact heap_new _ _ _ rfl
  have MK : Hid (∀ W, Below w2.heap.size w2 W → W.cell? ⟨w.heap.size, 0, none⟩ = some (.string x0) ∧ W.cell? ⟨w.heap.size, 1, none⟩ = some (.slice xa1 xn1 xc1) ∧ W.cell? ⟨bv, 0, none⟩ = some (.string y0)) := Lib.hid fun W hW => ⟨(Lib.cell_of_heap ((hW.block _ (heap_lt k1)).trans k1) 0).trans rfl, (Lib.cell_of_heap ((hW.block _ (heap_lt k1)).trans k1) 1).trans rfl, (hW.cell (p := ⟨_, _, none⟩) (Nat.lt_of_lt_of_le (lt_of_cell hcap) HB2.out.size)).trans ((HB2.out.cell (p := ⟨_, _, none⟩) (lt_of_cell hcap)).trans hcap)⟩
  obtain ⟨d0, d1, dv⟩ := MK.out w2 (Below.refl _ _)
  have HBV : Hid (Below w2.heap.size w2 w2) := Lib.hid (Below.refl _ _)
  try rw [hw2]
  clear hw2 k1 hcap
  cases t0 with
  | false =>
    go_wp2_with fail
    go_ret
    exact ⟨ret_b rfl, HB2.out.trans (HBV.out.mono HB2.out.size)⟩
  | true =>
    go_wp2_with fail
    go_ret
    exact ⟨ret_b rfl, HB2.out.trans (HBV.out.mono HB2.out.size)⟩
theorem sac_ent : ∀ args w, (callFunc 65 args).run Tryz.prog w = .ok (.enter 65 args) w := enters_of Tryz.func65 (by kernel_rfl) rfl
theorem sac_any (A : List ArgD) (x : List UInt8) (b off k cap bv : Nat) (hk : k ≤ A.length) (hl : A.length ≤ 100000) (W : World) (hrow : XRow CelSl b off A W) (hcap : W.cell? ⟨bv, 0, none⟩ = some (.string ⟨x.toArray⟩)) :
    Calls Tryz.prog 64 #[.slice (some ⟨b, off, none⟩) k cap, .func (.func 65) #[] #[.pointer (some ⟨bv, 0, none⟩)]] W fun e w' => e = .returned (.bool ((A.take k).any fun b => eqB b.1 x)) ∧ Below W.heap.size W w' := by
  have hlen : (A.take k).length = k := by rw [List.length_take]; omega
  refine arg_contains _ #[.pointer (some ⟨bv, 0, none⟩)] sac_ent (fun b => eqB b.1 x) (A.take k) _ W ?_ (by omega) (Lib.hid fun W' j hj ev hev hb => ?_)
  · by_cases h0 : k = 0
    · subst h0
      exact Or.inl ⟨_, _, rfl, by simp⟩
    · refine Or.inr ⟨b, off, cap, by rw [hlen], fun i hi => ?_, by omega⟩
      rw [List.getElem_take]
      exact hrow i (by rw [hlen] at hi; omega)
  · obtain ⟨a, n, c, rfl, _⟩ := hev
    exact sac_c _ _ _ _ bv _ _ W' ((hb.cell (p := ⟨_, _, none⟩) (lt_of_cell hcap)).trans hcap) (eqB_str _ _)
set_option maxRecDepth 100000 in
set_option maxHeartbeats 4000000 in
theorem sargs_go (A : List ArgD) (b off cap : Nat) (hl : A.length ≤ 100000) (hcap : A.length ≤ cap) (w : World) (hrow : XRow CelSl b off A w) (hs : ∀ x ∈ A, ArgSm x) (hE : EnvU w) :
    Calls Tryz.prog 44 #[.slice (some ⟨b, off, none⟩) A.length cap] w fun e w' => e = .returned (.bool (argsB [] A)) ∧ Below w.heap.size w w' := by
  have HROW := Lib.hid hrow
  have HS := Lib.hid hs
  have HEN := Lib.hid hE
  obtain ⟨Z, hZ⟩ : ∃ Z, argsB [] A = Z := ⟨_, rfl⟩
  have HZ0 : Hid (argsB (A.take 0) (A.drop 0) = Z) := Lib.hid hZ
  rw [hZ]
  obtain ⟨n, hn⟩ : ∃ n, A.length = n := ⟨_, rfl⟩
  have HN := Lib.hid hn
  rw [hn] at hl hcap ⊢
  clear hrow hs hE hZ hn
  go_enter Tryz.func44, Tryz.ntmps44
  go_wp2_with fail
  go_loopw [8] (fun iv wr => ∃ k : Nat, k ≤ n ∧ iv = .int .i64 (k : Int) ∧ Hid (argsB (A.take k) (A.drop k) = Z) ∧ Hid (Below w.heap.size w wr)) (fun iv wr => n - (intOf iv).toNat)
  case atStart => exact ⟨0, Nat.zero_le _, rfl, HZ0, Lib.hid (Below.refl _ _)⟩
  case round =>
    clear HZ0
    rename World => wr
    obtain ⟨k, hk, rfl, HQ, HB⟩ := hrel
    by_cases hkn : k = n
    · have hlt : ¬ (k : Int) < (n : Int) := by omega
      have HF : Hid (true = Z) := Lib.hid (by
        have := HQ.out
        rw [List.drop_of_length_le (by have := HN.out; omega)] at this
        exact this)
      clear HQ hkn
      go_wp2_with fail
      go_ret
      exact ⟨ret_b HF.out, HB.out⟩
    · have hil : k < A.length := by have := HN.out; omega
      obtain ⟨q0, ya, yn, yc, q1, yy⟩ := (XRow.below HROW.out (fun _ _ h => CelSl.below h HB.out) HB.out) k hil
      have sm := HS.out A[k] (List.getElem_mem hil)
      have hq := HQ.out
      rw [List.drop_eq_getElem_cons hil, argsB] at hq
      have htk : A.take k ++ [A[k]] = A.take (k + 1) := by rw [List.take_add_one, List.getElem?_eq_getElem hil]; rfl
      rw [htk] at hq
      have hz := HB.out.size
      obtain ⟨t0, ht0⟩ : ∃ t, ((A.take k).any fun b => eqB b.1 A[k].1) = t := ⟨_, rfl⟩
      obtain ⟨t1, ht1⟩ : ∃ t, nameB A[k].1 = t := ⟨_, rfl⟩
      obtain ⟨t2, ht2⟩ : ∃ t, fixV A[k].2 = t := ⟨_, rfl⟩
      rw [ht0, ht1, ht2] at hq
      have HC0 : Hid (∀ (W : World) (bv : Nat), Below wr.heap.size wr W → W.cell? ⟨bv, 0, none⟩ = some (.string ⟨A[k].1.toArray⟩) → Calls Tryz.prog 64 #[.slice (some ⟨b, off, none⟩) k cap, .func (.func 65) #[] #[.pointer (some ⟨bv, 0, none⟩)]] W fun e w' => e = .returned (.bool t0) ∧ Below W.heap.size W w') := Lib.hid fun W bv hW hc => by
        rw [← ht0]
        exact sac_any A _ b off k cap bv (by omega) (by have := HN.out; omega) W (XRow.below HROW.out (fun _ _ h => CelSl.below h (HB.out.trans (hW.mono hz))) (HB.out.trans (hW.mono hz))) hc
      have HC1 : Hid (∀ W, Below wr.heap.size wr W → Calls Tryz.prog 14 #[.string ⟨A[k].1.toArray⟩] W fun e w' => e = .returned (.bool t1) ∧ Below W.heap.size W w') := Lib.hid fun W hW => by
        rw [← ht1]
        exact calls_below (lname_any _ (by rw [← bsz]; exact sm.1) W)
      have HC2 : Hid (∀ W, Below wr.heap.size wr W → Calls Tryz.prog 47 #[.slice ya yn yc] W fun e w' => e = .returned (.bool t2) ∧ Below W.heap.size W w') := Lib.hid fun W hW => by
        rw [← ht2]
        exact fixed_any _ _ W (yy.below hW) sm.2 (HEN.out.below (HB.out.trans (hW.mono hz)))
      have HQ2 := Lib.hid hq
      clear hq HQ sm yy ht0 ht1 ht2 htk
      generalize (⟨A[k].1.toArray⟩ : ByteArray) = x at *
      have i1 : (k : Int).toNat = k := by omega
      have i2 : (0 : Int) ≤ (k : Int) := by omega
      have i3 : (k : Int) < (n : Int) := by omega
      have i4 : (k : Int) ≤ (cap : Int) := by omega
      have i5 : (k : Int) ≤ (n : Int) := by omega
      have pb := lt_of_cell q0
      go_upto_region 4 with fail
      obtain ⟨w2, hw2⟩ : ∃ w2, wr.alloc (.cells #[.string x, .slice ya yn yc] 82 (0, 0)) = w2 := ⟨_, rfl⟩
      have HBA : Hid (Below wr.heap.size wr w2) := Lib.hid (by rw [← hw2]; exact (Below.refl _ _).alloc (Nat.le_refl _) _)
      have k1 : w2.heap[wr.heap.size]? = some (.cells #[.string x, .slice ya yn yc] 82 (0, 0)) := by rw [← hw2]; exact heap_new _ _ _ rfl
      have MK : Hid (∀ W, Below w2.heap.size w2 W → W.cell? ⟨wr.heap.size, 0, none⟩ = some (.string x) ∧ W.cell? ⟨wr.heap.size, 1, none⟩ = some (.slice ya yn yc)) := Lib.hid fun W hW => ⟨(Lib.cell_of_heap ((hW.block _ (heap_lt k1)).trans k1) 0).trans rfl, (Lib.cell_of_heap ((hW.block _ (heap_lt k1)).trans k1) 1).trans rfl⟩
      obtain ⟨d0, d1⟩ := MK.out w2 (Below.refl _ _)
      have HC3 := Lib.hid (HC0.out w2 wr.heap.size HBA.out d0)
      try rw [hw2]
      clear hw2 k1 HC0 q0 q1
      go_wp2_with fail
      refine HC3.out.mono ?_; rintro e w3 ⟨rfl, hb⟩
      have HBV : Hid (Below w2.heap.size w2 w3) := Lib.hid hb
      obtain ⟨d0, d1⟩ := MK.out w3 hb
      clear hb
      cases t0 with
      | true =>
        have HF : Hid (false = Z) := Lib.hid (by rw [← HQ2.out]; rfl)
        go_wp2_with fail
        go_ret
        exact ⟨ret_b HF.out, HB.out.trans ((HBA.out.trans (HBV.out.mono HBA.out.size)).mono hz)⟩
      | false =>
      cases t1 with
      | false =>
        have HF : Hid (false = Z) := Lib.hid (by rw [← HQ2.out]; rfl)
        go_wp2_with fail
        refine (HC1.out _ (HBA.out.trans (HBV.out.mono HBA.out.size))).mono ?_; rintro e w4 ⟨rfl, hb⟩
        have HBV2 : Hid (Below w2.heap.size w2 w4) := Lib.hid (HBV.out.trans (hb.mono HBV.out.size))
        go_wp2_with fail
        go_ret
        exact ⟨ret_b HF.out, HB.out.trans ((HBA.out.trans (HBV2.out.mono HBA.out.size)).mono hz)⟩
      | true =>
      go_wp2_with fail
      refine (HC1.out _ (HBA.out.trans (HBV.out.mono HBA.out.size))).mono ?_; rintro e w4 ⟨rfl, hb⟩
      have HBV2 : Hid (Below w2.heap.size w2 w4) := Lib.hid (HBV.out.trans (hb.mono HBV.out.size))
      obtain ⟨d0, d1⟩ := MK.out w4 HBV2.out
      clear hb
      go_wp2_with fail
      refine (HC2.out _ (HBA.out.trans (HBV2.out.mono HBA.out.size))).mono ?_; rintro e w5 ⟨rfl, hb⟩
      have HBV3 : Hid (Below w2.heap.size w2 w5) := Lib.hid (HBV2.out.trans (hb.mono HBV2.out.size))
      clear hb
      cases t2 with
      | false =>
        have HF : Hid (false = Z) := Lib.hid (by rw [← HQ2.out]; rfl)
        go_wp2_with fail
        go_ret
        exact ⟨ret_b HF.out, HB.out.trans ((HBA.out.trans (HBV3.out.mono HBA.out.size)).mono hz)⟩
      | true =>
        have HF : Hid (argsB (A.take (k + 1)) (A.drop (k + 1)) = Z) := Lib.hid (by rw [← HQ2.out]; rfl)
        go_wp2_with fail
        go_roundw
        case rel => exact ⟨k + 1, by omega, by go_num, HF, Lib.hid (HB.out.trans ((HBA.out.trans (HBV3.out.mono HBA.out.size)).mono hz))⟩
        case measure => simp [intOf]; omega
set_option maxRecDepth 100000 in
theorem sargs_none (a : Option Addr) (c : Nat) (w : World) :
    Calls Tryz.prog 44 #[.slice a 0 c] w fun e w' => e = .returned (.bool true) ∧ Below w.heap.size w w' := by
  go_enter Tryz.func44, Tryz.ntmps44
  go_wp2_with fail
  refine wp_loop_rounds 1 ?_; rw [rounds_succ]
  go_wp2_with fail
  go_ret
  exact ⟨rfl, Below.refl _ _⟩
/-- Arguments of definitions: they may be, and there is no variable in them. -/
def fixA (A : List ArgD) : Bool := namedB [] A && !A.any fun a => a.2.any isV
theorem argsm_any (A : List ArgD) (v : Value) (w : World) (hv : ArgSlc v A w) (hs : ArgsSm A) (hE : EnvU w) :
    Calls Tryz.prog 44 #[v] w fun e w' => e = .returned (.bool (fixA A)) ∧ Below w.heap.size w w' := by
  have he : fixA A = argsB [] A := (argsB_named A [] [] (fun s => by simp)).symm
  rw [he]
  obtain ⟨hv, a, n, c, e, hc⟩ := hv
  rcases hv with ⟨a, c, rfl, rfl⟩ | ⟨b, off, cap, rfl, hrow, hpos⟩
  · exact sargs_none a c w
  · injection e with _ e2 e3
    exact sargs_go A b off cap hs.1 (by omega) w hrow hs.2 hE
/-- Directives of definitions. -/
def fixD (D : List DirD) : Bool := D.all fun d => nameB d.1 && fixA d.2
set_option maxRecDepth 100000 in
set_option maxHeartbeats 4000000 in
theorem sdc_c (x0 : ByteArray) (xa1 : Option Addr) (xn1 xc1 : Nat) (t0 t1 : Bool) (w : World)
    (H0 : Hid (∀ W, Below w.heap.size w W → Calls Tryz.prog 14 #[.string x0] W fun e w' => e = .returned (.bool t0) ∧ Below W.heap.size W w'))
    (H1 : Hid (∀ W, Below w.heap.size w W → Calls Tryz.prog 44 #[.slice xa1 xn1 xc1] W fun e w' => e = .returned (.bool t1) ∧ Below W.heap.size W w')) :
    Calls Tryz.prog 43 #[.agg #[.string x0, .slice xa1 xn1 xc1]] w fun e w' => e = .returned (.bool (!(t0 && t1))) ∧ Below w.heap.size w w' := by
  go_enter Tryz.func43, Tryz.ntmps43
  go_upto_region 1 with fail
  obtain ⟨w2, hw2⟩ : ∃ w2, w.alloc (.cells #[.string x0, .slice xa1 xn1 xc1] 61 (0, 0)) = w2 := ⟨_, rfl⟩
  have HB2 : Hid (Below w.heap.size w w2) := Lib.hid (by rw [← hw2]; exact (Below.refl _ _).alloc (Nat.le_refl _) _)
  have k1 : w2.heap[w.heap.size]? = some (.cells #[.string x0, .slice xa1 xn1 xc1] 61 (0, 0)) := by rw [← hw2]; exact heap_new _ _ _ rfl
  have MK : Hid (∀ W, Below w2.heap.size w2 W → W.cell? ⟨w.heap.size, 0, none⟩ = some (.string x0) ∧ W.cell? ⟨w.heap.size, 1, none⟩ = some (.slice xa1 xn1 xc1)) := Lib.hid fun W hW => ⟨(Lib.cell_of_heap ((hW.block _ (heap_lt k1)).trans k1) 0).trans rfl, (Lib.cell_of_heap ((hW.block _ (heap_lt k1)).trans k1) 1).trans rfl⟩
  obtain ⟨d0, d1⟩ := MK.out w2 (Below.refl _ _)
  have HBV : Hid (Below w2.heap.size w2 w2) := Lib.hid (Below.refl _ _)
  try rw [hw2]
  clear hw2 k1
  cases t0 with
  | false =>
    go_wp2_with fail
    refine (H0.out _ (HB2.out.trans (HBV.out.mono HB2.out.size))).mono ?_; rintro e w5 ⟨rfl, hb⟩
    have HBV2 : Hid (Below w2.heap.size w2 w5) := Lib.hid (HBV.out.trans (hb.mono HBV.out.size))
    obtain ⟨d0, d1⟩ := MK.out w5 HBV2.out
    clear HBV hb
    have HBV := HBV2
    clear HBV2
    go_wp2_with fail
    go_ret
    exact ⟨ret_b rfl, HB2.out.trans (HBV.out.mono HB2.out.size)⟩
  | true =>
    go_wp2_with fail
    refine (H0.out _ (HB2.out.trans (HBV.out.mono HB2.out.size))).mono ?_; rintro e w5 ⟨rfl, hb⟩
    have HBV2 : Hid (Below w2.heap.size w2 w5) := Lib.hid (HBV.out.trans (hb.mono HBV.out.size))
    obtain ⟨d0, d1⟩ := MK.out w5 HBV2.out
    clear HBV hb
    have HBV := HBV2
    clear HBV2
    cases t1 with
    | false =>
      go_wp2_with fail
      refine (H1.out _ (HB2.out.trans (HBV.out.mono HB2.out.size))).mono ?_; rintro e w5 ⟨rfl, hb⟩
      have HBV2 : Hid (Below w2.heap.size w2 w5) := Lib.hid (HBV.out.trans (hb.mono HBV.out.size))
      obtain ⟨d0, d1⟩ := MK.out w5 HBV2.out
      clear HBV hb
      have HBV := HBV2
      clear HBV2
      go_wp2_with fail
      go_ret
      exact ⟨ret_b rfl, HB2.out.trans (HBV.out.mono HB2.out.size)⟩
    | true =>
      go_wp2_with fail
      refine (H1.out _ (HB2.out.trans (HBV.out.mono HB2.out.size))).mono ?_; rintro e w5 ⟨rfl, hb⟩
      have HBV2 : Hid (Below w2.heap.size w2 w5) := Lib.hid (HBV.out.trans (hb.mono HBV.out.size))
      obtain ⟨d0, d1⟩ := MK.out w5 HBV2.out
      clear HBV hb
      have HBV := HBV2
      clear HBV2
      go_wp2_with fail
      go_ret
      exact ⟨ret_b rfl, HB2.out.trans (HBV.out.mono HB2.out.size)⟩
theorem sdc_ent : ∀ args w, (callFunc 43 args).run Tryz.prog w = .ok (.enter 43 args) w := enters_of Tryz.func43 (by kernel_rfl) rfl
def fixD1 (d : DirD) : Bool := nameB d.1 && fixA d.2
theorem sdc_any (x : DirD) (ev : Value) (w : World) (h : DirV ev x w) (hs : DirSm x) (hE : EnvU w) :
    Calls Tryz.prog 43 #[ev] w fun e w' => e = .returned (.bool (!fixD1 x)) ∧ Below w.heap.size w w' := by
  obtain ⟨a, n, c, rfl, h1⟩ := h
  exact sdc_c _ _ _ _ _ _ w (Lib.hid fun W _ => calls_below (lname_any _ (by rw [← bsz]; exact hs.1) W)) (Lib.hid fun W hW => argsm_any _ _ W (ArgSlc.below h1 hW) hs.2 (hE.below hW))
set_option maxRecDepth 100000 in
theorem sdirsm_any (L : List DirD) (v : Value) (w : World) (hv : DirSlc v L w) (hs : DirsSm L) (hE : EnvU w) :
    Calls Tryz.prog 19 #[v] w fun e w' => e = .returned (.bool (L.all fixD1)) ∧ Below w.heap.size w w' := by
  have HC : Hid (Calls Tryz.prog 42 #[v, .func (.func 43) #[] #[]] w fun e w' => e = .returned (.bool (L.any fun x => !fixD1 x)) ∧ Below w.heap.size w w') := Lib.hid (
    dir_contains _ #[] sdc_ent (fun x => !fixD1 x) L v w hv hs.1 (Lib.hid fun W k hk ev hev hb => sdc_any _ ev W hev (hs.2 _ (List.getElem_mem hk)) (hE.below hb)))
  have hr : L.all fixD1 = !L.any fun x => !fixD1 x := by
    induction L with
    | nil => rfl
    | cons x r ih =>
      rw [List.all_cons, List.any_cons, Bool.not_or, Bool.not_not]
      congr 1
      clear hv hs HC ih
      induction r with
      | nil => rfl
      | cons y s ih2 => rw [List.all_cons, List.any_cons, Bool.not_or, Bool.not_not, ih2]
  rw [hr]
  clear hr hv hs hE
  generalize (L.any fun x => !fixD1 x) = r at *
  go_enter Tryz.func19, Tryz.ntmps19
  go_wp2_with fail
  refine HC.out.mono ?_; rintro e w1 ⟨rfl, hb⟩
  have HB := Lib.hid hb
  clear hb
  go_wp2_with fail
  go_ret
  exact ⟨rfl, HB.out⟩
end Go.Proofs.YtgacpmdebjndkaaGreatDoor
