/- The walk through the reference's Text (provostref04). -/
import Derived.Test.YteapenemnnhonaaDoorJt
set_option linter.unusedSimpArgs false
set_option linter.unusedVariables false
namespace Go.Proofs.YteapenemnnhonaaDoor
open Go.RowKit
theorem wrapJ (a c : UInt8) (R0 : List UInt8) (s : ByteArray) (h : s.data.toList = R0) : ((⟨#[a]⟩ : ByteArray) ++ s) ++ (⟨#[c]⟩ : ByteArray) = ⟨([a] ++ (R0 ++ [c])).toArray⟩ := by
  subst h
  apply ByteArray.ext
  apply Array.toList_inj.1
  simp
theorem ba_size (l : List UInt8) : (⟨l.toArray⟩ : ByteArray).size = l.length := by show l.toArray.size = _; simp
theorem ba_list (l : List UInt8) : (⟨l.toArray⟩ : ByteArray).data.toList = l := by simp
theorem plcJ_at {val : List Cel → Option Nat} {V : List Cel} {g p j : Nat} {P : List Nat} (h : plcJ val V (g + 1) p = P.drop j) : ∃ hj : j < P.length, P[j] = p ∧ plcJ val V g (p + (val (V.drop p)).getD 0) = P.drop (j + 1) := by
  have hj : j < P.length := by
    rcases Nat.lt_or_ge j P.length with h' | h'
    · exact h'
    · rw [List.drop_eq_nil_of_le h'] at h; cases h
  rw [List.drop_eq_getElem_cons hj, plcJ] at h
  injection h with h1 h2
  exact ⟨hj, h1.symm, h2⟩
theorem cat_list (a c : ByteArray) : (a ++ c).data.toList = a.data.toList ++ c.data.toList := by simp
theorem cat_size (a c : ByteArray) : (a ++ c).size = a.size + c.size := by simp
set_option maxRecDepth 100000 in
set_option maxHeartbeats 1000000 in
theorem jt_null (V : List Cel) (b off cap : Nat) (W : World) (k : Nat) (kk : Nat) (nx tx : ByteArray) (nu mn : Int)
    (hk : k < V.length) (hl : V.length ≤ 2048)
    (c0 : W.cell? ⟨b, off + k * 5, none⟩ = some (.int .u8 (kk : Int))) (c1 : W.cell? ⟨b, off + k * 5 + 1, none⟩ = some (.string nx)) (c2 : W.cell? ⟨b, off + k * 5 + 2, none⟩ = some (.string tx)) (c3 : W.cell? ⟨b, off + k * 5 + 3, none⟩ = some (.int .i64 nu)) (c4 : W.cell? ⟨b, off + k * 5 + 4, none⟩ = some (.int .i64 mn))
    (h0 : kk = 0)  :
    Calls Tryd.prog 17 #[.slice (some ⟨b, off, none⟩) V.length cap, .int .i64 (k : Int)] W fun e w' => e = .returned (.string ⟨#[110, 117, 108, 108]⟩) ∧ Below W.heap.size W w' := by
  subst h0
  go_enter Tryd.func17, Tryd.ntmps17
  go_wp2_with fail
  go_ret
  exact ⟨rfl, (Below.refl _ _).alloc (Nat.le_refl _) _⟩
set_option maxRecDepth 100000 in
set_option maxHeartbeats 1000000 in
theorem jt_true (V : List Cel) (b off cap : Nat) (W : World) (k : Nat) (kk : Nat) (nx tx : ByteArray) (nu mn : Int)
    (hk : k < V.length) (hl : V.length ≤ 2048)
    (c0 : W.cell? ⟨b, off + k * 5, none⟩ = some (.int .u8 (kk : Int))) (c1 : W.cell? ⟨b, off + k * 5 + 1, none⟩ = some (.string nx)) (c2 : W.cell? ⟨b, off + k * 5 + 2, none⟩ = some (.string tx)) (c3 : W.cell? ⟨b, off + k * 5 + 3, none⟩ = some (.int .i64 nu)) (c4 : W.cell? ⟨b, off + k * 5 + 4, none⟩ = some (.int .i64 mn))
    (h0 : kk = 1) (h1 : nu = 1) :
    Calls Tryd.prog 17 #[.slice (some ⟨b, off, none⟩) V.length cap, .int .i64 (k : Int)] W fun e w' => e = .returned (.string ⟨#[116, 114, 117, 101]⟩) ∧ Below W.heap.size W w' := by
  subst h0
  subst h1
  go_enter Tryd.func17, Tryd.ntmps17
  go_wp2_with fail
  go_ret
  exact ⟨rfl, (Below.refl _ _).alloc (Nat.le_refl _) _⟩
set_option maxRecDepth 100000 in
set_option maxHeartbeats 1000000 in
theorem jt_false (V : List Cel) (b off cap : Nat) (W : World) (k : Nat) (kk : Nat) (nx tx : ByteArray) (nu mn : Int)
    (hk : k < V.length) (hl : V.length ≤ 2048)
    (c0 : W.cell? ⟨b, off + k * 5, none⟩ = some (.int .u8 (kk : Int))) (c1 : W.cell? ⟨b, off + k * 5 + 1, none⟩ = some (.string nx)) (c2 : W.cell? ⟨b, off + k * 5 + 2, none⟩ = some (.string tx)) (c3 : W.cell? ⟨b, off + k * 5 + 3, none⟩ = some (.int .i64 nu)) (c4 : W.cell? ⟨b, off + k * 5 + 4, none⟩ = some (.int .i64 mn))
    (h0 : kk = 1) (h1 : nu = 0) :
    Calls Tryd.prog 17 #[.slice (some ⟨b, off, none⟩) V.length cap, .int .i64 (k : Int)] W fun e w' => e = .returned (.string ⟨#[102, 97, 108, 115, 101]⟩) ∧ Below W.heap.size W w' := by
  subst h0
  subst h1
  go_enter Tryd.func17, Tryd.ntmps17
  go_wp2_with fail
  go_ret
  exact ⟨rfl, (Below.refl _ _).alloc (Nat.le_refl _) _⟩
set_option maxRecDepth 100000 in
set_option maxHeartbeats 1000000 in
theorem jt_int (V : List Cel) (b off cap : Nat) (W : World) (k : Nat) (kk : Nat) (nx tx : ByteArray) (nu mn : Int)
    (hk : k < V.length) (hl : V.length ≤ 2048)
    (c0 : W.cell? ⟨b, off + k * 5, none⟩ = some (.int .u8 (kk : Int))) (c1 : W.cell? ⟨b, off + k * 5 + 1, none⟩ = some (.string nx)) (c2 : W.cell? ⟨b, off + k * 5 + 2, none⟩ = some (.string tx)) (c3 : W.cell? ⟨b, off + k * 5 + 3, none⟩ = some (.int .i64 nu)) (c4 : W.cell? ⟨b, off + k * 5 + 4, none⟩ = some (.int .i64 mn))
    (h0 : kk = 2) (q : ByteArray)
    (HQ : Hid (∀ W' : World, Calls Tryd.prog 25 #[.int .i64 nu] W' fun e w' => e = .returned (.string q) ∧ Below W'.heap.size W' w')) :
    Calls Tryd.prog 17 #[.slice (some ⟨b, off, none⟩) V.length cap, .int .i64 (k : Int)] W fun e w' => e = .returned (.string q) ∧ Below W.heap.size W w' := by
  subst h0
  go_enter Tryd.func17, Tryd.ntmps17
  go_wp2_with fail
  refine (HQ.out _).mono ?_; rintro e w1 ⟨rfl, hb1⟩
  have HB1 : Below W.heap.size W w1 := ((Below.refl _ _).alloc (Nat.le_refl _) _).trans (hb1.mono (by simp))
  clear hb1
  go_wp2_with fail
  go_ret
  exact ⟨rfl, HB1⟩
set_option maxRecDepth 100000 in
set_option maxHeartbeats 1000000 in
theorem jt_text (V : List Cel) (b off cap : Nat) (W : World) (k : Nat) (kk : Nat) (nx tx : ByteArray) (nu mn : Int)
    (hk : k < V.length) (hl : V.length ≤ 2048)
    (c0 : W.cell? ⟨b, off + k * 5, none⟩ = some (.int .u8 (kk : Int))) (c1 : W.cell? ⟨b, off + k * 5 + 1, none⟩ = some (.string nx)) (c2 : W.cell? ⟨b, off + k * 5 + 2, none⟩ = some (.string tx)) (c3 : W.cell? ⟨b, off + k * 5 + 3, none⟩ = some (.int .i64 nu)) (c4 : W.cell? ⟨b, off + k * 5 + 4, none⟩ = some (.int .i64 mn))
    (h0 : kk = 3) (q : ByteArray)
    (HQ : Hid (∀ W' : World, Calls Tryd.prog 26 #[.string tx] W' fun e w' => e = .returned (.string q) ∧ Below W'.heap.size W' w')) :
    Calls Tryd.prog 17 #[.slice (some ⟨b, off, none⟩) V.length cap, .int .i64 (k : Int)] W fun e w' => e = .returned (.string q) ∧ Below W.heap.size W w' := by
  subst h0
  go_enter Tryd.func17, Tryd.ntmps17
  go_wp2_with fail
  refine (HQ.out _).mono ?_; rintro e w1 ⟨rfl, hb1⟩
  have HB1 : Below W.heap.size W w1 := ((Below.refl _ _).alloc (Nat.le_refl _) _).trans (hb1.mono (by simp))
  clear hb1
  go_wp2_with fail
  go_ret
  exact ⟨rfl, HB1⟩
set_option maxRecDepth 100000 in
set_option maxHeartbeats 1000000 in
theorem jt_list (V : List Cel) (b off cap : Nat) (W : World) (k : Nat) (kk : Nat) (nx tx : ByteArray) (nu : Int) (m : Nat)
    (hk : k < V.length) (hl : V.length ≤ 2048)
    (c0 : W.cell? ⟨b, off + k * 5, none⟩ = some (.int .u8 (kk : Int))) (c1 : W.cell? ⟨b, off + k * 5 + 1, none⟩ = some (.string nx)) (c2 : W.cell? ⟨b, off + k * 5 + 2, none⟩ = some (.string tx)) (c3 : W.cell? ⟨b, off + k * 5 + 3, none⟩ = some (.int .i64 nu)) (c4 : W.cell? ⟨b, off + k * 5 + 4, none⟩ = some (.int .i64 (m : Int)))
    (t0 : ((kk : Int) == 0) = false) (t1 : ((kk : Int) == 1) = false) (t2 : ((kk : Int) == 2) = false) (t3 : ((kk : Int) == 3) = false) (t7 : ((kk : Int) == 7) = false)
    (hmx : (m : Int) ≤ 9223372036854775807) (HROW : Hid (CelRow b off V W)) (HSM : Hid (ShortV V)) (d1 n : Nat) (hkids : KS V d1 k true (some n) m [] 0) (P : List Nat) (hP : plcJ (valN d1) V m (k + 1) = P)
    (HU : Hid (∀ W' : World, CelRow b off V W' → Calls Tryd.prog 27 #[.slice (some ⟨b, off, none⟩) V.length cap, .int .i64 (k : Int)] W' fun e w' => ∃ v, e = .returned v ∧ OwnI W'.heap.size v P w' ∧ Below W'.heap.size W' w'))
    (HTL : Hid (∀ (p n1 : Nat), valN d1 (V.drop p) = some n1 → (textJ d1 (V.drop p)).length + 1804 ≤ 20000 * n1))
    (HQQ : Hid (∀ (W' : World) (x : ByteArray), x.size ≤ 100000 → Calls Tryd.prog 26 #[.string x] W' fun e w' => e = .returned (.string ⟨(quoteL x.data.toList).toArray⟩) ∧ Below W'.heap.size W' w'))
    (HIH : Hid (∀ (W' : World) (p n1 : Nat), p < V.length → CelRow b off V W' → valN d1 (V.drop p) = some n1 → Calls Tryd.prog 17 #[.slice (some ⟨b, off, none⟩) V.length cap, .int .i64 (p : Int)] W' fun e w' => e = .returned (.string ⟨(textJ d1 (V.drop p)).toArray⟩) ∧ Below W'.heap.size W' w')) :
    Calls Tryd.prog 17 #[.slice (some ⟨b, off, none⟩) V.length cap, .int .i64 (k : Int)] W fun e w' => e = .returned (.string ⟨([91] ++ (kidsJ (valN d1) (textJ d1) false m true (V.drop (k + 1)) ++ [93])).toArray⟩) ∧ Below W.heap.size W w' := by
  have HK0 := Lib.hid hkids
  have hPl : P.length = m := by rw [← hP, plcJ_len]
  have HP0 : Hid (plcJ (valN d1) V m (k + 1) = P.drop 0) := Lib.hid (by rw [hP, List.drop_zero])
  obtain ⟨R, hR⟩ : ∃ R, kidsJ (valN d1) (textJ d1) false m true (V.drop (k + 1)) = R := ⟨_, rfl⟩
  have HR0 : Hid ((⟨#[]⟩ : ByteArray).data.toList ++ kidsJ (valN d1) (textJ d1) false m (decide (0 = 0)) (V.drop (k + 1)) = R) := Lib.hid (by rw [← hR]; rfl)
  rw [hR]
  obtain ⟨rr, hrr⟩ : ∃ rr : ByteArray, (⟨([91] ++ (R ++ [93])).toArray⟩ : ByteArray) = rr := ⟨_, rfl⟩
  have HRR : Hid (∀ s : ByteArray, s.data.toList = R → ((⟨#[91]⟩ : ByteArray) ++ s) ++ (⟨#[93]⟩ : ByteArray) = rr) := Lib.hid fun s h => by rw [← hrr]; exact wrapJ _ _ _ _ h
  rw [hrr]
  have HPL := Lib.hid hPl
  clear hR hrr hkids hP hPl
  go_enter Tryd.func17, Tryd.ntmps17
  go_wp2_with fail
  obtain ⟨wc, hwc⟩ : ∃ wc, W.alloc (.cells #[.int .u8 (kk : Int), .string nx, .string tx, .int .i64 nu, .int .i64 (m : Int)] 33) = wc := ⟨_, rfl⟩
  have hc : wc.heap[W.heap.size]? = some (.cells #[.int .u8 (kk : Int), .string nx, .string tx, .int .i64 nu, .int .i64 (m : Int)] 33 (0, 0)) := by rw [← hwc]; exact heap_alloc_new W _
  have hbc : Below W.heap.size W wc := by rw [← hwc]; exact (Below.refl _ _).alloc (Nat.le_refl _) _
  rw [hwc]
  have hcz : W.heap.size < wc.heap.size := heap_lt hc
  have HC := Lib.hid hc
  have HBC := Lib.hid hbc
  clear hwc hc hbc c0 c1 c2 c3 c4
  refine (HU.out _ (HROW.out.below' HBC.out)).mono ?_; rintro e w1 ⟨v, rfl, hown, hb1⟩
  obtain ⟨a, cp, rfl, hcells⟩ := hown.form
  have HCE := Lib.hid hcells
  have HB1 : Hid (Below wc.heap.size wc w1) := Lib.hid hb1
  have hz1 := hb1.size
  rw [HPL.out]
  clear hown hcells hb1
  go_wp2_with fail
  generalize hcb : W.heap.size = cb at *
  go_loopg [6, 8] m (fun gk sv ct wr => ∃ (j p u : Nat) (nm : List (List UInt8)) (s : ByteArray), sv = .string s ∧ ct = .int .i64 j ∧ (gk + j ≤ m ∧ m ≤ gk + j) ∧ p ≤ V.length ∧ Hid (p = k + 1 + u) ∧ j ≤ u ∧ Hid (s.size ≤ 20000 * u) ∧ Hid (KS V d1 k true (some n) gk nm u) ∧ Hid (s.data.toList ++ kidsJ (valN d1) (textJ d1) false gk (decide (j = 0)) (V.drop p) = R) ∧ Hid (plcJ (valN d1) V gk p = P.drop j) ∧ Hid (Below w1.heap.size w1 wr))
  case atStart => exact ⟨0, k + 1, 0, [], ⟨#[]⟩, rfl, by go_num, ⟨by omega, by omega⟩, by omega, Lib.hid rfl, Nat.le_refl _, Lib.hid (Nat.zero_le _), HK0, HR0, HP0, Lib.hid (Below.refl _ _)⟩
  case round =>
    rename World => wr
    obtain ⟨j, p, u, nm, s, rfl, rfl, ⟨hj, hj'⟩, hp, HPU, hju, HLEN, HKS, HRT, HPL2, HB⟩ := hrel
    have hbw : Hid (Below wc.heap.size wc wr) := Lib.hid (HB1.out.trans (HB.out.mono hz1))
    have hbW : Hid (Below cb W wr) := Lib.hid (HBC.out.trans (hbw.out.mono (by omega)))
    have hzr := HB.out.size
    have e0 : wr.cell? ⟨cb, 0, none⟩ = some (.int .u8 (kk : Int)) := by rw [Lib.cell_of_heap ((hbw.out.block _ (by omega)).trans HC.out)]; rfl
    have hss : s.size ≤ 50000000 := by have z1 := HLEN.out; have z2 := HPU.out; omega
    by_cases hg0 : gk = 0
    · subst hg0
      have hjn : ¬ j < m := by omega
      clear hj hj' hju
      have HF : Hid (((⟨#[91]⟩ : ByteArray) ++ s) ++ (⟨#[93]⟩ : ByteArray) = rr) := Lib.hid (HRR.out s (by have := HRT.out; rw [show kidsJ (valN d1) (textJ d1) false 0 (decide (j = 0)) (V.drop p) = [] from rfl, List.append_nil] at this; exact this))
      go_wp2_with fail
      go_ret
      exact ⟨by rw [HF.out]; rfl, by rw [hcb]; exact hbW.out⟩
    · obtain ⟨g1, rfl⟩ : ∃ g1, gk = g1 + 1 := ⟨gk - 1, by omega⟩
      have hjm : j < m := by omega
      clear hg0
      obtain ⟨hpl, n1, hv1, hks⟩ := HKS.out.step HPU.out
      have hn1 := (valN_le _ _ _ hv1).1
      have hn2 := (valN_le _ _ _ hv1).2
      rw [List.length_drop] at hn2
      obtain ⟨hjP, hPj, hpn⟩ := plcJ_at HPL2.out
      rw [hv1, Option.getD_some] at hpn
      obtain ⟨gb, rfl, hce⟩ := HCE.out (by have := HPL.out; omega)
      have hcj := hce j hjP
      rw [hPj, Nat.zero_add] at hcj
      have HCJ : Hid (∀ W', Below wr.heap.size wr W' → W'.cell? ⟨gb, j, none⟩ = some (.int .i64 (p : Int))) := Lib.hid fun W' h => by
        have h1 := (HB.out.cell (p := ⟨gb, _, none⟩) (lt_of_cell hcj)).trans hcj
        exact (h.cell (p := ⟨gb, _, none⟩) (lt_of_cell h1)).trans h1
      have HT1 := Lib.hid (HTL.out p n1 hv1)
      have hrr := HRT.out
      rw [kidsJ, hv1, Option.getD_some, List.drop_drop] at hrr
      have HI : Hid (∀ W' : World, Below wr.heap.size wr W' → Calls Tryd.prog 17 #[.slice (some ⟨b, off, none⟩) V.length cap, .int .i64 (p : Int)] W' fun e w' => e = .returned (.string ⟨(textJ d1 (V.drop p)).toArray⟩) ∧ Below W'.heap.size W' w') := Lib.hid fun W' h => HIH.out W' p n1 hpl ((HROW.out.below' (by rw [hcb]; exact hbW.out)).below' h) hv1
      have hcr := (HROW.out.below' (by rw [hcb]; exact hbW.out))
      obtain ⟨p2, hp2⟩ : ∃ p2, p + n1 = p2 := ⟨_, rfl⟩
      have HP2 : Hid (p2 = k + 1 + (u + n1)) := Lib.hid (by rw [← hp2, HPU.out]; omega)
      have hp3 : p2 ≤ V.length := by omega
      have HKS2 := Lib.hid hks
      rw [hp2] at hrr hpn
      have HPN := Lib.hid hpn
      have htz := ba_size (textJ d1 (V.drop p))
      have htb := ba_list (textJ d1 (V.drop p))
      have hts : (⟨(textJ d1 (V.drop p)).toArray⟩ : ByteArray).size ≤ 50000000 := by have z1 := HT1.out; omega
      generalize textJ d1 (V.drop p) = tj at *
      generalize (⟨tj.toArray⟩ : ByteArray) = tb at *
      have HTB := Lib.hid htb
      have HTZ := Lib.hid htz
      have hc0 := HCJ.out wr (Below.refl _ _)
      clear hce hcj hks hv1 hpn hPj hjP htb htz
      by_cases hj0 : j = 0
      · have hj1 : ¬ 0 < j := by omega
        have hj2 : decide (0 < j) = false := decide_eq_false hj1
        unfold preJ at hrr
        have HRX : Hid (∀ y : ByteArray, y = (s) ++ tb → y.data.toList ++ kidsJ (valN d1) (textJ d1) false g1 (decide (j + 1 = 0)) (V.drop p2) = R) := Lib.hid fun y hy => by
          rw [show decide (j + 1 = 0) = false from decide_eq_false (by omega), ← hrr, decide_eq_true hj0, hy]
          simp only [cat_list, HTB.out]
          simp
        have HSX : Hid (∀ y : ByteArray, y = (s) ++ tb → y.size ≤ 20000 * (u + n1)) := Lib.hid fun y hy => by
          have z1 := HT1.out; have z2 := HLEN.out; have z3 := HTZ.out
          rw [hy]
          simp only [cat_size]
          have z4 : (⟨#[44]⟩ : ByteArray).size = 1 := rfl
          have z5 : (⟨#[58]⟩ : ByteArray).size = 1 := rfl
          omega
        clear hrr hj0 hcr
        go_wp2_with fail
        refine (HI.out _ (Below.refl _ _)).mono ?_; rintro e w6 ⟨rfl, hb6⟩
        have HB6 : Hid (Below w1.heap.size w1 w6) := Lib.hid (HB.out.trans (hb6.mono hzr))
        clear hb6
        go_wp2_with fail
        obtain ⟨s9, hs9⟩ : ∃ s9 : ByteArray, s ++ tb = s9 := ⟨_, rfl⟩
        have HR9 := Lib.hid (HRX.out s9 hs9.symm)
        have HS9 := Lib.hid (HSX.out s9 hs9.symm)
        rw [hs9]
        clear hs9
        go_roundg g1
        case measure => omega
        case rel => exact ⟨j + 1, p2, u + n1, _, s9, rfl, by go_num, ⟨by omega, by omega⟩, hp3, HP2, by omega, HS9, HKS2, HR9, HPN, HB6⟩
      · have hj1 : 0 < j := by omega
        have hj2 : decide (0 < j) = true := decide_eq_true hj1
        unfold preJ at hrr
        have HRX : Hid (∀ y : ByteArray, y = (s ++ (⟨#[44]⟩ : ByteArray)) ++ tb → y.data.toList ++ kidsJ (valN d1) (textJ d1) false g1 (decide (j + 1 = 0)) (V.drop p2) = R) := Lib.hid fun y hy => by
          rw [show decide (j + 1 = 0) = false from decide_eq_false (by omega), ← hrr, decide_eq_false hj0, hy]
          simp only [cat_list, HTB.out]
          simp
        have HSX : Hid (∀ y : ByteArray, y = (s ++ (⟨#[44]⟩ : ByteArray)) ++ tb → y.size ≤ 20000 * (u + n1)) := Lib.hid fun y hy => by
          have z1 := HT1.out; have z2 := HLEN.out; have z3 := HTZ.out
          rw [hy]
          simp only [cat_size]
          have z4 : (⟨#[44]⟩ : ByteArray).size = 1 := rfl
          have z5 : (⟨#[58]⟩ : ByteArray).size = 1 := rfl
          omega
        clear hrr hj0 hcr
        go_wp2_with fail
        obtain ⟨s2, hs2⟩ : ∃ s2 : ByteArray, s ++ (⟨#[44]⟩ : ByteArray) = s2 := ⟨_, rfl⟩
        have hs2z : s2.size ≤ 50000001 := by rw [← hs2, cat_size]; have z4 : (⟨#[44]⟩ : ByteArray).size = 1 := rfl; omega
        rw [hs2] at HRX HSX ⊢
        clear hs2
        refine (HI.out _ (Below.refl _ _)).mono ?_; rintro e w6 ⟨rfl, hb6⟩
        have HB6 : Hid (Below w1.heap.size w1 w6) := Lib.hid (HB.out.trans (hb6.mono hzr))
        clear hb6
        go_wp2_with fail
        obtain ⟨s9, hs9⟩ : ∃ s9 : ByteArray, s2 ++ tb = s9 := ⟨_, rfl⟩
        have HR9 := Lib.hid (HRX.out s9 hs9.symm)
        have HS9 := Lib.hid (HSX.out s9 hs9.symm)
        rw [hs9]
        clear hs9
        go_roundg g1
        case measure => omega
        case rel => exact ⟨j + 1, p2, u + n1, _, s9, rfl, by go_num, ⟨by omega, by omega⟩, hp3, HP2, by omega, HS9, HKS2, HR9, HPN, HB6⟩
set_option maxRecDepth 100000 in
set_option maxHeartbeats 1000000 in
theorem jt_obj (V : List Cel) (b off cap : Nat) (W : World) (k : Nat) (kk : Nat) (nx tx : ByteArray) (nu : Int) (m : Nat)
    (hk : k < V.length) (hl : V.length ≤ 2048)
    (c0 : W.cell? ⟨b, off + k * 5, none⟩ = some (.int .u8 (kk : Int))) (c1 : W.cell? ⟨b, off + k * 5 + 1, none⟩ = some (.string nx)) (c2 : W.cell? ⟨b, off + k * 5 + 2, none⟩ = some (.string tx)) (c3 : W.cell? ⟨b, off + k * 5 + 3, none⟩ = some (.int .i64 nu)) (c4 : W.cell? ⟨b, off + k * 5 + 4, none⟩ = some (.int .i64 (m : Int)))
    (t0 : ((kk : Int) == 0) = false) (t1 : ((kk : Int) == 1) = false) (t2 : ((kk : Int) == 2) = false) (t3 : ((kk : Int) == 3) = false) (t7 : ((kk : Int) == 7) = true)
    (hmx : (m : Int) ≤ 9223372036854775807) (HROW : Hid (CelRow b off V W)) (HSM : Hid (ShortV V)) (d1 n : Nat) (hkids : KS V d1 k false (some n) m [] 0) (P : List Nat) (hP : plcJ (valN d1) V m (k + 1) = P)
    (HU : Hid (∀ W' : World, CelRow b off V W' → Calls Tryd.prog 27 #[.slice (some ⟨b, off, none⟩) V.length cap, .int .i64 (k : Int)] W' fun e w' => ∃ v, e = .returned v ∧ OwnI W'.heap.size v P w' ∧ Below W'.heap.size W' w'))
    (HTL : Hid (∀ (p n1 : Nat), valN d1 (V.drop p) = some n1 → (textJ d1 (V.drop p)).length + 1804 ≤ 20000 * n1))
    (HQQ : Hid (∀ (W' : World) (x : ByteArray), x.size ≤ 100000 → Calls Tryd.prog 26 #[.string x] W' fun e w' => e = .returned (.string ⟨(quoteL x.data.toList).toArray⟩) ∧ Below W'.heap.size W' w'))
    (HIH : Hid (∀ (W' : World) (p n1 : Nat), p < V.length → CelRow b off V W' → valN d1 (V.drop p) = some n1 → Calls Tryd.prog 17 #[.slice (some ⟨b, off, none⟩) V.length cap, .int .i64 (p : Int)] W' fun e w' => e = .returned (.string ⟨(textJ d1 (V.drop p)).toArray⟩) ∧ Below W'.heap.size W' w')) :
    Calls Tryd.prog 17 #[.slice (some ⟨b, off, none⟩) V.length cap, .int .i64 (k : Int)] W fun e w' => e = .returned (.string ⟨([123] ++ (kidsJ (valN d1) (textJ d1) true m true (V.drop (k + 1)) ++ [125])).toArray⟩) ∧ Below W.heap.size W w' := by
  have HK0 := Lib.hid hkids
  have hPl : P.length = m := by rw [← hP, plcJ_len]
  have HP0 : Hid (plcJ (valN d1) V m (k + 1) = P.drop 0) := Lib.hid (by rw [hP, List.drop_zero])
  obtain ⟨R, hR⟩ : ∃ R, kidsJ (valN d1) (textJ d1) true m true (V.drop (k + 1)) = R := ⟨_, rfl⟩
  have HR0 : Hid ((⟨#[]⟩ : ByteArray).data.toList ++ kidsJ (valN d1) (textJ d1) true m (decide (0 = 0)) (V.drop (k + 1)) = R) := Lib.hid (by rw [← hR]; rfl)
  rw [hR]
  obtain ⟨rr, hrr⟩ : ∃ rr : ByteArray, (⟨([123] ++ (R ++ [125])).toArray⟩ : ByteArray) = rr := ⟨_, rfl⟩
  have HRR : Hid (∀ s : ByteArray, s.data.toList = R → ((⟨#[123]⟩ : ByteArray) ++ s) ++ (⟨#[125]⟩ : ByteArray) = rr) := Lib.hid fun s h => by rw [← hrr]; exact wrapJ _ _ _ _ h
  rw [hrr]
  have HPL := Lib.hid hPl
  clear hR hrr hkids hP hPl
  go_enter Tryd.func17, Tryd.ntmps17
  go_wp2_with fail
  obtain ⟨wc, hwc⟩ : ∃ wc, W.alloc (.cells #[.int .u8 (kk : Int), .string nx, .string tx, .int .i64 nu, .int .i64 (m : Int)] 33) = wc := ⟨_, rfl⟩
  have hc : wc.heap[W.heap.size]? = some (.cells #[.int .u8 (kk : Int), .string nx, .string tx, .int .i64 nu, .int .i64 (m : Int)] 33 (0, 0)) := by rw [← hwc]; exact heap_alloc_new W _
  have hbc : Below W.heap.size W wc := by rw [← hwc]; exact (Below.refl _ _).alloc (Nat.le_refl _) _
  rw [hwc]
  have hcz : W.heap.size < wc.heap.size := heap_lt hc
  have HC := Lib.hid hc
  have HBC := Lib.hid hbc
  clear hwc hc hbc c0 c1 c2 c3 c4
  refine (HU.out _ (HROW.out.below' HBC.out)).mono ?_; rintro e w1 ⟨v, rfl, hown, hb1⟩
  obtain ⟨a, cp, rfl, hcells⟩ := hown.form
  have HCE := Lib.hid hcells
  have HB1 : Hid (Below wc.heap.size wc w1) := Lib.hid hb1
  have hz1 := hb1.size
  rw [HPL.out]
  clear hown hcells hb1
  go_wp2_with fail
  generalize hcb : W.heap.size = cb at *
  go_loopg [6, 8] m (fun gk sv ct wr => ∃ (j p u : Nat) (nm : List (List UInt8)) (s : ByteArray), sv = .string s ∧ ct = .int .i64 j ∧ (gk + j ≤ m ∧ m ≤ gk + j) ∧ p ≤ V.length ∧ Hid (p = k + 1 + u) ∧ j ≤ u ∧ Hid (s.size ≤ 20000 * u) ∧ Hid (KS V d1 k false (some n) gk nm u) ∧ Hid (s.data.toList ++ kidsJ (valN d1) (textJ d1) true gk (decide (j = 0)) (V.drop p) = R) ∧ Hid (plcJ (valN d1) V gk p = P.drop j) ∧ Hid (Below w1.heap.size w1 wr))
  case atStart => exact ⟨0, k + 1, 0, [], ⟨#[]⟩, rfl, by go_num, ⟨by omega, by omega⟩, by omega, Lib.hid rfl, Nat.le_refl _, Lib.hid (Nat.zero_le _), HK0, HR0, HP0, Lib.hid (Below.refl _ _)⟩
  case round =>
    rename World => wr
    obtain ⟨j, p, u, nm, s, rfl, rfl, ⟨hj, hj'⟩, hp, HPU, hju, HLEN, HKS, HRT, HPL2, HB⟩ := hrel
    have hbw : Hid (Below wc.heap.size wc wr) := Lib.hid (HB1.out.trans (HB.out.mono hz1))
    have hbW : Hid (Below cb W wr) := Lib.hid (HBC.out.trans (hbw.out.mono (by omega)))
    have hzr := HB.out.size
    have e0 : wr.cell? ⟨cb, 0, none⟩ = some (.int .u8 (kk : Int)) := by rw [Lib.cell_of_heap ((hbw.out.block _ (by omega)).trans HC.out)]; rfl
    have hss : s.size ≤ 50000000 := by have z1 := HLEN.out; have z2 := HPU.out; omega
    by_cases hg0 : gk = 0
    · subst hg0
      have hjn : ¬ j < m := by omega
      clear hj hj' hju
      have HF : Hid (((⟨#[123]⟩ : ByteArray) ++ s) ++ (⟨#[125]⟩ : ByteArray) = rr) := Lib.hid (HRR.out s (by have := HRT.out; rw [show kidsJ (valN d1) (textJ d1) true 0 (decide (j = 0)) (V.drop p) = [] from rfl, List.append_nil] at this; exact this))
      go_wp2_with fail
      go_ret
      exact ⟨by rw [HF.out]; rfl, by rw [hcb]; exact hbW.out⟩
    · obtain ⟨g1, rfl⟩ : ∃ g1, gk = g1 + 1 := ⟨gk - 1, by omega⟩
      have hjm : j < m := by omega
      clear hg0
      obtain ⟨hpl, n1, hv1, hks⟩ := HKS.out.step HPU.out
      have hn1 := (valN_le _ _ _ hv1).1
      have hn2 := (valN_le _ _ _ hv1).2
      rw [List.length_drop] at hn2
      obtain ⟨hjP, hPj, hpn⟩ := plcJ_at HPL2.out
      rw [hv1, Option.getD_some] at hpn
      obtain ⟨gb, rfl, hce⟩ := HCE.out (by have := HPL.out; omega)
      have hcj := hce j hjP
      rw [hPj, Nat.zero_add] at hcj
      have HCJ : Hid (∀ W', Below wr.heap.size wr W' → W'.cell? ⟨gb, j, none⟩ = some (.int .i64 (p : Int))) := Lib.hid fun W' h => by
        have h1 := (HB.out.cell (p := ⟨gb, _, none⟩) (lt_of_cell hcj)).trans hcj
        exact (h.cell (p := ⟨gb, _, none⟩) (lt_of_cell h1)).trans h1
      have HT1 := Lib.hid (HTL.out p n1 hv1)
      have hrr := HRT.out
      rw [kidsJ, hv1, Option.getD_some, List.drop_drop] at hrr
      have HI : Hid (∀ W' : World, Below wr.heap.size wr W' → Calls Tryd.prog 17 #[.slice (some ⟨b, off, none⟩) V.length cap, .int .i64 (p : Int)] W' fun e w' => e = .returned (.string ⟨(textJ d1 (V.drop p)).toArray⟩) ∧ Below W'.heap.size W' w') := Lib.hid fun W' h => HIH.out W' p n1 hpl ((HROW.out.below' (by rw [hcb]; exact hbW.out)).below' h) hv1
      have hcr := (HROW.out.below' (by rw [hcb]; exact hbW.out))
      obtain ⟨p2, hp2⟩ : ∃ p2, p + n1 = p2 := ⟨_, rfl⟩
      have HP2 : Hid (p2 = k + 1 + (u + n1)) := Lib.hid (by rw [← hp2, HPU.out]; omega)
      have hp3 : p2 ≤ V.length := by omega
      have HKS2 := Lib.hid hks
      rw [hp2] at hrr hpn
      have HPN := Lib.hid hpn
      have htz := ba_size (textJ d1 (V.drop p))
      have htb := ba_list (textJ d1 (V.drop p))
      have hts : (⟨(textJ d1 (V.drop p)).toArray⟩ : ByteArray).size ≤ 50000000 := by have z1 := HT1.out; omega
      generalize textJ d1 (V.drop p) = tj at *
      generalize (⟨tj.toArray⟩ : ByteArray) = tb at *
      have HTB := Lib.hid htb
      have HTZ := Lib.hid htz
      have hc0 := HCJ.out wr (Below.refl _ _)
      clear hce hcj hks hv1 hpn hPj hjP htb htz
      by_cases hj0 : j = 0
      · have hj1 : ¬ 0 < j := by omega
        have hj2 : decide (0 < j) = false := decide_eq_false hj1
        have hshort := HSM.out V[p] (List.getElem_mem _)
        obtain ⟨_, r1, _⟩ := hcr p hpl
        have hhd : ((V.drop p).headD ⟨0, [], [], 0, 0⟩).name = V[p].name := by rw [List.drop_eq_getElem_cons hpl]; rfl
        have HQ := Lib.hid (fun W' => HQQ.out W' ⟨V[p].name.toArray⟩ (by rw [ba_size]; omega))
        rw [ba_list] at HQ
        unfold preJ at hrr
        rw [hhd, if_pos rfl] at hrr
        have hql := quoteL_len' V[p].name
        have hq3 : (quoteL V[p].name).length ≤ 1802 := by omega
        have hqz := ba_size (quoteL V[p].name)
        have hqb := ba_list (quoteL V[p].name)
        clear hshort hhd hql
        generalize quoteL V[p].name = qn at *
        generalize (⟨qn.toArray⟩ : ByteArray) = qb at *
        generalize (⟨V[p].name.toArray⟩ : ByteArray) = x at *
        have hq4 : qb.size ≤ 1802 := by omega
        have HQB := Lib.hid hqb
        have HQZ := Lib.hid hqz
        clear hqb hqz hq3
        have HRX : Hid (∀ y : ByteArray, y = ((s) ++ (qb ++ (⟨#[58]⟩ : ByteArray))) ++ tb → y.data.toList ++ kidsJ (valN d1) (textJ d1) true g1 (decide (j + 1 = 0)) (V.drop p2) = R) := Lib.hid fun y hy => by
          rw [show decide (j + 1 = 0) = false from decide_eq_false (by omega), ← hrr, decide_eq_true hj0, hy]
          simp only [cat_list, HTB.out, HQB.out]
          simp
        have HSX : Hid (∀ y : ByteArray, y = ((s) ++ (qb ++ (⟨#[58]⟩ : ByteArray))) ++ tb → y.size ≤ 20000 * (u + n1)) := Lib.hid fun y hy => by
          have z1 := HT1.out; have z2 := HLEN.out; have z3 := HTZ.out
          rw [hy]
          simp only [cat_size]
          have z4 : (⟨#[44]⟩ : ByteArray).size = 1 := rfl
          have z5 : (⟨#[58]⟩ : ByteArray).size = 1 := rfl
          omega
        clear hrr hj0 hcr
        go_wp2_with fail
        refine (HQ.out _).mono ?_; rintro e w4 ⟨rfl, hb4⟩
        have hc4 := HCJ.out w4 hb4
        have HB4 := Lib.hid hb4
        have e4 : w4.cell? ⟨cb, 0, none⟩ = some (.int .u8 (kk : Int)) := (hb4.cell (p := ⟨cb, _, none⟩) (lt_of_cell e0)).trans e0
        clear hb4 hc0 e0 r1
        go_wp2_with fail
        obtain ⟨s3, hs3⟩ : ∃ s3 : ByteArray, s ++ (qb ++ (⟨#[58]⟩ : ByteArray)) = s3 := ⟨_, rfl⟩
        have hs3z : s3.size ≤ 60000001 := by rw [← hs3, cat_size, cat_size]; have z4 : (⟨#[58]⟩ : ByteArray).size = 1 := rfl; omega
        rw [hs3] at HRX HSX ⊢
        clear hs3
        refine (HI.out _ HB4.out).mono ?_; rintro e w6 ⟨rfl, hb6⟩
        have HB6 : Hid (Below w1.heap.size w1 w6) := Lib.hid (HB.out.trans ((HB4.out.trans (hb6.mono HB4.out.size)).mono hzr))
        clear hb6
        go_wp2_with fail
        obtain ⟨s9, hs9⟩ : ∃ s9 : ByteArray, s3 ++ tb = s9 := ⟨_, rfl⟩
        have HR9 := Lib.hid (HRX.out s9 hs9.symm)
        have HS9 := Lib.hid (HSX.out s9 hs9.symm)
        rw [hs9]
        clear hs9
        go_roundg g1
        case measure => omega
        case rel => exact ⟨j + 1, p2, u + n1, _, s9, rfl, by go_num, ⟨by omega, by omega⟩, hp3, HP2, by omega, HS9, HKS2, HR9, HPN, HB6⟩
      · have hj1 : 0 < j := by omega
        have hj2 : decide (0 < j) = true := decide_eq_true hj1
        have hshort := HSM.out V[p] (List.getElem_mem _)
        obtain ⟨_, r1, _⟩ := hcr p hpl
        have hhd : ((V.drop p).headD ⟨0, [], [], 0, 0⟩).name = V[p].name := by rw [List.drop_eq_getElem_cons hpl]; rfl
        have HQ := Lib.hid (fun W' => HQQ.out W' ⟨V[p].name.toArray⟩ (by rw [ba_size]; omega))
        rw [ba_list] at HQ
        unfold preJ at hrr
        rw [hhd, if_pos rfl] at hrr
        have hql := quoteL_len' V[p].name
        have hq3 : (quoteL V[p].name).length ≤ 1802 := by omega
        have hqz := ba_size (quoteL V[p].name)
        have hqb := ba_list (quoteL V[p].name)
        clear hshort hhd hql
        generalize quoteL V[p].name = qn at *
        generalize (⟨qn.toArray⟩ : ByteArray) = qb at *
        generalize (⟨V[p].name.toArray⟩ : ByteArray) = x at *
        have hq4 : qb.size ≤ 1802 := by omega
        have HQB := Lib.hid hqb
        have HQZ := Lib.hid hqz
        clear hqb hqz hq3
        have HRX : Hid (∀ y : ByteArray, y = ((s ++ (⟨#[44]⟩ : ByteArray)) ++ (qb ++ (⟨#[58]⟩ : ByteArray))) ++ tb → y.data.toList ++ kidsJ (valN d1) (textJ d1) true g1 (decide (j + 1 = 0)) (V.drop p2) = R) := Lib.hid fun y hy => by
          rw [show decide (j + 1 = 0) = false from decide_eq_false (by omega), ← hrr, decide_eq_false hj0, hy]
          simp only [cat_list, HTB.out, HQB.out]
          simp
        have HSX : Hid (∀ y : ByteArray, y = ((s ++ (⟨#[44]⟩ : ByteArray)) ++ (qb ++ (⟨#[58]⟩ : ByteArray))) ++ tb → y.size ≤ 20000 * (u + n1)) := Lib.hid fun y hy => by
          have z1 := HT1.out; have z2 := HLEN.out; have z3 := HTZ.out
          rw [hy]
          simp only [cat_size]
          have z4 : (⟨#[44]⟩ : ByteArray).size = 1 := rfl
          have z5 : (⟨#[58]⟩ : ByteArray).size = 1 := rfl
          omega
        clear hrr hj0 hcr
        go_wp2_with fail
        obtain ⟨s2, hs2⟩ : ∃ s2 : ByteArray, s ++ (⟨#[44]⟩ : ByteArray) = s2 := ⟨_, rfl⟩
        have hs2z : s2.size ≤ 50000001 := by rw [← hs2, cat_size]; have z4 : (⟨#[44]⟩ : ByteArray).size = 1 := rfl; omega
        rw [hs2] at HRX HSX ⊢
        clear hs2
        refine (HQ.out _).mono ?_; rintro e w4 ⟨rfl, hb4⟩
        have hc4 := HCJ.out w4 hb4
        have HB4 := Lib.hid hb4
        have e4 : w4.cell? ⟨cb, 0, none⟩ = some (.int .u8 (kk : Int)) := (hb4.cell (p := ⟨cb, _, none⟩) (lt_of_cell e0)).trans e0
        clear hb4 hc0 e0 r1
        go_wp2_with fail
        obtain ⟨s3, hs3⟩ : ∃ s3 : ByteArray, s2 ++ (qb ++ (⟨#[58]⟩ : ByteArray)) = s3 := ⟨_, rfl⟩
        have hs3z : s3.size ≤ 60000001 := by rw [← hs3, cat_size, cat_size]; have z4 : (⟨#[58]⟩ : ByteArray).size = 1 := rfl; omega
        rw [hs3] at HRX HSX ⊢
        clear hs3
        refine (HI.out _ HB4.out).mono ?_; rintro e w6 ⟨rfl, hb6⟩
        have HB6 : Hid (Below w1.heap.size w1 w6) := Lib.hid (HB.out.trans ((HB4.out.trans (hb6.mono HB4.out.size)).mono hzr))
        clear hb6
        go_wp2_with fail
        obtain ⟨s9, hs9⟩ : ∃ s9 : ByteArray, s3 ++ tb = s9 := ⟨_, rfl⟩
        have HR9 := Lib.hid (HRX.out s9 hs9.symm)
        have HS9 := Lib.hid (HSX.out s9 hs9.symm)
        rw [hs9]
        clear hs9
        go_roundg g1
        case measure => omega
        case rel => exact ⟨j + 1, p2, u + n1, _, s9, rfl, by go_num, ⟨by omega, by omega⟩, hp3, HP2, by omega, HS9, HKS2, HR9, HPN, HB6⟩
end Go.Proofs.YteapenemnnhonaaDoor
