/- The walks through the reference's JSON reader (provostref04): four. -/
import Derived.Test.YtglhanblbojkhaaGreatDoorNr
set_option linter.unusedSimpArgs false
set_option linter.unusedVariables false
namespace Go.Proofs.YtglhanblbojkhaaGreatDoor
open Go.RowKit
def hexB (k : Nat) : UInt8 := if k < 10 then UInt8.ofNat (48 + k) else UInt8.ofNat (87 + k)
def hexM (c : UInt8) (k : Nat) : Bool := c == hexB k || (decide (9 < k) && c == hexB k - 32)
def hexA (c : UInt8) : Nat → Int
  | 0 => -1
  | k + 1 => if hexM c k then (k : Int) else hexA c k
theorem all256' {f : UInt8 → Bool} (h : ∀ i : Fin 256, f (UInt8.ofNat i.val) = true) (c : UInt8) : f c = true := by
  have := h ⟨c.toNat, UInt8.toNat_lt c⟩
  simpa using this
theorem hexA_end (c : UInt8) : hexA c 16 = (match hexJ c with | some d => (d : Int) | none => -1) := by
  have := all256' (f := fun c => decide (hexA c 16 = (match hexJ c with | some d => (d : Int) | none => -1))) (by decide +kernel) c
  exact of_decide_eq_true this
theorem hexB_at : ∀ (k : Nat) (h : k < (⟨#[48, 49, 50, 51, 52, 53, 54, 55, 56, 57, 97, 98, 99, 100, 101, 102]⟩ : ByteArray).size), (⟨#[48, 49, 50, 51, 52, 53, 54, 55, 56, 57, 97, 98, 99, 100, 101, 102]⟩ : ByteArray)[k]'h = hexB k := by
  intro k h
  have hk : k < 16 := h
  have := (by decide +kernel : ∀ i : Fin 16, (⟨#[48, 49, 50, 51, 52, 53, 54, 55, 56, 57, 97, 98, 99, 100, 101, 102]⟩ : ByteArray)[i.val]'(i.isLt) = hexB i.val) ⟨k, hk⟩
  exact this
theorem hexJ_lt (c : UInt8) (d : Nat) (h : hexJ c = some d) : d < 16 := by
  unfold hexJ at h
  have := UInt8.toNat_lt c
  split at h
  · injection h with h; omega
  · split at h
    · injection h with h; omega
    · split at h
      · injection h with h; omega
      · cases h
/-- Where four ends. -/
def FourE (r : Nat) (s : ByteArray) (v : Value) (e : Int) (o : Option (Nat × List UInt8)) (x : Ending) (W : World) : Prop := match o with
  | none => ∃ a : Nat, x = .returned (.int .i64 0) ∧ a ≤ s.size ∧ RdR r s a v (if e = 0 then 40 else e) W
  | some (n, t) => x = .returned (.int .i64 (n : Int)) ∧ ∃ a, a ≤ s.size ∧ s.data.toList.drop a = t ∧ RdR r s a v 0 W
set_option maxRecDepth 100000 in
set_option maxHeartbeats 2000000 in
theorem rfour_any (r : Nat) (s : ByteArray) (at_ : Nat) (v : Value) (e : Int) (ha : at_ ≤ s.size) (hs : s.size ≤ 1000000) (w : World) (h : RdR r s at_ v e w) :
    Calls Tryz.prog 95 #[.pointer (some ⟨r, 0, none⟩)] w fun x w' => FourE r s v e (if e = 0 then hexsJ 4 0 (s.data.toList.drop at_) else none) x w' ∧ RK r w w' := by
  have HH := Lib.hid h
  obtain ⟨H, hH⟩ : ∃ H, (if e = 0 then hexsJ 4 0 (s.data.toList.drop at_) else none) = H := ⟨_, rfl⟩
  have HH0 : Hid ((if e = 0 then hexsJ 4 0 (s.data.toList.drop at_) else none) = H) := Lib.hid hH
  have HLK : Hid (∀ a, a ≤ s.size → ∀ W, RdR r s a v e W → Calls Tryz.prog 48 #[.pointer (some ⟨r, 0, none⟩)] W fun x w' => x = .returned (.int .u8 ((lookJ e (s.data.toList.drop a)).toNat : Int)) ∧ Below W.heap.size W w') := Lib.hid fun a h1 W h2 => rlook_any r s a v e h1 hs W h2
  rw [hH]
  clear h hH
  go_enter Tryz.func95, Tryz.ntmps95
  go_wp2_with fail
  go_loopg [3, 4] 4 (fun gk nv iv wr => ∃ j a N : Nat, nv = .int .i64 (N : Int) ∧ iv = .int .i64 (j : Int) ∧ (gk + j ≤ 4 ∧ 4 ≤ gk + j) ∧ a ≤ s.size ∧ Hid (N < 16 ^ j) ∧ (e = 0 ∨ j = 0) ∧ Hid ((if e = 0 then hexsJ gk N (s.data.toList.drop a) else none) = H) ∧ Hid (RdR r s a v e wr) ∧ Hid (RK r w wr))
  case atStart => exact ⟨0, at_, 0, rfl, rfl, ⟨by omega, by omega⟩, ha, Lib.hid (by decide), Or.inr rfl, HH0, HH, Lib.hid (RK.refl _ _)⟩
  case round =>
    rename World => wr
    obtain ⟨j, a, N, rfl, rfl, ⟨hg, hg'⟩, hal, HN, hej, HHJ, HR, HK⟩ := hrel
    have hltr := HR.out.lt
    by_cases hg0 : gk = 0
    · subst hg0
      have hj4 : j = 4 := by omega
      subst hj4
      have HF : Hid (FourE r s v e H (.returned (.int .i64 (N : Int))) wr) := Lib.hid (by
        have he : e = 0 := by rcases hej with h | h; exact h; exact absurd h (by decide)
        have := HHJ.out
        rw [if_pos he] at this
        rw [← this]
        subst he
        exact ⟨rfl, a, hal, rfl, HR.out⟩)
      clear hej hg hg'
      go_wp2_with fail
      go_ret
      exact ⟨HF.out, HK.out⟩
    · have hj3 : j ≤ 3 := by omega
      have hN4 : N ≤ 4095 := by
        have h1 := HN.out
        have h2 : 16 ^ j ≤ 16 ^ 3 := Nat.pow_le_pow_right (by decide) hj3
        omega
      have HLA : Hid (∀ W, Below wr.heap.size wr W → Calls Tryz.prog 48 #[.pointer (some ⟨r, 0, none⟩)] W fun x w' => x = .returned (.int .u8 ((lookJ e (s.data.toList.drop a)).toNat : Int)) ∧ Below W.heap.size W w') := Lib.hid fun W hW => HLK.out a hal W (HR.out.below hW)
      have hjlt : ((j : Int) < 4) := by omega
      obtain ⟨c, hc⟩ : ∃ c, lookJ e (s.data.toList.drop a) = c := ⟨_, rfl⟩
      rw [hc] at HLA
      have HC := Lib.hid hc
      clear hc
      go_wp2_with fail
      generalize gk = g0 at *
      go_loopg [5, 6] 16 (fun hk dv kv wt => ∃ k : Nat, dv = .int .i64 (hexA c k) ∧ kv = .int .i64 (k : Int) ∧ (hk + k ≤ 16 ∧ 16 ≤ hk + k) ∧ Hid (Below wr.heap.size wr wt))
      case atStart => exact ⟨0, rfl, rfl, ⟨by omega, by omega⟩, Lib.hid (Below.refl _ _)⟩
      case round =>
        rename World => wt
        obtain ⟨k, rfl, rfl, ⟨hk1, hk2⟩, HBT⟩ := hrel
        by_cases hk0 : gk = 0
        · subst hk0
          have hkk : k = 16 := by omega
          subst hkk
          have HRT := Lib.hid (HR.out.below HBT.out)
          have HKT := Lib.hid (HK.out.trans (RK.of_below HBT.out hltr))
          rw [hexA_end]
          cases hx : hexJ c with
          | none =>
            have HF : Hid (H = none) := Lib.hid (by
              rw [← HHJ.out]
              by_cases he : e = 0
              · rw [if_pos he]
                obtain ⟨g1, rfl⟩ : ∃ g1, g0 = g1 + 1 := ⟨g0 - 1, by omega⟩
                have hlk := HC.out
                unfold lookJ at hlk
                rw [if_neg (by simp [he])] at hlk
                cases hd : s.data.toList.drop a with
                | nil => rfl
                | cons b t =>
                  rw [hd, List.headD_cons] at hlk
                  rw [hexsJ, hlk, hx]
              · rw [if_neg he])
            have HFA : Hid (∀ W, RdR r s a v e W → Calls Tryz.prog 27 #[.pointer (some ⟨r, 0, none⟩), .int .i64 40] W fun x w' => x = .returned (.tuple #[]) ∧ RdR r s a v (if e = 0 then 40 else e) w' ∧ RK r W w') := Lib.hid fun W hW => rfail_any r s a v e 40 W hW
            clear hk1 hk2 hej hg hg' hx
            go_wp2_with fail
            refine (HFA.out _ HRT.out).mono ?_; rintro x w8 ⟨rfl, hr, hkk⟩
            have HE : Hid (RdR r s a v (if e = 0 then 40 else e) w8 ∧ RK r w w8) := Lib.hid ⟨hr, HKT.out.trans hkk⟩
            clear hr hkk
            go_wp2_with fail
            go_ret
            refine ⟨?_, HE.out.2⟩
            rw [HF.out]
            exact ⟨a, rfl, hal, HE.out.1⟩
          | some d =>
            have hd16 := hexJ_lt c d hx
            have hst : e = 0 ∧ a < s.size ∧ (∀ g n, hexsJ (g + 1) n (s.data.toList.drop a) = hexsJ g (n * 16 + d) (s.data.toList.drop (a + 1))) := by
              have hlk := HC.out
              by_cases he : e = 0
              · subst he
                by_cases hlt2 : a < s.size
                · rw [look_at s a hlt2] at hlk
                  refine ⟨rfl, hlt2, fun g n => ?_⟩
                  rw [drop_at s a hlt2, hexsJ, hlk, hx]
                · rw [look_out s a hlt2] at hlk
                  rw [← hlk] at hx; exact absurd hx (by rw [show hexJ 0 = none from by decide]; exact fun h => by cases h)
              · unfold lookJ at hlk
                rw [if_pos he] at hlk
                rw [← hlk] at hx; exact absurd hx (by rw [show hexJ 0 = none from by decide]; exact fun h => by cases h)
            obtain ⟨he0, hal2, hst⟩ := hst
            obtain ⟨g1, rfl⟩ : ∃ g1, g0 = g1 + 1 := ⟨g0 - 1, by omega⟩
            have HJN : Hid ((if e = 0 then hexsJ g1 (N * 16 + d) (s.data.toList.drop (a + 1)) else none) = H) := Lib.hid (by
              have := HHJ.out
              rw [if_pos he0, hst] at this
              rw [if_pos he0]; exact this)
            have HNN : Hid (N * 16 + d < 16 ^ (j + 1)) := Lib.hid (by
              have := HN.out
              rw [Nat.pow_succ]; omega)
            obtain ⟨c0, c1x, c2, c3⟩ := HRT.out.cells
            have f1 := HRT.out.frozen 1
            have hdn : decide ((d : Int) < 0) = false := decide_eq_false (by omega)
            clear hk1 hk2 hx hst
            go_wp2_with fail
            rw [show ((a : Int) + 1) = ((a + 1 : Nat) : Int) from by omega]
            have HRM := Lib.hid (HRT.out.at_ (a + 1))
            have HKM := Lib.hid (HKT.out.trans (RK.set r 1 _ (.int .i64 ((a + 1 : Nat) : Int))))
            go_roundg g1
            case measure => omega
            case rel => exact ⟨j + 1, a + 1, N * 16 + d, by go_num, by go_num, ⟨by omega, by omega⟩, by omega, HNN, Or.inl he0, HJN, HRM, HKM⟩
        · have hk15 : k < 16 := by omega
          have hkz : k < (⟨#[48, 49, 50, 51, 52, 53, 54, 55, 56, 57, 97, 98, 99, 100, 101, 102]⟩ : ByteArray).size := hk15
          have hat := hexB_at k hkz
          have HLB : Hid (∀ W, Below wt.heap.size wt W → Calls Tryz.prog 48 #[.pointer (some ⟨r, 0, none⟩)] W fun x w' => x = .returned (.int .u8 (c.toNat : Int)) ∧ Below W.heap.size W w') := Lib.hid fun W hW => HLA.out W (HBT.out.trans (hW.mono HBT.out.size))
          have HS0 : Hid (Below wt.heap.size wt wt) := Lib.hid (Below.refl _ _)
          have hsub : ((hexB k).toNat : Int) - 32 = ((hexB k - 32).toNat : Int) := by
            have := (by decide +kernel : ∀ i : Fin 16, ((hexB i.val).toNat : Int) - 32 = ((hexB i.val - 32).toNat : Int)) ⟨k, hk15⟩
            exact this
          by_cases h1 : c = hexB k
          · have hA : Hid (hexA c (k + 1) = (k : Int)) := Lib.hid (by
              rw [hexA, if_pos]; unfold hexM; rw [beq_iff_eq.2 h1]; rfl)
            have t1 : ((c.toNat : Int) == ((⟨#[48, 49, 50, 51, 52, 53, 54, 55, 56, 57, 97, 98, 99, 100, 101, 102]⟩ : ByteArray)[k].toNat : Int)) = true := by rw [hat, h1]; simp
            clear hsub h1 hat
            generalize (c.toNat : Int) = ci at *
            go_wp2_with fail
            refine wp_region_held_drew (S := fun W => Below wt.heap.size wt W) (by kernel_rfl) (by first | exact Below.refl _ _ | exact ⟨rfl, rfl, rfl, Nat.le_refl _, fun _ _ => rfl⟩) (fun hHeld => ?_)
            refine tky 0 (some 15) (v := ?_) rfl (by kernel_rfl) (by kernel_rfl) (by kernel_rfl) (fun _ _ _ h => h) ?_ hHeld ?_
            rotate_left
            focus (intro w hSw; (try dsimp only at hSw); go_simp; (try with_reducible rfl); done)
            simp only [Act.put, List.setIfInBounds_toArray, List.set_cons_zero, List.set_cons_succ]
            refine tky 2 (some 17) (v := ?_) rfl (by kernel_rfl) (by kernel_rfl) (by kernel_rfl) (fun _ _ _ h => h) ?_ hHeld ?_
            rotate_left
            focus (intro w hSw; (try dsimp only at hSw); go_simp; (try with_reducible rfl); done)
            simp only [Act.put, List.setIfInBounds_toArray, List.set_cons_zero, List.set_cons_succ]
            refine tky 3 (some 18) (v := ?_) rfl (by kernel_rfl) (by kernel_rfl) (by kernel_rfl) (fun _ _ _ h => h) ?_ hHeld ?_
            rotate_left
            focus (intro w hSw; (try dsimp only at hSw); go_simp; (try with_reducible rfl); done)
            simp only [Act.put, List.setIfInBounds_toArray, List.set_cons_zero, List.set_cons_succ]
            refine rcons 1 rfl (by kernel_rfl) (fun K hK => ?_)
            go_simp
            (refine (HLB.out _ hHeld).mono ?_; rintro x w5 ⟨rfl, hb⟩)
            (try dsimp only)
            refine hK.out _ _ (hHeld.trans (hb.mono hHeld.size)) (fun hHeld2 => ?_)
            clear hK K hHeld
            have hHeld := hHeld2
            clear hHeld2
            (try simp only [Act.put, List.setIfInBounds_toArray, List.set_cons_zero, List.set_cons_succ])
            refine tky 4 (some 19) (v := ?_) rfl (by kernel_rfl) (by kernel_rfl) (by kernel_rfl) (fun _ _ _ h => h) ?_ hHeld ?_
            rotate_left
            focus (intro w hSw; (try dsimp only at hSw); go_simp; (try with_reducible rfl); done)
            simp only [Act.put, List.setIfInBounds_toArray, List.set_cons_zero, List.set_cons_succ]
            refine tky 5 (some 20) (v := ?_) rfl (by kernel_rfl) (by kernel_rfl) (by kernel_rfl) (fun _ _ _ h => h) ?_ hHeld ?_
            rotate_left
            focus (intro w hSw; (try dsimp only at hSw); go_simp; (try with_reducible rfl); done)
            simp only [Act.put, List.setIfInBounds_toArray, List.set_cons_zero, List.set_cons_succ]
            refine tkn 6 (some 21) rfl (by kernel_rfl) (by kernel_rfl) (by kernel_rfl) (fun _ _ _ h => h) hHeld ?_
            simp only [Act.put, List.setIfInBounds_toArray, List.set_cons_zero, List.set_cons_succ]
            refine tkn 7 (some 22) rfl (by kernel_rfl) (by kernel_rfl) (by kernel_rfl) (fun _ _ _ h => h) hHeld ?_
            simp only [Act.put, List.setIfInBounds_toArray, List.set_cons_zero, List.set_cons_succ]
            refine tkn 8 (some 23) rfl (by kernel_rfl) (by kernel_rfl) (by kernel_rfl) (fun _ _ _ h => h) hHeld ?_
            simp only [Act.put, List.setIfInBounds_toArray, List.set_cons_zero, List.set_cons_succ]
            refine tkn 9 (some 24) rfl (by kernel_rfl) (by kernel_rfl) (by kernel_rfl) (fun _ _ _ h => h) hHeld ?_
            simp only [Act.put, List.setIfInBounds_toArray, List.set_cons_zero, List.set_cons_succ]
            refine tkn 10 (some 25) rfl (by kernel_rfl) (by kernel_rfl) (by kernel_rfl) (fun _ _ _ h => h) hHeld ?_
            simp only [Act.put, List.setIfInBounds_toArray, List.set_cons_zero, List.set_cons_succ]
            refine tkn 11 (some 26) rfl (by kernel_rfl) (by kernel_rfl) (by kernel_rfl) (fun _ _ _ h => h) hHeld ?_
            simp only [Act.put, List.setIfInBounds_toArray, List.set_cons_zero, List.set_cons_succ]
            refine tkn 12 (some 27) rfl (by kernel_rfl) (by kernel_rfl) (by kernel_rfl) (fun _ _ _ h => h) hHeld ?_
            simp only [Act.put, List.setIfInBounds_toArray, List.set_cons_zero, List.set_cons_succ]
            refine tkn 13 (some 28) rfl (by kernel_rfl) (by kernel_rfl) (by kernel_rfl) (fun _ _ _ h => h) hHeld ?_
            simp only [Act.put, List.setIfInBounds_toArray, List.set_cons_zero, List.set_cons_succ]
            refine tkn 14 (some 29) rfl (by kernel_rfl) (by kernel_rfl) (by kernel_rfl) (fun _ _ _ h => h) hHeld ?_
            simp only [Act.put, List.setIfInBounds_toArray, List.set_cons_zero, List.set_cons_succ]
            refine tkn 15 (some 30) rfl (by kernel_rfl) (by kernel_rfl) (by kernel_rfl) (fun _ _ _ h => h) hHeld ?_
            simp only [Act.put, List.setIfInBounds_toArray, List.set_cons_zero, List.set_cons_succ]
            refine tky 16 (some 31) (v := ?_) rfl (by kernel_rfl) (by kernel_rfl) (by kernel_rfl) (fun _ _ _ h => h) ?_ hHeld ?_
            rotate_left
            focus (intro w hSw; (try dsimp only at hSw); go_simp; (try with_reducible rfl); done)
            simp only [Act.put, List.setIfInBounds_toArray, List.set_cons_zero, List.set_cons_succ]
            refine wpAnyH_done (by kernel_rfl) ?_ _
            have HBN := Lib.hid (HBT.out.trans (hHeld.mono HBT.out.size))
            clear hHeld
            go_wp2_with fail
            go_roundg (gk - 1)
            case measure => omega
            case rel => exact ⟨k + 1, by first | rfl | rw [hA.out], by go_num, ⟨by omega, by omega⟩, HBN⟩
          · have t1 : ((c.toNat : Int) == ((⟨#[48, 49, 50, 51, 52, 53, 54, 55, 56, 57, 97, 98, 99, 100, 101, 102]⟩ : ByteArray)[k].toNat : Int)) = false := beq_eq_false_iff_ne.2 fun e => h1 (by rw [hat] at e; exact UInt8.toNat_inj.1 (by omega))
            by_cases h9 : 9 < k
            · have t2 : decide ((9 : Int) < (k : Int)) = true := decide_eq_true (by omega)
              have hv : ((⟨#[48, 49, 50, 51, 52, 53, 54, 55, 56, 57, 97, 98, 99, 100, 101, 102]⟩ : ByteArray)[k].toNat : Int) = 87 + (k : Int) := by
                rw [hat]
                have := (by decide +kernel : ∀ i : Fin 16, 9 < i.val → ((hexB i.val).toNat : Int) = 87 + (i.val : Int)) ⟨k, hk15⟩ h9
                exact this
              have hw : IntKind.u8.wrap (87 + (k : Int) - 32) = 87 + (k : Int) - 32 := (by decide +kernel : ∀ i : Fin 16, IntKind.u8.wrap (87 + (i.val : Int) - 32) = 87 + (i.val : Int) - 32) ⟨k, hk15⟩
              rw [hv] at t1
              by_cases h3 : c = hexB k - 32
              · have hA : Hid (hexA c (k + 1) = (k : Int)) := Lib.hid (by
                  rw [hexA, if_pos]; unfold hexM; rw [decide_eq_true h9, beq_iff_eq.2 h3]; simp)
                have t3 : ((c.toNat : Int) == IntKind.u8.wrap (87 + (k : Int) - 32)) = true := by
                  rw [hw, ← hv, hat, hsub]
                  rw [h3]; simp
                clear hsub h1 h3 hat hw
                generalize (c.toNat : Int) = ci at *
                go_wp2_with fail
                refine wp_region_held_drew (S := fun W => Below wt.heap.size wt W) (by kernel_rfl) (by first | exact Below.refl _ _ | exact ⟨rfl, rfl, rfl, Nat.le_refl _, fun _ _ => rfl⟩) (fun hHeld => ?_)
                refine tky 0 (some 15) (v := ?_) rfl (by kernel_rfl) (by kernel_rfl) (by kernel_rfl) (fun _ _ _ h => h) ?_ hHeld ?_
                rotate_left
                focus (intro w hSw; (try dsimp only at hSw); go_simp; (try with_reducible rfl); done)
                simp only [Act.put, List.setIfInBounds_toArray, List.set_cons_zero, List.set_cons_succ]
                refine tky 2 (some 17) (v := ?_) rfl (by kernel_rfl) (by kernel_rfl) (by kernel_rfl) (fun _ _ _ h => h) ?_ hHeld ?_
                rotate_left
                focus (intro w hSw; (try dsimp only at hSw); go_simp; (try with_reducible rfl); done)
                simp only [Act.put, List.setIfInBounds_toArray, List.set_cons_zero, List.set_cons_succ]
                refine tky 3 (some 18) (v := ?_) rfl (by kernel_rfl) (by kernel_rfl) (by kernel_rfl) (fun _ _ _ h => h) ?_ hHeld ?_
                rotate_left
                focus (intro w hSw; (try dsimp only at hSw); go_simp; (try with_reducible rfl); done)
                simp only [Act.put, List.setIfInBounds_toArray, List.set_cons_zero, List.set_cons_succ]
                refine rcons 1 rfl (by kernel_rfl) (fun K hK => ?_)
                go_simp
                (refine (HLB.out _ hHeld).mono ?_; rintro x w5 ⟨rfl, hb⟩)
                (try dsimp only)
                refine hK.out _ _ (hHeld.trans (hb.mono hHeld.size)) (fun hHeld2 => ?_)
                clear hK K hHeld
                have hHeld := hHeld2
                clear hHeld2
                (try simp only [Act.put, List.setIfInBounds_toArray, List.set_cons_zero, List.set_cons_succ])
                refine tky 4 (some 19) (v := ?_) rfl (by kernel_rfl) (by kernel_rfl) (by kernel_rfl) (fun _ _ _ h => h) ?_ hHeld ?_
                rotate_left
                focus (intro w hSw; (try dsimp only at hSw); go_simp; (try with_reducible rfl); done)
                simp only [Act.put, List.setIfInBounds_toArray, List.set_cons_zero, List.set_cons_succ]
                refine tky 5 (some 20) (v := ?_) rfl (by kernel_rfl) (by kernel_rfl) (by kernel_rfl) (fun _ _ _ h => h) ?_ hHeld ?_
                rotate_left
                focus (intro w hSw; (try dsimp only at hSw); go_simp; (try with_reducible rfl); done)
                simp only [Act.put, List.setIfInBounds_toArray, List.set_cons_zero, List.set_cons_succ]
                refine tky 6 (some 21) (v := ?_) rfl (by kernel_rfl) (by kernel_rfl) (by kernel_rfl) (fun _ _ _ h => h) ?_ hHeld ?_
                rotate_left
                focus (intro w hSw; (try dsimp only at hSw); go_simp; (try with_reducible rfl); done)
                simp only [Act.put, List.setIfInBounds_toArray, List.set_cons_zero, List.set_cons_succ]
                refine tky 7 (some 22) (v := ?_) rfl (by kernel_rfl) (by kernel_rfl) (by kernel_rfl) (fun _ _ _ h => h) ?_ hHeld ?_
                rotate_left
                focus (intro w hSw; (try dsimp only at hSw); go_simp; (try with_reducible rfl); done)
                simp only [Act.put, List.setIfInBounds_toArray, List.set_cons_zero, List.set_cons_succ]
                refine tky 8 (some 23) (v := ?_) rfl (by kernel_rfl) (by kernel_rfl) (by kernel_rfl) (fun _ _ _ h => h) ?_ hHeld ?_
                rotate_left
                focus (intro w hSw; (try dsimp only at hSw); go_simp; (try with_reducible rfl); done)
                simp only [Act.put, List.setIfInBounds_toArray, List.set_cons_zero, List.set_cons_succ]
                refine tky 9 (some 24) (v := ?_) rfl (by kernel_rfl) (by kernel_rfl) (by kernel_rfl) (fun _ _ _ h => h) ?_ hHeld ?_
                rotate_left
                focus (intro w hSw; (try dsimp only at hSw); go_simp; (try with_reducible rfl); done)
                simp only [Act.put, List.setIfInBounds_toArray, List.set_cons_zero, List.set_cons_succ]
                refine tky 11 (some 26) (v := ?_) rfl (by kernel_rfl) (by kernel_rfl) (by kernel_rfl) (fun _ _ _ h => h) ?_ hHeld ?_
                rotate_left
                focus (intro w hSw; (try dsimp only at hSw); go_simp; (try with_reducible rfl); done)
                simp only [Act.put, List.setIfInBounds_toArray, List.set_cons_zero, List.set_cons_succ]
                refine tky 12 (some 27) (v := ?_) rfl (by kernel_rfl) (by kernel_rfl) (by kernel_rfl) (fun _ _ _ h => h) ?_ hHeld ?_
                rotate_left
                focus (intro w hSw; (try dsimp only at hSw); go_simp; (try with_reducible rfl); done)
                simp only [Act.put, List.setIfInBounds_toArray, List.set_cons_zero, List.set_cons_succ]
                refine tky 13 (some 28) (v := ?_) rfl (by kernel_rfl) (by kernel_rfl) (by kernel_rfl) (fun _ _ _ h => h) ?_ hHeld ?_
                rotate_left
                focus (intro w hSw; (try dsimp only at hSw); go_simp; (try with_reducible rfl); done)
                simp only [Act.put, List.setIfInBounds_toArray, List.set_cons_zero, List.set_cons_succ]
                refine rcons 10 rfl (by kernel_rfl) (fun K hK => ?_)
                go_simp
                (refine (HLB.out _ hHeld).mono ?_; rintro x w5 ⟨rfl, hb⟩)
                (try dsimp only)
                refine hK.out _ _ (hHeld.trans (hb.mono hHeld.size)) (fun hHeld2 => ?_)
                clear hK K hHeld
                have hHeld := hHeld2
                clear hHeld2
                (try simp only [Act.put, List.setIfInBounds_toArray, List.set_cons_zero, List.set_cons_succ])
                refine tky 14 (some 29) (v := ?_) rfl (by kernel_rfl) (by kernel_rfl) (by kernel_rfl) (fun _ _ _ h => h) ?_ hHeld ?_
                rotate_left
                focus (intro w hSw; (try dsimp only at hSw); go_simp; (try with_reducible rfl); done)
                simp only [Act.put, List.setIfInBounds_toArray, List.set_cons_zero, List.set_cons_succ]
                refine tky 15 (some 30) (v := ?_) rfl (by kernel_rfl) (by kernel_rfl) (by kernel_rfl) (fun _ _ _ h => h) ?_ hHeld ?_
                rotate_left
                focus (intro w hSw; (try dsimp only at hSw); go_simp; (try with_reducible rfl); done)
                simp only [Act.put, List.setIfInBounds_toArray, List.set_cons_zero, List.set_cons_succ]
                refine tky 16 (some 31) (v := ?_) rfl (by kernel_rfl) (by kernel_rfl) (by kernel_rfl) (fun _ _ _ h => h) ?_ hHeld ?_
                rotate_left
                focus (intro w hSw; (try dsimp only at hSw); go_simp; (try with_reducible rfl); done)
                simp only [Act.put, List.setIfInBounds_toArray, List.set_cons_zero, List.set_cons_succ]
                refine wpAnyH_done (by kernel_rfl) ?_ _
                have HBN := Lib.hid (HBT.out.trans (hHeld.mono HBT.out.size))
                clear hHeld
                go_wp2_with fail
                go_roundg (gk - 1)
                case measure => omega
                case rel => exact ⟨k + 1, by first | rfl | rw [hA.out], by go_num, ⟨by omega, by omega⟩, HBN⟩
              · have hA : Hid (hexA c (k + 1) = hexA c k) := Lib.hid (by
                  rw [hexA, if_neg]; unfold hexM; rw [beq_eq_false_iff_ne.2 h1, beq_eq_false_iff_ne.2 h3]; simp)
                have t3 : ((c.toNat : Int) == IntKind.u8.wrap (87 + (k : Int) - 32)) = false := by
                  rw [hw, ← hv, hat, hsub]
                  exact beq_eq_false_iff_ne.2 fun e => h3 (UInt8.toNat_inj.1 (by omega))
                clear hsub h1 h3 hat hw
                generalize (c.toNat : Int) = ci at *
                go_wp2_with fail
                refine wp_region_held_drew (S := fun W => Below wt.heap.size wt W) (by kernel_rfl) (by first | exact Below.refl _ _ | exact ⟨rfl, rfl, rfl, Nat.le_refl _, fun _ _ => rfl⟩) (fun hHeld => ?_)
                refine tky 0 (some 15) (v := ?_) rfl (by kernel_rfl) (by kernel_rfl) (by kernel_rfl) (fun _ _ _ h => h) ?_ hHeld ?_
                rotate_left
                focus (intro w hSw; (try dsimp only at hSw); go_simp; (try with_reducible rfl); done)
                simp only [Act.put, List.setIfInBounds_toArray, List.set_cons_zero, List.set_cons_succ]
                refine tky 2 (some 17) (v := ?_) rfl (by kernel_rfl) (by kernel_rfl) (by kernel_rfl) (fun _ _ _ h => h) ?_ hHeld ?_
                rotate_left
                focus (intro w hSw; (try dsimp only at hSw); go_simp; (try with_reducible rfl); done)
                simp only [Act.put, List.setIfInBounds_toArray, List.set_cons_zero, List.set_cons_succ]
                refine tky 3 (some 18) (v := ?_) rfl (by kernel_rfl) (by kernel_rfl) (by kernel_rfl) (fun _ _ _ h => h) ?_ hHeld ?_
                rotate_left
                focus (intro w hSw; (try dsimp only at hSw); go_simp; (try with_reducible rfl); done)
                simp only [Act.put, List.setIfInBounds_toArray, List.set_cons_zero, List.set_cons_succ]
                refine rcons 1 rfl (by kernel_rfl) (fun K hK => ?_)
                go_simp
                (refine (HLB.out _ hHeld).mono ?_; rintro x w5 ⟨rfl, hb⟩)
                (try dsimp only)
                refine hK.out _ _ (hHeld.trans (hb.mono hHeld.size)) (fun hHeld2 => ?_)
                clear hK K hHeld
                have hHeld := hHeld2
                clear hHeld2
                (try simp only [Act.put, List.setIfInBounds_toArray, List.set_cons_zero, List.set_cons_succ])
                refine tky 4 (some 19) (v := ?_) rfl (by kernel_rfl) (by kernel_rfl) (by kernel_rfl) (fun _ _ _ h => h) ?_ hHeld ?_
                rotate_left
                focus (intro w hSw; (try dsimp only at hSw); go_simp; (try with_reducible rfl); done)
                simp only [Act.put, List.setIfInBounds_toArray, List.set_cons_zero, List.set_cons_succ]
                refine tky 5 (some 20) (v := ?_) rfl (by kernel_rfl) (by kernel_rfl) (by kernel_rfl) (fun _ _ _ h => h) ?_ hHeld ?_
                rotate_left
                focus (intro w hSw; (try dsimp only at hSw); go_simp; (try with_reducible rfl); done)
                simp only [Act.put, List.setIfInBounds_toArray, List.set_cons_zero, List.set_cons_succ]
                refine tky 6 (some 21) (v := ?_) rfl (by kernel_rfl) (by kernel_rfl) (by kernel_rfl) (fun _ _ _ h => h) ?_ hHeld ?_
                rotate_left
                focus (intro w hSw; (try dsimp only at hSw); go_simp; (try with_reducible rfl); done)
                simp only [Act.put, List.setIfInBounds_toArray, List.set_cons_zero, List.set_cons_succ]
                refine tky 7 (some 22) (v := ?_) rfl (by kernel_rfl) (by kernel_rfl) (by kernel_rfl) (fun _ _ _ h => h) ?_ hHeld ?_
                rotate_left
                focus (intro w hSw; (try dsimp only at hSw); go_simp; (try with_reducible rfl); done)
                simp only [Act.put, List.setIfInBounds_toArray, List.set_cons_zero, List.set_cons_succ]
                refine tky 8 (some 23) (v := ?_) rfl (by kernel_rfl) (by kernel_rfl) (by kernel_rfl) (fun _ _ _ h => h) ?_ hHeld ?_
                rotate_left
                focus (intro w hSw; (try dsimp only at hSw); go_simp; (try with_reducible rfl); done)
                simp only [Act.put, List.setIfInBounds_toArray, List.set_cons_zero, List.set_cons_succ]
                refine tky 9 (some 24) (v := ?_) rfl (by kernel_rfl) (by kernel_rfl) (by kernel_rfl) (fun _ _ _ h => h) ?_ hHeld ?_
                rotate_left
                focus (intro w hSw; (try dsimp only at hSw); go_simp; (try with_reducible rfl); done)
                simp only [Act.put, List.setIfInBounds_toArray, List.set_cons_zero, List.set_cons_succ]
                refine tky 11 (some 26) (v := ?_) rfl (by kernel_rfl) (by kernel_rfl) (by kernel_rfl) (fun _ _ _ h => h) ?_ hHeld ?_
                rotate_left
                focus (intro w hSw; (try dsimp only at hSw); go_simp; (try with_reducible rfl); done)
                simp only [Act.put, List.setIfInBounds_toArray, List.set_cons_zero, List.set_cons_succ]
                refine tky 12 (some 27) (v := ?_) rfl (by kernel_rfl) (by kernel_rfl) (by kernel_rfl) (fun _ _ _ h => h) ?_ hHeld ?_
                rotate_left
                focus (intro w hSw; (try dsimp only at hSw); go_simp; (try with_reducible rfl); done)
                simp only [Act.put, List.setIfInBounds_toArray, List.set_cons_zero, List.set_cons_succ]
                refine tky 13 (some 28) (v := ?_) rfl (by kernel_rfl) (by kernel_rfl) (by kernel_rfl) (fun _ _ _ h => h) ?_ hHeld ?_
                rotate_left
                focus (intro w hSw; (try dsimp only at hSw); go_simp; (try with_reducible rfl); done)
                simp only [Act.put, List.setIfInBounds_toArray, List.set_cons_zero, List.set_cons_succ]
                refine rcons 10 rfl (by kernel_rfl) (fun K hK => ?_)
                go_simp
                (refine (HLB.out _ hHeld).mono ?_; rintro x w5 ⟨rfl, hb⟩)
                (try dsimp only)
                refine hK.out _ _ (hHeld.trans (hb.mono hHeld.size)) (fun hHeld2 => ?_)
                clear hK K hHeld
                have hHeld := hHeld2
                clear hHeld2
                (try simp only [Act.put, List.setIfInBounds_toArray, List.set_cons_zero, List.set_cons_succ])
                refine tky 14 (some 29) (v := ?_) rfl (by kernel_rfl) (by kernel_rfl) (by kernel_rfl) (fun _ _ _ h => h) ?_ hHeld ?_
                rotate_left
                focus (intro w hSw; (try dsimp only at hSw); go_simp; (try with_reducible rfl); done)
                simp only [Act.put, List.setIfInBounds_toArray, List.set_cons_zero, List.set_cons_succ]
                refine tky 15 (some 30) (v := ?_) rfl (by kernel_rfl) (by kernel_rfl) (by kernel_rfl) (fun _ _ _ h => h) ?_ hHeld ?_
                rotate_left
                focus (intro w hSw; (try dsimp only at hSw); go_simp; (try with_reducible rfl); done)
                simp only [Act.put, List.setIfInBounds_toArray, List.set_cons_zero, List.set_cons_succ]
                refine tky 16 (some 31) (v := ?_) rfl (by kernel_rfl) (by kernel_rfl) (by kernel_rfl) (fun _ _ _ h => h) ?_ hHeld ?_
                rotate_left
                focus (intro w hSw; (try dsimp only at hSw); go_simp; (try with_reducible rfl); done)
                simp only [Act.put, List.setIfInBounds_toArray, List.set_cons_zero, List.set_cons_succ]
                refine wpAnyH_done (by kernel_rfl) ?_ _
                have HBN := Lib.hid (HBT.out.trans (hHeld.mono HBT.out.size))
                clear hHeld
                go_wp2_with fail
                go_roundg (gk - 1)
                case measure => omega
                case rel => exact ⟨k + 1, by first | rfl | rw [hA.out], by go_num, ⟨by omega, by omega⟩, HBN⟩
            · have t2 : decide ((9 : Int) < (k : Int)) = false := decide_eq_false (by omega)
              have hA : Hid (hexA c (k + 1) = hexA c k) := Lib.hid (by
                rw [hexA, if_neg]; unfold hexM; rw [beq_eq_false_iff_ne.2 h1, decide_eq_false h9]; simp)
              clear hsub h1 hat
              generalize (c.toNat : Int) = ci at *
              go_wp2_with fail
              refine wp_region_held_drew (S := fun W => Below wt.heap.size wt W) (by kernel_rfl) (by first | exact Below.refl _ _ | exact ⟨rfl, rfl, rfl, Nat.le_refl _, fun _ _ => rfl⟩) (fun hHeld => ?_)
              refine tky 0 (some 15) (v := ?_) rfl (by kernel_rfl) (by kernel_rfl) (by kernel_rfl) (fun _ _ _ h => h) ?_ hHeld ?_
              rotate_left
              focus (intro w hSw; (try dsimp only at hSw); go_simp; (try with_reducible rfl); done)
              simp only [Act.put, List.setIfInBounds_toArray, List.set_cons_zero, List.set_cons_succ]
              refine tky 2 (some 17) (v := ?_) rfl (by kernel_rfl) (by kernel_rfl) (by kernel_rfl) (fun _ _ _ h => h) ?_ hHeld ?_
              rotate_left
              focus (intro w hSw; (try dsimp only at hSw); go_simp; (try with_reducible rfl); done)
              simp only [Act.put, List.setIfInBounds_toArray, List.set_cons_zero, List.set_cons_succ]
              refine tky 3 (some 18) (v := ?_) rfl (by kernel_rfl) (by kernel_rfl) (by kernel_rfl) (fun _ _ _ h => h) ?_ hHeld ?_
              rotate_left
              focus (intro w hSw; (try dsimp only at hSw); go_simp; (try with_reducible rfl); done)
              simp only [Act.put, List.setIfInBounds_toArray, List.set_cons_zero, List.set_cons_succ]
              refine rcons 1 rfl (by kernel_rfl) (fun K hK => ?_)
              go_simp
              (refine (HLB.out _ hHeld).mono ?_; rintro x w5 ⟨rfl, hb⟩)
              (try dsimp only)
              refine hK.out _ _ (hHeld.trans (hb.mono hHeld.size)) (fun hHeld2 => ?_)
              clear hK K hHeld
              have hHeld := hHeld2
              clear hHeld2
              (try simp only [Act.put, List.setIfInBounds_toArray, List.set_cons_zero, List.set_cons_succ])
              refine tky 4 (some 19) (v := ?_) rfl (by kernel_rfl) (by kernel_rfl) (by kernel_rfl) (fun _ _ _ h => h) ?_ hHeld ?_
              rotate_left
              focus (intro w hSw; (try dsimp only at hSw); go_simp; (try with_reducible rfl); done)
              simp only [Act.put, List.setIfInBounds_toArray, List.set_cons_zero, List.set_cons_succ]
              refine tky 5 (some 20) (v := ?_) rfl (by kernel_rfl) (by kernel_rfl) (by kernel_rfl) (fun _ _ _ h => h) ?_ hHeld ?_
              rotate_left
              focus (intro w hSw; (try dsimp only at hSw); go_simp; (try with_reducible rfl); done)
              simp only [Act.put, List.setIfInBounds_toArray, List.set_cons_zero, List.set_cons_succ]
              refine tky 6 (some 21) (v := ?_) rfl (by kernel_rfl) (by kernel_rfl) (by kernel_rfl) (fun _ _ _ h => h) ?_ hHeld ?_
              rotate_left
              focus (intro w hSw; (try dsimp only at hSw); go_simp; (try with_reducible rfl); done)
              simp only [Act.put, List.setIfInBounds_toArray, List.set_cons_zero, List.set_cons_succ]
              refine tky 7 (some 22) (v := ?_) rfl (by kernel_rfl) (by kernel_rfl) (by kernel_rfl) (fun _ _ _ h => h) ?_ hHeld ?_
              rotate_left
              focus (intro w hSw; (try dsimp only at hSw); go_simp; (try with_reducible rfl); done)
              simp only [Act.put, List.setIfInBounds_toArray, List.set_cons_zero, List.set_cons_succ]
              refine tky 8 (some 23) (v := ?_) rfl (by kernel_rfl) (by kernel_rfl) (by kernel_rfl) (fun _ _ _ h => h) ?_ hHeld ?_
              rotate_left
              focus (intro w hSw; (try dsimp only at hSw); go_simp; (try with_reducible rfl); done)
              simp only [Act.put, List.setIfInBounds_toArray, List.set_cons_zero, List.set_cons_succ]
              refine tkn 9 (some 24) rfl (by kernel_rfl) (by kernel_rfl) (by kernel_rfl) (fun _ _ _ h => h) hHeld ?_
              simp only [Act.put, List.setIfInBounds_toArray, List.set_cons_zero, List.set_cons_succ]
              refine tkn 10 (some 25) rfl (by kernel_rfl) (by kernel_rfl) (by kernel_rfl) (fun _ _ _ h => h) hHeld ?_
              simp only [Act.put, List.setIfInBounds_toArray, List.set_cons_zero, List.set_cons_succ]
              refine tkn 11 (some 26) rfl (by kernel_rfl) (by kernel_rfl) (by kernel_rfl) (fun _ _ _ h => h) hHeld ?_
              simp only [Act.put, List.setIfInBounds_toArray, List.set_cons_zero, List.set_cons_succ]
              refine tkn 12 (some 27) rfl (by kernel_rfl) (by kernel_rfl) (by kernel_rfl) (fun _ _ _ h => h) hHeld ?_
              simp only [Act.put, List.setIfInBounds_toArray, List.set_cons_zero, List.set_cons_succ]
              refine tkn 13 (some 28) rfl (by kernel_rfl) (by kernel_rfl) (by kernel_rfl) (fun _ _ _ h => h) hHeld ?_
              simp only [Act.put, List.setIfInBounds_toArray, List.set_cons_zero, List.set_cons_succ]
              refine tkn 14 (some 29) rfl (by kernel_rfl) (by kernel_rfl) (by kernel_rfl) (fun _ _ _ h => h) hHeld ?_
              simp only [Act.put, List.setIfInBounds_toArray, List.set_cons_zero, List.set_cons_succ]
              refine tky 15 (some 30) (v := ?_) rfl (by kernel_rfl) (by kernel_rfl) (by kernel_rfl) (fun _ _ _ h => h) ?_ hHeld ?_
              rotate_left
              focus (intro w hSw; (try dsimp only at hSw); go_simp; (try with_reducible rfl); done)
              simp only [Act.put, List.setIfInBounds_toArray, List.set_cons_zero, List.set_cons_succ]
              refine tky 16 (some 31) (v := ?_) rfl (by kernel_rfl) (by kernel_rfl) (by kernel_rfl) (fun _ _ _ h => h) ?_ hHeld ?_
              rotate_left
              focus (intro w hSw; (try dsimp only at hSw); go_simp; (try with_reducible rfl); done)
              simp only [Act.put, List.setIfInBounds_toArray, List.set_cons_zero, List.set_cons_succ]
              refine wpAnyH_done (by kernel_rfl) ?_ _
              have HBN := Lib.hid (HBT.out.trans (hHeld.mono HBT.out.size))
              clear hHeld
              go_wp2_with fail
              go_roundg (gk - 1)
              case measure => omega
              case rel => exact ⟨k + 1, by first | rfl | rw [hA.out], by go_num, ⟨by omega, by omega⟩, HBN⟩
end Go.Proofs.YtglhanblbojkhaaGreatDoor
