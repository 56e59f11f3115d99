/- The reference's greatSels, Great (documents): what is not great is small. -/
import Derived.Test.YtbejhdhhkpllfaaGreatDoorDq
import Derived.Test.YtbejhdhhkpllfaaGreatDoorXi
set_option linter.unusedSimpArgs false
set_option linter.unusedVariables false
namespace Go.Proofs.YtbejhdhhkpllfaaGreatDoor
open Go.RowKit
def NGS (x : SelD) : Prop := greatAB x.args = false ∧ greatDB x.dirs = false
def NGSs (L : List SelD) : Prop := L.length ≤ 60 ∧ ∀ x ∈ L, NGS x
def NGO (x : OpD) : Prop := NGIs x.vars ∧ NGSs x.sels ∧ x.name.length ≤ 300
def NGFr (x : FrgD) : Prop := NGSs x.sels
def NGDoc (x : DocD) : Prop := x.ops.length ≤ 10 ∧ x.frags.length ≤ 10 ∧ (∀ y ∈ x.ops, NGO y) ∧ ∀ y ∈ x.frags, NGFr y
theorem gargs_any (A : List ArgD) (u : Value) (w : World) (hr : ArgSl u A w) (hb : ArgB A) :
    Calls Tryz.prog 33 #[u] w fun e w' => e = .returned (.bool (greatAB A)) ∧ w = w' :=
  greatargs_any A u hb.1 w hr fun x hx => ⟨(hb.2 x hx).1, (hb.2 x hx).2.1, fun c hc => ⟨((hb.2 x hx).2.2 c hc).1, ((hb.2 x hx).2.2 c hc).2.1⟩⟩
set_option maxRecDepth 100000 in
set_option maxHeartbeats 8000000 in
theorem gsels_row (L : List SelD) (b off cap : Nat) (hl : L.length ≤ 9223372036854775807) (w : World) (hrow : RowG 6 SelE ⟨b, off, none⟩ L w) (hsz : ∀ x ∈ L, SelB x) :
    Calls Tryz.prog 10 #[.slice (some ⟨b, off, none⟩) L.length cap] w (GreatR (NGSs L) w) := by
  have HROW := Lib.hid hrow
  have HS := Lib.hid hsz
  have HZ0 : Hid (∀ x ∈ L.take 0, NGS x) := Lib.hid (fun x hx => by cases hx)
  obtain ⟨n, hn⟩ : ∃ n, L.length = n := ⟨_, rfl⟩
  have HN := Lib.hid hn
  rw [hn] at hl ⊢
  clear hrow hsz hn
  go_enter Tryz.func10, Tryz.ntmps10
  go_wp2_with fail
  go_loopw [3] (fun iv wr => ∃ i : Nat, i ≤ n ∧ i ≤ 100 ∧ iv = .int .i64 (i : Int) ∧ Hid (∀ x ∈ L.take i, NGS x) ∧ Hid (Below w.heap.size w wr)) (fun iv wr => n - (intOf iv).toNat)
  case atStart => exact ⟨0, Nat.zero_le _, Nat.zero_le _, rfl, HZ0, Lib.hid (Below.refl _ _)⟩
  case round =>
    clear HZ0
    rename World => wr
    obtain ⟨i, hi, hi30, rfl, HQ, HB⟩ := hrel
    by_cases hin : i < n
    · by_cases h30 : i < 100
      · have hil : i < L.length := by have := HN.out; omega
        obtain ⟨y0, y1, y2, y3, y4, y5, q0, q1, q2, q3, q4, q5, yy, yz⟩ := Sel_at (RowG.below HROW.out fun _ _ h => SelE.below h HB.out) i hil
        obtain ⟨s1, s2, s3, s4, s5⟩ := HS.out L[i] (List.getElem_mem hil)
        obtain ⟨t0, ht0⟩ : ∃ t, greatAB L[i].args = t := ⟨_, rfl⟩
        obtain ⟨t1, ht1⟩ : ∃ t, greatDB L[i].dirs = t := ⟨_, rfl⟩
        have HC0 := Lib.hid fun W (hW : Below wr.heap.size wr W) => gargs_any L[i].args _ W (ArgSl.below yy hW) s3
        have HC1 := Lib.hid fun W (hW : Below wr.heap.size wr W) => gdirs_any L[i].dirs _ W (DirSlc.below yz hW) s4
        rw [ht0] at HC0
        rw [ht1] at HC1
        have HNG : Hid (t0 = false → t1 = false → NGS L[i]) := Lib.hid fun a c => ⟨ht0.trans a, ht1.trans c⟩
        have z0 : L[i].als.length = (⟨L[i].als.toArray⟩ : ByteArray).size := by simp [ByteArray.size]
        have z1 : L[i].name.length = (⟨L[i].name.toArray⟩ : ByteArray).size := by simp [ByteArray.size]
        rw [z0] at s1
        rw [z1] at s2
        clear yy yz s3 s4 s5 z0 z1
        generalize (⟨L[i].als.toArray⟩ : ByteArray) = x0 at *
        generalize (⟨L[i].name.toArray⟩ : ByteArray) = x1 at *
        generalize (L[i].kind.toNat : Int) = kk at *
        generalize L[i].many = mm at *
        clear ht0 ht1
        have i1 : (i : Int).toNat = i := by omega
        have i2 : (0 : Int) ≤ (i : Int) := by omega
        have i3 : (i : Int) < (n : Int) := by omega
        have i5 : (i : Int) < 100 := by omega
        have MK : Hid (∀ W, Below wr.heap.size wr W → (fun W => Below wr.heap.size wr W ∧ W.cell? ⟨b, off + i * 6, none⟩ = some (.int .u8 kk) ∧ W.cell? ⟨b, off + i * 6 + 1, none⟩ = some (.string x0) ∧ W.cell? ⟨b, off + i * 6 + 2, none⟩ = some (.string x1) ∧ W.cell? ⟨b, off + i * 6 + 3, none⟩ = some (.slice y0 y1 y2) ∧ W.cell? ⟨b, off + i * 6 + 4, none⟩ = some (.slice y3 y4 y5) ∧ W.cell? ⟨b, off + i * 6 + 5, none⟩ = some (.int .i64 mm)) W) := Lib.hid fun W hW => ⟨hW, (hW.cell (p := ⟨_, _, none⟩) (lt_of_cell q0)).trans q0, (hW.cell (p := ⟨_, _, none⟩) (lt_of_cell q1)).trans q1, (hW.cell (p := ⟨_, _, none⟩) (lt_of_cell q2)).trans q2, (hW.cell (p := ⟨_, _, none⟩) (lt_of_cell q3)).trans q3, (hW.cell (p := ⟨_, _, none⟩) (lt_of_cell q4)).trans q4, (hW.cell (p := ⟨_, _, none⟩) (lt_of_cell q5)).trans q5⟩
        have pb := lt_of_cell q0
        clear q0 q1 q2 q3 q4 q5
        go_upto_region 4 with fail
        refine wp_region_held_drew (S := fun W => Below wr.heap.size wr W ∧ W.cell? ⟨b, off + i * 6, none⟩ = some (.int .u8 kk) ∧ W.cell? ⟨b, off + i * 6 + 1, none⟩ = some (.string x0) ∧ W.cell? ⟨b, off + i * 6 + 2, none⟩ = some (.string x1) ∧ W.cell? ⟨b, off + i * 6 + 3, none⟩ = some (.slice y0 y1 y2) ∧ W.cell? ⟨b, off + i * 6 + 4, none⟩ = some (.slice y3 y4 y5) ∧ W.cell? ⟨b, off + i * 6 + 5, none⟩ = some (.int .i64 mm)) (by kernel_rfl) (MK.out _ ⟨rfl, rfl, rfl, Nat.le_refl _, fun _ _ => rfl⟩) (fun hHeld => ?_)
        refine tky 0 (some 14) (v := ?_) rfl (by kernel_rfl) (by kernel_rfl) (by kernel_rfl) (fun _ _ _ h => h) ?_ hHeld ?_
        rotate_left
        focus (intro w hSw; (try dsimp only at hSw); go_simp; (try with_reducible rfl); done)
        simp only [Act.put, List.setIfInBounds_toArray, List.set_cons_zero, List.set_cons_succ]
        refine tky 1 (some 15) (v := ?_) rfl (by kernel_rfl) (by kernel_rfl) (by kernel_rfl) (fun _ _ _ h => h) ?_ hHeld ?_
        rotate_left
        focus (intro w hSw; (try dsimp only at hSw); go_simp; (try with_reducible rfl); done)
        simp only [Act.put, List.setIfInBounds_toArray, List.set_cons_zero, List.set_cons_succ]
        refine tky 2 (some 16) (v := ?_) rfl (by kernel_rfl) (by kernel_rfl) (by kernel_rfl) (fun _ _ _ h => h) ?_ hHeld ?_
        rotate_left
        focus (intro w hSw; (try dsimp only at hSw); go_simp; (try with_reducible rfl); done)
        simp only [Act.put, List.setIfInBounds_toArray, List.set_cons_zero, List.set_cons_succ]
        refine tky 3 (some 17) (v := ?_) rfl (by kernel_rfl) (by kernel_rfl) (by kernel_rfl) (fun _ _ _ h => h) ?_ hHeld ?_
        rotate_left
        focus (intro w hSw; (try dsimp only at hSw); go_simp; (try with_reducible rfl); done)
        simp only [Act.put, List.setIfInBounds_toArray, List.set_cons_zero, List.set_cons_succ]
        refine tky 4 (some 18) (v := ?_) rfl (by kernel_rfl) (by kernel_rfl) (by kernel_rfl) (fun _ _ _ h => h) ?_ hHeld ?_
        rotate_left
        focus (intro w hSw; (try dsimp only at hSw); go_simp; (try with_reducible rfl); done)
        simp only [Act.put, List.setIfInBounds_toArray, List.set_cons_zero, List.set_cons_succ]
        cases t0 with
        | false =>
          refine rcons 5 rfl (by kernel_rfl) (fun K hK => ?_)
          go_simp
          refine (HC0.out _ hHeld.1).mono ?_; rintro e w5 ⟨rfl, rfl⟩
          (try dsimp only)
          refine hK.out _ _ (hHeld) (fun hHeld2 => ?_)
          clear hK K hHeld
          have hHeld := hHeld2
          clear hHeld2
          (try simp only [Act.put, List.setIfInBounds_toArray, List.set_cons_zero, List.set_cons_succ])
          refine tks (fun _ d _ _ _ h => by cases d <;> exact h) hHeld [(6, some 20, some false)] 23 (by kernel_rfl) rfl ?_
          simp only [lstBy, actBy, vOf, Act.put, List.setIfInBounds_toArray, List.set_cons_zero, List.set_cons_succ]
          refine tky 7 (some 21) (v := ?_) rfl (by kernel_rfl) (by kernel_rfl) (by kernel_rfl) (fun _ _ _ h => h) ?_ hHeld ?_
          rotate_left
          focus (intro w hSw; (try dsimp only at hSw); go_simp; (try with_reducible rfl); done)
          simp only [Act.put, List.setIfInBounds_toArray, List.set_cons_zero, List.set_cons_succ]
          refine tky 8 (some 22) (v := ?_) rfl (by kernel_rfl) (by kernel_rfl) (by kernel_rfl) (fun _ _ _ h => h) ?_ hHeld ?_
          rotate_left
          focus (intro w hSw; (try dsimp only at hSw); go_simp; (try with_reducible rfl); done)
          simp only [Act.put, List.setIfInBounds_toArray, List.set_cons_zero, List.set_cons_succ]
          refine tky 9 (some 23) (v := ?_) rfl (by kernel_rfl) (by kernel_rfl) (by kernel_rfl) (fun _ _ _ h => h) ?_ hHeld ?_
          rotate_left
          focus (intro w hSw; (try dsimp only at hSw); go_simp; (try with_reducible rfl); done)
          simp only [Act.put, List.setIfInBounds_toArray, List.set_cons_zero, List.set_cons_succ]
          refine tky 10 (some 24) (v := ?_) rfl (by kernel_rfl) (by kernel_rfl) (by kernel_rfl) (fun _ _ _ h => h) ?_ hHeld ?_
          rotate_left
          focus (intro w hSw; (try dsimp only at hSw); go_simp; (try with_reducible rfl); done)
          simp only [Act.put, List.setIfInBounds_toArray, List.set_cons_zero, List.set_cons_succ]
          refine tky 11 (some 25) (v := ?_) rfl (by kernel_rfl) (by kernel_rfl) (by kernel_rfl) (fun _ _ _ h => h) ?_ hHeld ?_
          rotate_left
          focus (intro w hSw; (try dsimp only at hSw); go_simp; (try with_reducible rfl); done)
          simp only [Act.put, List.setIfInBounds_toArray, List.set_cons_zero, List.set_cons_succ]
          cases t1 with
          | false =>
            refine rcons 12 rfl (by kernel_rfl) (fun K hK => ?_)
            go_simp
            refine (HC1.out _ hHeld.1).mono ?_; rintro e w5 ⟨rfl, rfl⟩
            (try dsimp only)
            refine hK.out _ _ (hHeld) (fun hHeld2 => ?_)
            clear hK K hHeld
            have hHeld := hHeld2
            clear hHeld2
            (try simp only [Act.put, List.setIfInBounds_toArray, List.set_cons_zero, List.set_cons_succ])
            refine tks (fun _ d _ _ _ h => by cases d <;> exact h) hHeld [(13, some 27, some false), (14, some 28, some false)] 15 (by kernel_rfl) rfl ?_
            simp only [lstBy, actBy, vOf, Act.put, List.setIfInBounds_toArray, List.set_cons_zero, List.set_cons_succ]
            refine tky 15 (some 29) (v := ?_) rfl (by kernel_rfl) (by kernel_rfl) (by kernel_rfl) (fun _ _ _ h => h) ?_ hHeld ?_
            rotate_left
            focus (intro w hSw; (try dsimp only at hSw); go_simp; (try with_reducible rfl); done)
            simp only [Act.put, List.setIfInBounds_toArray, List.set_cons_zero, List.set_cons_succ]
            refine tky 16 (some 30) (v := ?_) rfl (by kernel_rfl) (by kernel_rfl) (by kernel_rfl) (fun _ _ _ h => h) ?_ hHeld ?_
            rotate_left
            focus (intro w hSw; (try dsimp only at hSw); go_simp; (try with_reducible rfl); done)
            simp only [Act.put, List.setIfInBounds_toArray, List.set_cons_zero, List.set_cons_succ]
            refine tky 17 (some 31) (v := ?_) rfl (by kernel_rfl) (by kernel_rfl) (by kernel_rfl) (fun _ _ _ h => h) ?_ hHeld ?_
            rotate_left
            focus (intro w hSw; (try dsimp only at hSw); go_simp; (try with_reducible rfl); done)
            simp only [Act.put, List.setIfInBounds_toArray, List.set_cons_zero, List.set_cons_succ]
            refine tky 18 (some 32) (v := ?_) rfl (by kernel_rfl) (by kernel_rfl) (by kernel_rfl) (fun _ _ _ h => h) ?_ hHeld ?_
            rotate_left
            focus (intro w hSw; (try dsimp only at hSw); go_simp; (try with_reducible rfl); done)
            simp only [Act.put, List.setIfInBounds_toArray, List.set_cons_zero, List.set_cons_succ]
            refine tky 19 (some 33) (v := ?_) rfl (by kernel_rfl) (by kernel_rfl) (by kernel_rfl) (fun _ _ _ h => h) ?_ hHeld ?_
            rotate_left
            focus (intro w hSw; (try dsimp only at hSw); go_simp; (try with_reducible rfl); done)
            simp only [Act.put, List.setIfInBounds_toArray, List.set_cons_zero, List.set_cons_succ]
            refine tky 20 (some 34) (v := ?_) rfl (by kernel_rfl) (by kernel_rfl) (by kernel_rfl) (fun _ _ _ h => h) ?_ hHeld ?_
            rotate_left
            focus (intro w hSw; (try dsimp only at hSw); go_simp; (try with_reducible rfl); done)
            simp only [Act.put, List.setIfInBounds_toArray, List.set_cons_zero, List.set_cons_succ]
            refine tky 21 (some 35) (v := ?_) rfl (by kernel_rfl) (by kernel_rfl) (by kernel_rfl) (fun _ _ _ h => h) ?_ hHeld ?_
            rotate_left
            focus (intro w hSw; (try dsimp only at hSw); go_simp; (try with_reducible rfl); done)
            simp only [Act.put, List.setIfInBounds_toArray, List.set_cons_zero, List.set_cons_succ]
            refine tky 22 (some 36) (v := ?_) rfl (by kernel_rfl) (by kernel_rfl) (by kernel_rfl) (fun _ _ _ h => h) ?_ hHeld ?_
            rotate_left
            focus (intro w hSw; (try dsimp only at hSw); go_simp; (try with_reducible rfl); done)
            simp only [Act.put, List.setIfInBounds_toArray, List.set_cons_zero, List.set_cons_succ]
            refine tky 23 (some 37) (v := ?_) rfl (by kernel_rfl) (by kernel_rfl) (by kernel_rfl) (fun _ _ _ h => h) ?_ hHeld ?_
            rotate_left
            focus (intro w hSw; (try dsimp only at hSw); go_simp; (try with_reducible rfl); done)
            simp only [Act.put, List.setIfInBounds_toArray, List.set_cons_zero, List.set_cons_succ]
            refine tky 24 (some 38) (v := ?_) rfl (by kernel_rfl) (by kernel_rfl) (by kernel_rfl) (fun _ _ _ h => h) ?_ hHeld ?_
            rotate_left
            focus (intro w hSw; (try dsimp only at hSw); go_simp; (try with_reducible rfl); done)
            simp only [Act.put, List.setIfInBounds_toArray, List.set_cons_zero, List.set_cons_succ]
            refine tky 25 (some 39) (v := ?_) rfl (by kernel_rfl) (by kernel_rfl) (by kernel_rfl) (fun _ _ _ h => h) ?_ hHeld ?_
            rotate_left
            focus (intro w hSw; (try dsimp only at hSw); go_simp; (try with_reducible rfl); done)
            simp only [Act.put, List.setIfInBounds_toArray, List.set_cons_zero, List.set_cons_succ]
            refine tky 26 (some 40) (v := ?_) rfl (by kernel_rfl) (by kernel_rfl) (by kernel_rfl) (fun _ _ _ h => h) ?_ hHeld ?_
            rotate_left
            focus (intro w hSw; (try dsimp only at hSw); go_simp; (try with_reducible rfl); done)
            simp only [Act.put, List.setIfInBounds_toArray, List.set_cons_zero, List.set_cons_succ]
            refine tky 27 (some 41) (v := ?_) rfl (by kernel_rfl) (by kernel_rfl) (by kernel_rfl) (fun _ _ _ h => h) ?_ hHeld ?_
            rotate_left
            focus (intro w hSw; (try dsimp only at hSw); go_simp; (try with_reducible rfl); done)
            simp only [Act.put, List.setIfInBounds_toArray, List.set_cons_zero, List.set_cons_succ]
            by_cases g3 : (300 : Int) < IntKind.i64.wrap ((x0.size : Int) + (x1.size : Int))
            · refine tky 28 (some 42) (v := ?_) rfl (by kernel_rfl) (by kernel_rfl) (by kernel_rfl) (fun _ _ _ h => h) ?_ hHeld ?_
              rotate_left
              focus (intro w hSw; (try dsimp only at hSw); go_simp; (try with_reducible rfl); done)
              simp only [Act.put, List.setIfInBounds_toArray, List.set_cons_zero, List.set_cons_succ]
              refine tks (fun _ d _ _ _ h => by cases d <;> exact h) hHeld [(29, some 43, some true)] 0 (by kernel_rfl) rfl ?_
              simp only [lstBy, actBy, vOf, Act.put, List.setIfInBounds_toArray, List.set_cons_zero, List.set_cons_succ]
              refine wpAnyH_done (by kernel_rfl) ?_ _
              have HBN : Hid (Below w.heap.size w _) := Lib.hid (HB.out.trans (hHeld.1.mono HB.out.size))
              go_wp2_with fail
              go_ret
              exact ⟨true, rfl, (fun h => by cases h), HBN.out⟩
            · refine tky 28 (some 42) (v := ?_) rfl (by kernel_rfl) (by kernel_rfl) (by kernel_rfl) (fun _ _ _ h => h) ?_ hHeld ?_
              rotate_left
              focus (intro w hSw; (try dsimp only at hSw); go_simp; (try with_reducible rfl); done)
              simp only [Act.put, List.setIfInBounds_toArray, List.set_cons_zero, List.set_cons_succ]
              refine tks (fun _ d _ _ _ h => by cases d <;> exact h) hHeld [(29, some 43, some false)] 0 (by kernel_rfl) rfl ?_
              simp only [lstBy, actBy, vOf, Act.put, List.setIfInBounds_toArray, List.set_cons_zero, List.set_cons_succ]
              refine wpAnyH_done (by kernel_rfl) ?_ _
              have HBN : Hid (Below w.heap.size w _) := Lib.hid (HB.out.trans (hHeld.1.mono HB.out.size))
              have HQ2 : Hid (∀ x ∈ L.take (i + 1), NGS x) := Lib.hid (take_next HQ.out hil (HNG.out (by first | exact rfl | trivial) (by first | exact rfl | trivial)))
              go_wp2_with fail
              go_roundw
              case rel => exact ⟨i + 1, by omega, by omega, by go_num, HQ2, HBN⟩
              case measure => simp [intOf]; omega
          | true =>
            refine rcons 12 rfl (by kernel_rfl) (fun K hK => ?_)
            go_simp
            refine (HC1.out _ hHeld.1).mono ?_; rintro e w5 ⟨rfl, rfl⟩
            (try dsimp only)
            refine hK.out _ _ (hHeld) (fun hHeld2 => ?_)
            clear hK K hHeld
            have hHeld := hHeld2
            clear hHeld2
            (try simp only [Act.put, List.setIfInBounds_toArray, List.set_cons_zero, List.set_cons_succ])
            refine tks (fun _ d _ _ _ h => by cases d <;> exact h) hHeld [(13, some 27, some true), (14, some 28, some true), (15, some 29, none), (16, some 30, none)] 13 (by kernel_rfl) rfl ?_
            simp only [lstBy, actBy, vOf, Act.put, List.setIfInBounds_toArray, List.set_cons_zero, List.set_cons_succ]
            refine tks (fun _ d _ _ _ h => by cases d <;> exact h) hHeld [(17, some 31, none), (18, some 32, none), (19, some 33, none), (20, some 34, none)] 9 (by kernel_rfl) rfl ?_
            simp only [lstBy, actBy, vOf, Act.put, List.setIfInBounds_toArray, List.set_cons_zero, List.set_cons_succ]
            refine tks (fun _ d _ _ _ h => by cases d <;> exact h) hHeld [(21, some 35, none), (22, some 36, none), (23, some 37, none), (24, some 38, none)] 5 (by kernel_rfl) rfl ?_
            simp only [lstBy, actBy, vOf, Act.put, List.setIfInBounds_toArray, List.set_cons_zero, List.set_cons_succ]
            refine tks (fun _ d _ _ _ h => by cases d <;> exact h) hHeld [(25, some 39, none), (26, some 40, none), (27, some 41, none), (28, some 42, none)] 1 (by kernel_rfl) rfl ?_
            simp only [lstBy, actBy, vOf, Act.put, List.setIfInBounds_toArray, List.set_cons_zero, List.set_cons_succ]
            refine tks (fun _ d _ _ _ h => by cases d <;> exact h) hHeld [(29, some 43, some true)] 0 (by kernel_rfl) rfl ?_
            simp only [lstBy, actBy, vOf, Act.put, List.setIfInBounds_toArray, List.set_cons_zero, List.set_cons_succ]
            refine wpAnyH_done (by kernel_rfl) ?_ _
            have HBN : Hid (Below w.heap.size w _) := Lib.hid (HB.out.trans (hHeld.1.mono HB.out.size))
            go_wp2_with fail
            go_ret
            exact ⟨true, rfl, (fun h => by cases h), HBN.out⟩
        | true =>
          refine rcons 5 rfl (by kernel_rfl) (fun K hK => ?_)
          go_simp
          refine (HC0.out _ hHeld.1).mono ?_; rintro e w5 ⟨rfl, rfl⟩
          (try dsimp only)
          refine hK.out _ _ (hHeld) (fun hHeld2 => ?_)
          clear hK K hHeld
          have hHeld := hHeld2
          clear hHeld2
          (try simp only [Act.put, List.setIfInBounds_toArray, List.set_cons_zero, List.set_cons_succ])
          refine tks (fun _ d _ _ _ h => by cases d <;> exact h) hHeld [(6, some 20, some true), (7, some 21, none), (8, some 22, none), (9, some 23, none)] 20 (by kernel_rfl) rfl ?_
          simp only [lstBy, actBy, vOf, Act.put, List.setIfInBounds_toArray, List.set_cons_zero, List.set_cons_succ]
          refine tks (fun _ d _ _ _ h => by cases d <;> exact h) hHeld [(10, some 24, none), (11, some 25, none), (12, some 26, none), (13, some 27, some true)] 16 (by kernel_rfl) rfl ?_
          simp only [lstBy, actBy, vOf, Act.put, List.setIfInBounds_toArray, List.set_cons_zero, List.set_cons_succ]
          refine tks (fun _ d _ _ _ h => by cases d <;> exact h) hHeld [(14, some 28, some true), (15, some 29, none), (16, some 30, none), (17, some 31, none)] 12 (by kernel_rfl) rfl ?_
          simp only [lstBy, actBy, vOf, Act.put, List.setIfInBounds_toArray, List.set_cons_zero, List.set_cons_succ]
          refine tks (fun _ d _ _ _ h => by cases d <;> exact h) hHeld [(18, some 32, none), (19, some 33, none), (20, some 34, none), (21, some 35, none)] 8 (by kernel_rfl) rfl ?_
          simp only [lstBy, actBy, vOf, Act.put, List.setIfInBounds_toArray, List.set_cons_zero, List.set_cons_succ]
          refine tks (fun _ d _ _ _ h => by cases d <;> exact h) hHeld [(22, some 36, none), (23, some 37, none), (24, some 38, none), (25, some 39, none)] 4 (by kernel_rfl) rfl ?_
          simp only [lstBy, actBy, vOf, Act.put, List.setIfInBounds_toArray, List.set_cons_zero, List.set_cons_succ]
          refine tks (fun _ d _ _ _ h => by cases d <;> exact h) hHeld [(26, some 40, none), (27, some 41, none), (28, some 42, none), (29, some 43, some true)] 0 (by kernel_rfl) rfl ?_
          simp only [lstBy, actBy, vOf, Act.put, List.setIfInBounds_toArray, List.set_cons_zero, List.set_cons_succ]
          refine wpAnyH_done (by kernel_rfl) ?_ _
          have HBN : Hid (Below w.heap.size w _) := Lib.hid (HB.out.trans (hHeld.1.mono HB.out.size))
          go_wp2_with fail
          go_ret
          exact ⟨true, rfl, (fun h => by cases h), HBN.out⟩
      · have h30i : ¬ (i : Int) < 100 := by omega
        have hini : (i : Int) < (n : Int) := by omega
        have hn20 : (60 : Int) < (n : Int) := by omega
        go_wp2_with fail
        go_ret
        exact ⟨true, ret_b (by simp; try omega), (fun h => by cases h), HB.out⟩
    · have hini : ¬ (i : Int) < (n : Int) := by omega
      by_cases h20 : (60 : Int) < (n : Int)
      · go_wp2_with fail
        go_ret
        exact ⟨true, ret_b (by simp; try omega), (fun h => by cases h), HB.out⟩
      · have HP : Hid (NGSs L) := Lib.hid ⟨by have := HN.out; omega, fun x hx => HQ.out x (by rw [List.take_of_length_le (by have := HN.out; omega)]; exact hx)⟩
        go_wp2_with fail
        go_ret
        exact ⟨false, ret_b (by simp; try omega), (fun _ => HP.out), HB.out⟩
set_option maxRecDepth 100000 in
theorem gsels_none (a : Option Addr) (c : Nat) (w : World) :
    Calls Tryz.prog 10 #[.slice a 0 c] w (GreatR (NGSs []) w) := by
  have HP : Hid (NGSs []) := Lib.hid ⟨by simp, fun x hx => by cases hx⟩
  go_enter Tryz.func10, Tryz.ntmps10
  go_wp2_with fail
  refine wp_loop_rounds 1 ?_; rw [rounds_succ]
  go_wp2_with fail
  go_ret
  exact ⟨false, rfl, fun _ => HP.out, Below.refl _ _⟩
theorem gsels_any (L : List SelD) (v : Value) (w : World) (hv : SelSl v L w) (hb : SelsB L) :
    Calls Tryz.prog 10 #[v] w (GreatR (NGSs L) w) := by
  rcases hv with ⟨a, c, rfl, rfl⟩ | ⟨b, off, cap, rfl, hrow, _⟩
  · exact gsels_none a c w
  · exact gsels_row L b off cap hb.1 w hrow hb.2
set_option maxRecDepth 100000 in
set_option maxHeartbeats 16000000 in
theorem gdoc_go (L : List OpD) (M : List FrgD) (oa fa : Option Addr) (on_ oc fn_ fc : Nat) (w : World) (ho : OprAt oa on_ L w) (hf : FrgAt fa fn_ M w) (hl : L.length ≤ 9223372036854775807) (hm : M.length ≤ 9223372036854775807)
    (hso : ∀ x ∈ L, OprB x) (hsf : ∀ x ∈ M, FrgB x) :
    Calls Tryz.prog 4 #[.agg #[.slice oa on_ oc, .slice fa fn_ fc]] w (GreatR (L.length ≤ 10 ∧ M.length ≤ 10 ∧ (∀ y ∈ L, NGO y) ∧ ∀ y ∈ M, NGFr y) w) := by
  have HO := Lib.hid ho
  have HFR := Lib.hid hf
  have HSO := Lib.hid hso
  have HSF := Lib.hid hsf
  have HNO : Hid (on_ = L.length) := Lib.hid ho.1
  have HNF : Hid (fn_ = M.length) := Lib.hid hf.1
  have hon : on_ ≤ 9223372036854775807 := by rw [ho.1]; exact hl
  have hfn : fn_ ≤ 9223372036854775807 := by rw [hf.1]; exact hm
  have HZ0 : Hid (∀ x ∈ L.take 0, NGO x) := Lib.hid (fun x hx => by cases hx)
  have HZ2 : Hid (∀ x ∈ M.take 0, NGFr x) := Lib.hid (fun x hx => by cases hx)
  clear ho hf hl hm hso hsf
  go_enter Tryz.func4, Tryz.ntmps4
  go_upto_region 1 with fail
  obtain ⟨db, hdb⟩ : ∃ db, w.heap.size = db := ⟨_, rfl⟩
  obtain ⟨w1, hw1⟩ : ∃ w1, w.alloc (.cells #[.slice oa on_ oc, .slice fa fn_ fc] 25 (0, 0)) = w1 := ⟨_, rfl⟩
  have HBD : Hid (Below w.heap.size w w1) := Lib.hid (by rw [← hw1]; exact (Below.refl _ _).alloc (Nat.le_refl _) _)
  have kd : w1.heap[w.heap.size]? = some (.cells #[.slice oa on_ oc, .slice fa fn_ fc] 25 (0, 0)) := by rw [← hw1]; exact heap_new _ _ _ rfl
  rw [hdb] at kd
  have MD : Hid (∀ W, Below w1.heap.size w1 W → W.cell? ⟨db, 0, none⟩ = some (.slice oa on_ oc) ∧ W.cell? ⟨db, 1, none⟩ = some (.slice fa fn_ fc)) := Lib.hid fun W hW => ⟨(Lib.cell_of_heap ((hW.block _ (heap_lt kd)).trans kd) 0).trans rfl, (Lib.cell_of_heap ((hW.block _ (heap_lt kd)).trans kd) 1).trans rfl⟩
  obtain ⟨g0, g1⟩ := MD.out w1 (Below.refl _ _)
  try rw [hw1]
  try rw [hdb]
  clear hw1 kd hdb
  go_wp2_with fail
  go_loopw [3] (fun iv wr => ∃ i : Nat, i ≤ on_ ∧ i ≤ 20 ∧ iv = .int .i64 (i : Int) ∧ Hid (∀ x ∈ L.take i, NGO x) ∧ Hid (Below w1.heap.size w1 wr)) (fun iv wr => on_ - (intOf iv).toNat)
  case atStart => exact ⟨0, Nat.zero_le _, Nat.zero_le _, rfl, HZ0, Lib.hid (Below.refl _ _)⟩
  case round =>
    clear HZ0 g0 g1
    rename World => wr
    obtain ⟨i, hi, hi20, rfl, HQ, HB⟩ := hrel
    have hz := HB.out.size
    have HBR := Lib.hid (HBD.out.trans (HB.out.mono HBD.out.size))
    obtain ⟨g0, g1⟩ := MD.out wr HB.out
    have i1 : (i : Int).toNat = i := by omega
    have i2 : (0 : Int) ≤ (i : Int) := by omega
    by_cases hin : i < on_ ∧ i < 20
    · as_aux_lemma =>
        obtain ⟨hin, hi19⟩ := hin
        have hil : i < L.length := by have := HNO.out; omega
        obtain ⟨b, off, rfl, hrow⟩ := HO.out.2 (by omega)
        obtain ⟨y0, y1, y2, y3, y4, y5, q0, q1, q2, q3, q4, yy, yz⟩ := Opr_at (RowG.below hrow fun _ _ h => OprE.below h HBR.out) i hil
        obtain ⟨s1, s2, s3, s4⟩ := HSO.out L[i] (List.getElem_mem hil)
        have HC0 := Lib.hid fun W (hW : Below wr.heap.size wr W) => gins_any L[i].vars _ W (InpSl.below yy hW) s2
        have HC1 := Lib.hid fun W (hW : Below wr.heap.size wr W) => gsels_any L[i].sels _ W (SelSl.below yz hW) s4
        have z1 : L[i].name.length = (⟨L[i].name.toArray⟩ : ByteArray).size := by simp [ByteArray.size]
        have HNG : Hid (NGIs L[i].vars → NGSs L[i].sels → (⟨L[i].name.toArray⟩ : ByteArray).size ≤ 300 → NGO L[i]) := Lib.hid fun a b c => ⟨a, b, by rw [z1]; exact c⟩
        clear yy yz s1 s2 s3 s4 hrow z1
        generalize (⟨L[i].name.toArray⟩ : ByteArray) = x1 at *
        have j1 : (i : Int) < (on_ : Int) := by omega
        have j2 : (i : Int) < 20 := by omega
        have pb := lt_of_cell q4
        have pd := lt_of_cell g0
        go_wp2_with fail
        refine (HC0.out _ (Below.refl _ _)).mono ?_; rintro e w5 ⟨t0, rfl, hg, hb⟩
        have HG0 := Lib.hid hg
        have HB5 := Lib.hid hb
        have hz5 := hb.size
        obtain ⟨g0', g1'⟩ := MD.out w5 (HB.out.trans (hb.mono HB.out.size))
        have r4 := (hb.cell (p := ⟨_, _, none⟩) pb).trans q4
        have r1 := (hb.cell (p := ⟨_, _, none⟩) (lt_of_cell q1)).trans q1
        clear hg hb g0 g1 q0 q2 q3 q4
        cases t0 with
        | true =>
          go_wp2_with fail
          go_ret
          exact ⟨true, rfl, (fun h => by cases h), HBD.out.trans ((HB.out.trans (HB5.out.mono hz)).mono HBD.out.size)⟩
        | false =>
          have pb5 := lt_of_cell r4
          go_wp2_with fail
          refine (HC1.out _ HB5.out).mono ?_; rintro e w6 ⟨t1, rfl, hg, hb⟩
          have HG1 := Lib.hid hg
          have HB6 := Lib.hid (HB5.out.trans (hb.mono hz5))
          obtain ⟨g0, g1⟩ := MD.out w6 (HB.out.trans (HB6.out.mono HB.out.size))
          have u1 := (hb.cell (p := ⟨_, _, none⟩) (lt_of_cell r1)).trans r1
          clear hg hb g0' g1' r4 r1 q1
          cases t1 with
          | true =>
            go_wp2_with fail
            go_ret
            exact ⟨true, rfl, (fun h => by cases h), HBD.out.trans ((HB.out.trans (HB6.out.mono hz)).mono HBD.out.size)⟩
          | false =>
            obtain ⟨t2, ht2⟩ : ∃ t : Bool, decide ((300 : Int) < (x1.size : Int)) = t := ⟨_, rfl⟩
            cases t2 with
            | true =>
              go_wp2_with fail
              go_ret
              exact ⟨true, rfl, (fun h => by cases h), HBD.out.trans ((HB.out.trans (HB6.out.mono hz)).mono HBD.out.size)⟩
            | false =>
              have K2 := Lib.hid (of_decide_eq_false ht2)
              have HQ2 : Hid (∀ x ∈ L.take (i + 1), NGO x) := Lib.hid (take_next HQ.out hil (HNG.out (HG0.out (by first | exact rfl | trivial)) (HG1.out (by first | exact rfl | trivial)) (by have := K2.out; omega)))
              have HBN : Hid (Below w1.heap.size w1 w6) := Lib.hid (HB.out.trans (HB6.out.mono hz))
              go_wp2_with fail
              go_roundw
              case rel => exact ⟨i + 1, by omega, by omega, by go_num, HQ2, HBN⟩
              case measure => simp [intOf]; omega
    · have HQL : Hid (on_ ≤ 10 → ∀ x ∈ L, NGO x) := Lib.hid (fun h x hx => HQ.out x (by rw [List.take_of_length_le (by have := HNO.out; omega)]; exact hx))
      clear HQ
      have HX := Lib.hid hin
      clear hin
      by_cases htA : (i : Int) < (on_ : Int)
      · have ht20 : ¬ (i : Int) < 20 := by have := HX.out; omega
        go_wp2_with fail
        go_loopw [4] (fun jv wr2 => ∃ j : Nat, j ≤ fn_ ∧ j ≤ 20 ∧ jv = .int .i64 (j : Int) ∧ Hid (∀ x ∈ M.take j, NGFr x) ∧ Hid (Below w1.heap.size w1 wr2)) (fun jv wr2 => fn_ - (intOf jv).toNat)
        case atStart => exact ⟨0, Nat.zero_le _, Nat.zero_le _, rfl, HZ2, HB⟩
        case round =>
          clear HZ2 g0 g1 HB HBR hz
          rename_i wr' wr _
          obtain ⟨j, hj, hj20, rfl, HQF, HB⟩ := hrel
          have hz := HB.out.size
          have HBR := Lib.hid (HBD.out.trans (HB.out.mono HBD.out.size))
          obtain ⟨g0, g1⟩ := MD.out wr HB.out
          have k1 : (j : Int).toNat = j := by omega
          have k2 : (0 : Int) ≤ (j : Int) := by omega
          by_cases hjn : j < fn_ ∧ j < 20
          · as_aux_lemma =>
              obtain ⟨hjn, hj19⟩ := hjn
              have hil : j < M.length := by have := HNF.out; omega
              obtain ⟨b, off, rfl, hrow⟩ := HFR.out.2 (by omega)
              obtain ⟨y0, y1, y2, q0, q1, q2, q3, yy⟩ := Frg_at (RowG.below hrow fun _ _ h => FrgE.below h HBR.out) j hil
              obtain ⟨s1, s2, s3, s4⟩ := HSF.out M[j] (List.getElem_mem hil)
              have HC : Hid (∀ W, Below wr.heap.size wr W → Calls Tryz.prog 10 #[.slice y0 y1 y2] W (GreatR (NGSs M[j].sels) W)) := Lib.hid fun W (hW : Below wr.heap.size wr W) => gsels_any M[j].sels _ W (SelSl.below yy hW) s4
              have z0 : M[j].name.length = (⟨M[j].name.toArray⟩ : ByteArray).size := by simp [ByteArray.size]
              have z1 : M[j].on.length = (⟨M[j].on.toArray⟩ : ByteArray).size := by simp [ByteArray.size]
              rw [z0] at s1
              rw [z1] at s2
              clear yy s3 s4 hrow z0 z1
              generalize (⟨M[j].name.toArray⟩ : ByteArray) = x0 at *
              generalize (⟨M[j].on.toArray⟩ : ByteArray) = x1 at *
              generalize M[j].many = mm at *
              have j1 : (j : Int) < (fn_ : Int) := by omega
              have j2 : (j : Int) < 20 := by omega
              have pb := lt_of_cell q0
              have MK : Hid (∀ W, Below wr.heap.size wr W → (fun W => Below wr.heap.size wr W ∧ W.cell? ⟨db, 0, none⟩ = some (.slice oa on_ oc) ∧ W.cell? ⟨db, 1, none⟩ = some (.slice (some ⟨b, off, none⟩) fn_ fc) ∧ W.cell? ⟨b, off + j * 4, none⟩ = some (.string x0) ∧ W.cell? ⟨b, off + j * 4 + 1, none⟩ = some (.string x1) ∧ W.cell? ⟨b, off + j * 4 + 2, none⟩ = some (.int .i64 mm) ∧ W.cell? ⟨b, off + j * 4 + 3, none⟩ = some (.slice y0 y1 y2)) W) := Lib.hid fun W hW => ⟨hW, (hW.cell (p := ⟨_, _, none⟩) (lt_of_cell g0)).trans g0, (hW.cell (p := ⟨_, _, none⟩) (lt_of_cell g1)).trans g1, (hW.cell (p := ⟨_, _, none⟩) (lt_of_cell q0)).trans q0, (hW.cell (p := ⟨_, _, none⟩) (lt_of_cell q1)).trans q1, (hW.cell (p := ⟨_, _, none⟩) (lt_of_cell q2)).trans q2, (hW.cell (p := ⟨_, _, none⟩) (lt_of_cell q3)).trans q3⟩
              clear q0 q1 q2 q3
              go_upto_region 9 with fail
              clear g0 g1
              refine wp_region_held_drew (S := fun W => Below wr.heap.size wr W ∧ W.cell? ⟨db, 0, none⟩ = some (.slice oa on_ oc) ∧ W.cell? ⟨db, 1, none⟩ = some (.slice (some ⟨b, off, none⟩) fn_ fc) ∧ W.cell? ⟨b, off + j * 4, none⟩ = some (.string x0) ∧ W.cell? ⟨b, off + j * 4 + 1, none⟩ = some (.string x1) ∧ W.cell? ⟨b, off + j * 4 + 2, none⟩ = some (.int .i64 mm) ∧ W.cell? ⟨b, off + j * 4 + 3, none⟩ = some (.slice y0 y1 y2)) (by kernel_rfl) (MK.out _ ⟨rfl, rfl, rfl, Nat.le_refl _, fun _ _ => rfl⟩) (fun hHeld => ?_)
              refine tky 0 (some 53) (v := ?_) rfl (by kernel_rfl) (by kernel_rfl) (by kernel_rfl) (fun _ _ _ h => h) ?_ hHeld ?_
              rotate_left
              focus (intro w hSw; (try dsimp only at hSw); go_simp; (try with_reducible rfl); done)
              simp only [Act.put, List.setIfInBounds_toArray, List.set_cons_zero, List.set_cons_succ]
              refine tky 1 (some 54) (v := ?_) rfl (by kernel_rfl) (by kernel_rfl) (by kernel_rfl) (fun _ _ _ h => h) ?_ hHeld ?_
              rotate_left
              focus (intro w hSw; (try dsimp only at hSw); go_simp; (try with_reducible rfl); done)
              simp only [Act.put, List.setIfInBounds_toArray, List.set_cons_zero, List.set_cons_succ]
              refine tky 2 (some 55) (v := ?_) rfl (by kernel_rfl) (by kernel_rfl) (by kernel_rfl) (fun _ _ _ h => h) ?_ hHeld ?_
              rotate_left
              focus (intro w hSw; (try dsimp only at hSw); go_simp; (try with_reducible rfl); done)
              simp only [Act.put, List.setIfInBounds_toArray, List.set_cons_zero, List.set_cons_succ]
              refine tky 3 (some 56) (v := ?_) rfl (by kernel_rfl) (by kernel_rfl) (by kernel_rfl) (fun _ _ _ h => h) ?_ hHeld ?_
              rotate_left
              focus (intro w hSw; (try dsimp only at hSw); go_simp; (try with_reducible rfl); done)
              simp only [Act.put, List.setIfInBounds_toArray, List.set_cons_zero, List.set_cons_succ]
              refine tky 4 (some 57) (v := ?_) rfl (by kernel_rfl) (by kernel_rfl) (by kernel_rfl) (fun _ _ _ h => h) ?_ hHeld ?_
              rotate_left
              focus (intro w hSw; (try dsimp only at hSw); go_simp; (try with_reducible rfl); done)
              simp only [Act.put, List.setIfInBounds_toArray, List.set_cons_zero, List.set_cons_succ]
              refine tky 5 (some 58) (v := ?_) rfl (by kernel_rfl) (by kernel_rfl) (by kernel_rfl) (fun _ _ _ h => h) ?_ hHeld ?_
              rotate_left
              focus (intro w hSw; (try dsimp only at hSw); go_simp; (try with_reducible rfl); done)
              simp only [Act.put, List.setIfInBounds_toArray, List.set_cons_zero, List.set_cons_succ]
              refine rcons 6 rfl (by kernel_rfl) (fun K hK => ?_)
              go_simp
              refine (HC.out _ hHeld.1).mono ?_; rintro e w5 ⟨g, rfl, hg, hb⟩
              have HGS := Lib.hid hg
              clear hg
              (try dsimp only)
              refine hK.out _ _ (MK.out _ (hHeld.1.trans (hb.mono hHeld.1.size))) (fun hHeld2 => ?_)
              clear hK K hHeld
              have hHeld := hHeld2
              clear hHeld2
              (try simp only [Act.put, List.setIfInBounds_toArray, List.set_cons_zero, List.set_cons_succ])
              cases g with
              | false =>
                refine tks (fun _ d _ _ _ h => by cases d <;> exact h) hHeld [(7, some 60, some false)] 17 (by kernel_rfl) rfl ?_
                simp only [lstBy, actBy, vOf, Act.put, List.setIfInBounds_toArray, List.set_cons_zero, List.set_cons_succ]
                refine tky 8 (some 61) (v := ?_) rfl (by kernel_rfl) (by kernel_rfl) (by kernel_rfl) (fun _ _ _ h => h) ?_ hHeld ?_
                rotate_left
                focus (intro w hSw; (try dsimp only at hSw); go_simp; (try with_reducible rfl); done)
                simp only [Act.put, List.setIfInBounds_toArray, List.set_cons_zero, List.set_cons_succ]
                refine tky 9 (some 62) (v := ?_) rfl (by kernel_rfl) (by kernel_rfl) (by kernel_rfl) (fun _ _ _ h => h) ?_ hHeld ?_
                rotate_left
                focus (intro w hSw; (try dsimp only at hSw); go_simp; (try with_reducible rfl); done)
                simp only [Act.put, List.setIfInBounds_toArray, List.set_cons_zero, List.set_cons_succ]
                refine tky 10 (some 63) (v := ?_) rfl (by kernel_rfl) (by kernel_rfl) (by kernel_rfl) (fun _ _ _ h => h) ?_ hHeld ?_
                rotate_left
                focus (intro w hSw; (try dsimp only at hSw); go_simp; (try with_reducible rfl); done)
                simp only [Act.put, List.setIfInBounds_toArray, List.set_cons_zero, List.set_cons_succ]
                refine tky 11 (some 64) (v := ?_) rfl (by kernel_rfl) (by kernel_rfl) (by kernel_rfl) (fun _ _ _ h => h) ?_ hHeld ?_
                rotate_left
                focus (intro w hSw; (try dsimp only at hSw); go_simp; (try with_reducible rfl); done)
                simp only [Act.put, List.setIfInBounds_toArray, List.set_cons_zero, List.set_cons_succ]
                refine tky 12 (some 65) (v := ?_) rfl (by kernel_rfl) (by kernel_rfl) (by kernel_rfl) (fun _ _ _ h => h) ?_ hHeld ?_
                rotate_left
                focus (intro w hSw; (try dsimp only at hSw); go_simp; (try with_reducible rfl); done)
                simp only [Act.put, List.setIfInBounds_toArray, List.set_cons_zero, List.set_cons_succ]
                refine tky 13 (some 66) (v := ?_) rfl (by kernel_rfl) (by kernel_rfl) (by kernel_rfl) (fun _ _ _ h => h) ?_ hHeld ?_
                rotate_left
                focus (intro w hSw; (try dsimp only at hSw); go_simp; (try with_reducible rfl); done)
                simp only [Act.put, List.setIfInBounds_toArray, List.set_cons_zero, List.set_cons_succ]
                refine tky 14 (some 67) (v := ?_) rfl (by kernel_rfl) (by kernel_rfl) (by kernel_rfl) (fun _ _ _ h => h) ?_ hHeld ?_
                rotate_left
                focus (intro w hSw; (try dsimp only at hSw); go_simp; (try with_reducible rfl); done)
                simp only [Act.put, List.setIfInBounds_toArray, List.set_cons_zero, List.set_cons_succ]
                refine tky 15 (some 68) (v := ?_) rfl (by kernel_rfl) (by kernel_rfl) (by kernel_rfl) (fun _ _ _ h => h) ?_ hHeld ?_
                rotate_left
                focus (intro w hSw; (try dsimp only at hSw); go_simp; (try with_reducible rfl); done)
                simp only [Act.put, List.setIfInBounds_toArray, List.set_cons_zero, List.set_cons_succ]
                refine tky 16 (some 69) (v := ?_) rfl (by kernel_rfl) (by kernel_rfl) (by kernel_rfl) (fun _ _ _ h => h) ?_ hHeld ?_
                rotate_left
                focus (intro w hSw; (try dsimp only at hSw); go_simp; (try with_reducible rfl); done)
                simp only [Act.put, List.setIfInBounds_toArray, List.set_cons_zero, List.set_cons_succ]
                refine tky 17 (some 70) (v := ?_) rfl (by kernel_rfl) (by kernel_rfl) (by kernel_rfl) (fun _ _ _ h => h) ?_ hHeld ?_
                rotate_left
                focus (intro w hSw; (try dsimp only at hSw); go_simp; (try with_reducible rfl); done)
                simp only [Act.put, List.setIfInBounds_toArray, List.set_cons_zero, List.set_cons_succ]
                refine tky 18 (some 71) (v := ?_) rfl (by kernel_rfl) (by kernel_rfl) (by kernel_rfl) (fun _ _ _ h => h) ?_ hHeld ?_
                rotate_left
                focus (intro w hSw; (try dsimp only at hSw); go_simp; (try with_reducible rfl); done)
                simp only [Act.put, List.setIfInBounds_toArray, List.set_cons_zero, List.set_cons_succ]
                refine tky 19 (some 72) (v := ?_) rfl (by kernel_rfl) (by kernel_rfl) (by kernel_rfl) (fun _ _ _ h => h) ?_ hHeld ?_
                rotate_left
                focus (intro w hSw; (try dsimp only at hSw); go_simp; (try with_reducible rfl); done)
                simp only [Act.put, List.setIfInBounds_toArray, List.set_cons_zero, List.set_cons_succ]
                refine tky 20 (some 73) (v := ?_) rfl (by kernel_rfl) (by kernel_rfl) (by kernel_rfl) (fun _ _ _ h => h) ?_ hHeld ?_
                rotate_left
                focus (intro w hSw; (try dsimp only at hSw); go_simp; (try with_reducible rfl); done)
                simp only [Act.put, List.setIfInBounds_toArray, List.set_cons_zero, List.set_cons_succ]
                refine tky 21 (some 74) (v := ?_) rfl (by kernel_rfl) (by kernel_rfl) (by kernel_rfl) (fun _ _ _ h => h) ?_ hHeld ?_
                rotate_left
                focus (intro w hSw; (try dsimp only at hSw); go_simp; (try with_reducible rfl); done)
                simp only [Act.put, List.setIfInBounds_toArray, List.set_cons_zero, List.set_cons_succ]
                refine tky 22 (some 75) (v := ?_) rfl (by kernel_rfl) (by kernel_rfl) (by kernel_rfl) (fun _ _ _ h => h) ?_ hHeld ?_
                rotate_left
                focus (intro w hSw; (try dsimp only at hSw); go_simp; (try with_reducible rfl); done)
                simp only [Act.put, List.setIfInBounds_toArray, List.set_cons_zero, List.set_cons_succ]
                by_cases g3 : (300 : Int) < IntKind.i64.wrap ((x0.size : Int) + (x1.size : Int))
                · refine tky 23 (some 76) (v := ?_) rfl (by kernel_rfl) (by kernel_rfl) (by kernel_rfl) (fun _ _ _ h => h) ?_ hHeld ?_
                  rotate_left
                  focus (intro w hSw; (try dsimp only at hSw); go_simp; (try with_reducible rfl); done)
                  simp only [Act.put, List.setIfInBounds_toArray, List.set_cons_zero, List.set_cons_succ]
                  refine tks (fun _ d _ _ _ h => by cases d <;> exact h) hHeld [(24, some 77, some true)] 0 (by kernel_rfl) rfl ?_
                  simp only [lstBy, actBy, vOf, Act.put, List.setIfInBounds_toArray, List.set_cons_zero, List.set_cons_succ]
                  refine wpAnyH_done (by kernel_rfl) ?_ _
                  have HBN : Hid (Below w1.heap.size w1 _) := Lib.hid (HB.out.trans (hHeld.1.mono HB.out.size))
                  go_wp2_with fail
                  go_ret
                  exact ⟨true, rfl, (fun h => by cases h), HBD.out.trans (HBN.out.mono HBD.out.size)⟩
                · refine tky 23 (some 76) (v := ?_) rfl (by kernel_rfl) (by kernel_rfl) (by kernel_rfl) (fun _ _ _ h => h) ?_ hHeld ?_
                  rotate_left
                  focus (intro w hSw; (try dsimp only at hSw); go_simp; (try with_reducible rfl); done)
                  simp only [Act.put, List.setIfInBounds_toArray, List.set_cons_zero, List.set_cons_succ]
                  refine tks (fun _ d _ _ _ h => by cases d <;> exact h) hHeld [(24, some 77, some false)] 0 (by kernel_rfl) rfl ?_
                  simp only [lstBy, actBy, vOf, Act.put, List.setIfInBounds_toArray, List.set_cons_zero, List.set_cons_succ]
                  refine wpAnyH_done (by kernel_rfl) ?_ _
                  have HBN : Hid (Below w1.heap.size w1 _) := Lib.hid (HB.out.trans (hHeld.1.mono HB.out.size))
                  have HQN : Hid (∀ x ∈ M.take (j + 1), NGFr x) := Lib.hid (take_next HQF.out hil (HGS.out (by first | exact rfl | trivial)))
                  go_wp2_with fail
                  go_roundw
                  case rel => exact ⟨j + 1, by omega, by omega, by go_num, HQN, HBN⟩
                  case measure => simp [intOf]; omega
              | true =>
                refine tks (fun _ d _ _ _ h => by cases d <;> exact h) hHeld [(7, some 60, some true), (8, some 61, none), (9, some 62, none), (10, some 63, none)] 14 (by kernel_rfl) rfl ?_
                simp only [lstBy, actBy, vOf, Act.put, List.setIfInBounds_toArray, List.set_cons_zero, List.set_cons_succ]
                refine tks (fun _ d _ _ _ h => by cases d <;> exact h) hHeld [(11, some 64, none), (12, some 65, none), (13, some 66, none), (14, some 67, none)] 10 (by kernel_rfl) rfl ?_
                simp only [lstBy, actBy, vOf, Act.put, List.setIfInBounds_toArray, List.set_cons_zero, List.set_cons_succ]
                refine tks (fun _ d _ _ _ h => by cases d <;> exact h) hHeld [(15, some 68, none), (16, some 69, none), (17, some 70, none), (18, some 71, none)] 6 (by kernel_rfl) rfl ?_
                simp only [lstBy, actBy, vOf, Act.put, List.setIfInBounds_toArray, List.set_cons_zero, List.set_cons_succ]
                refine tks (fun _ d _ _ _ h => by cases d <;> exact h) hHeld [(19, some 72, none), (20, some 73, none), (21, some 74, none), (22, some 75, none)] 2 (by kernel_rfl) rfl ?_
                simp only [lstBy, actBy, vOf, Act.put, List.setIfInBounds_toArray, List.set_cons_zero, List.set_cons_succ]
                refine tks (fun _ d _ _ _ h => by cases d <;> exact h) hHeld [(23, some 76, none), (24, some 77, some true)] 0 (by kernel_rfl) rfl ?_
                simp only [lstBy, actBy, vOf, Act.put, List.setIfInBounds_toArray, List.set_cons_zero, List.set_cons_succ]
                refine wpAnyH_done (by kernel_rfl) ?_ _
                have HBN : Hid (Below w1.heap.size w1 _) := Lib.hid (HB.out.trans (hHeld.1.mono HB.out.size))
                go_wp2_with fail
                go_ret
                exact ⟨true, rfl, (fun h => by cases h), HBD.out.trans (HBN.out.mono HBD.out.size)⟩
          · have HX2 := Lib.hid hjn
            have HQL2 : Hid (fn_ ≤ 10 → ∀ x ∈ M, NGFr x) := Lib.hid (fun h x hx => HQF.out x (by rw [List.take_of_length_le (by have := HNF.out; have := HX2.out; omega)]; exact hx))
            clear HQF hjn
            have HNL : Hid (on_ ≤ 10 → fn_ ≤ 10 → (L.length ≤ 10 ∧ M.length ≤ 10 ∧ (∀ y ∈ L, NGO y) ∧ ∀ y ∈ M, NGFr y)) := Lib.hid fun a b => ⟨by have := HNO.out; omega, by have := HNF.out; omega, HQL.out a, HQL2.out b⟩
            obtain ⟨tC, htC⟩ : ∃ t : Bool, decide ((10 : Int) < (on_ : Int)) = t := ⟨_, rfl⟩
            obtain ⟨tD, htD⟩ : ∃ t : Bool, decide ((10 : Int) < (fn_ : Int)) = t := ⟨_, rfl⟩
            have HTC := Lib.hid htC
            have HTD := Lib.hid htD
            by_cases htB : (j : Int) < (fn_ : Int)
            · have h20 : ¬ (j : Int) < 20 := by have := HX2.out; omega
              cases tC with
              | true =>
                go_wp2_with fail
                go_ret
                exact ⟨true, rfl, (fun h => by cases h), HBR.out⟩
              | false =>
                cases tD with
                | true =>
                  go_wp2_with fail
                  go_ret
                  exact ⟨true, rfl, (fun h => by cases h), HBR.out⟩
                | false =>
                  go_wp2_with fail
                  go_ret
                  exact ⟨false, rfl, (fun _ => HNL.out (by have := of_decide_eq_false HTC.out; omega) (by have := of_decide_eq_false HTD.out; omega)), HBR.out⟩
            · skip
              cases tC with
              | true =>
                go_wp2_with fail
                go_ret
                exact ⟨true, rfl, (fun h => by cases h), HBR.out⟩
              | false =>
                cases tD with
                | true =>
                  go_wp2_with fail
                  go_ret
                  exact ⟨true, rfl, (fun h => by cases h), HBR.out⟩
                | false =>
                  go_wp2_with fail
                  go_ret
                  exact ⟨false, rfl, (fun _ => HNL.out (by have := of_decide_eq_false HTC.out; omega) (by have := of_decide_eq_false HTD.out; omega)), HBR.out⟩
      · skip
        go_wp2_with fail
        go_loopw [4] (fun jv wr2 => ∃ j : Nat, j ≤ fn_ ∧ j ≤ 20 ∧ jv = .int .i64 (j : Int) ∧ Hid (∀ x ∈ M.take j, NGFr x) ∧ Hid (Below w1.heap.size w1 wr2)) (fun jv wr2 => fn_ - (intOf jv).toNat)
        case atStart => exact ⟨0, Nat.zero_le _, Nat.zero_le _, rfl, HZ2, HB⟩
        case round =>
          clear HZ2 g0 g1 HB HBR hz
          rename_i wr' wr _
          obtain ⟨j, hj, hj20, rfl, HQF, HB⟩ := hrel
          have hz := HB.out.size
          have HBR := Lib.hid (HBD.out.trans (HB.out.mono HBD.out.size))
          obtain ⟨g0, g1⟩ := MD.out wr HB.out
          have k1 : (j : Int).toNat = j := by omega
          have k2 : (0 : Int) ≤ (j : Int) := by omega
          by_cases hjn : j < fn_ ∧ j < 20
          · as_aux_lemma =>
              obtain ⟨hjn, hj19⟩ := hjn
              have hil : j < M.length := by have := HNF.out; omega
              obtain ⟨b, off, rfl, hrow⟩ := HFR.out.2 (by omega)
              obtain ⟨y0, y1, y2, q0, q1, q2, q3, yy⟩ := Frg_at (RowG.below hrow fun _ _ h => FrgE.below h HBR.out) j hil
              obtain ⟨s1, s2, s3, s4⟩ := HSF.out M[j] (List.getElem_mem hil)
              have HC : Hid (∀ W, Below wr.heap.size wr W → Calls Tryz.prog 10 #[.slice y0 y1 y2] W (GreatR (NGSs M[j].sels) W)) := Lib.hid fun W (hW : Below wr.heap.size wr W) => gsels_any M[j].sels _ W (SelSl.below yy hW) s4
              have z0 : M[j].name.length = (⟨M[j].name.toArray⟩ : ByteArray).size := by simp [ByteArray.size]
              have z1 : M[j].on.length = (⟨M[j].on.toArray⟩ : ByteArray).size := by simp [ByteArray.size]
              rw [z0] at s1
              rw [z1] at s2
              clear yy s3 s4 hrow z0 z1
              generalize (⟨M[j].name.toArray⟩ : ByteArray) = x0 at *
              generalize (⟨M[j].on.toArray⟩ : ByteArray) = x1 at *
              generalize M[j].many = mm at *
              have j1 : (j : Int) < (fn_ : Int) := by omega
              have j2 : (j : Int) < 20 := by omega
              have pb := lt_of_cell q0
              have MK : Hid (∀ W, Below wr.heap.size wr W → (fun W => Below wr.heap.size wr W ∧ W.cell? ⟨db, 0, none⟩ = some (.slice oa on_ oc) ∧ W.cell? ⟨db, 1, none⟩ = some (.slice (some ⟨b, off, none⟩) fn_ fc) ∧ W.cell? ⟨b, off + j * 4, none⟩ = some (.string x0) ∧ W.cell? ⟨b, off + j * 4 + 1, none⟩ = some (.string x1) ∧ W.cell? ⟨b, off + j * 4 + 2, none⟩ = some (.int .i64 mm) ∧ W.cell? ⟨b, off + j * 4 + 3, none⟩ = some (.slice y0 y1 y2)) W) := Lib.hid fun W hW => ⟨hW, (hW.cell (p := ⟨_, _, none⟩) (lt_of_cell g0)).trans g0, (hW.cell (p := ⟨_, _, none⟩) (lt_of_cell g1)).trans g1, (hW.cell (p := ⟨_, _, none⟩) (lt_of_cell q0)).trans q0, (hW.cell (p := ⟨_, _, none⟩) (lt_of_cell q1)).trans q1, (hW.cell (p := ⟨_, _, none⟩) (lt_of_cell q2)).trans q2, (hW.cell (p := ⟨_, _, none⟩) (lt_of_cell q3)).trans q3⟩
              clear q0 q1 q2 q3
              go_upto_region 9 with fail
              clear g0 g1
              refine wp_region_held_drew (S := fun W => Below wr.heap.size wr W ∧ W.cell? ⟨db, 0, none⟩ = some (.slice oa on_ oc) ∧ W.cell? ⟨db, 1, none⟩ = some (.slice (some ⟨b, off, none⟩) fn_ fc) ∧ W.cell? ⟨b, off + j * 4, none⟩ = some (.string x0) ∧ W.cell? ⟨b, off + j * 4 + 1, none⟩ = some (.string x1) ∧ W.cell? ⟨b, off + j * 4 + 2, none⟩ = some (.int .i64 mm) ∧ W.cell? ⟨b, off + j * 4 + 3, none⟩ = some (.slice y0 y1 y2)) (by kernel_rfl) (MK.out _ ⟨rfl, rfl, rfl, Nat.le_refl _, fun _ _ => rfl⟩) (fun hHeld => ?_)
              refine tky 0 (some 53) (v := ?_) rfl (by kernel_rfl) (by kernel_rfl) (by kernel_rfl) (fun _ _ _ h => h) ?_ hHeld ?_
              rotate_left
              focus (intro w hSw; (try dsimp only at hSw); go_simp; (try with_reducible rfl); done)
              simp only [Act.put, List.setIfInBounds_toArray, List.set_cons_zero, List.set_cons_succ]
              refine tky 1 (some 54) (v := ?_) rfl (by kernel_rfl) (by kernel_rfl) (by kernel_rfl) (fun _ _ _ h => h) ?_ hHeld ?_
              rotate_left
              focus (intro w hSw; (try dsimp only at hSw); go_simp; (try with_reducible rfl); done)
              simp only [Act.put, List.setIfInBounds_toArray, List.set_cons_zero, List.set_cons_succ]
              refine tky 2 (some 55) (v := ?_) rfl (by kernel_rfl) (by kernel_rfl) (by kernel_rfl) (fun _ _ _ h => h) ?_ hHeld ?_
              rotate_left
              focus (intro w hSw; (try dsimp only at hSw); go_simp; (try with_reducible rfl); done)
              simp only [Act.put, List.setIfInBounds_toArray, List.set_cons_zero, List.set_cons_succ]
              refine tky 3 (some 56) (v := ?_) rfl (by kernel_rfl) (by kernel_rfl) (by kernel_rfl) (fun _ _ _ h => h) ?_ hHeld ?_
              rotate_left
              focus (intro w hSw; (try dsimp only at hSw); go_simp; (try with_reducible rfl); done)
              simp only [Act.put, List.setIfInBounds_toArray, List.set_cons_zero, List.set_cons_succ]
              refine tky 4 (some 57) (v := ?_) rfl (by kernel_rfl) (by kernel_rfl) (by kernel_rfl) (fun _ _ _ h => h) ?_ hHeld ?_
              rotate_left
              focus (intro w hSw; (try dsimp only at hSw); go_simp; (try with_reducible rfl); done)
              simp only [Act.put, List.setIfInBounds_toArray, List.set_cons_zero, List.set_cons_succ]
              refine tky 5 (some 58) (v := ?_) rfl (by kernel_rfl) (by kernel_rfl) (by kernel_rfl) (fun _ _ _ h => h) ?_ hHeld ?_
              rotate_left
              focus (intro w hSw; (try dsimp only at hSw); go_simp; (try with_reducible rfl); done)
              simp only [Act.put, List.setIfInBounds_toArray, List.set_cons_zero, List.set_cons_succ]
              refine rcons 6 rfl (by kernel_rfl) (fun K hK => ?_)
              go_simp
              refine (HC.out _ hHeld.1).mono ?_; rintro e w5 ⟨g, rfl, hg, hb⟩
              have HGS := Lib.hid hg
              clear hg
              (try dsimp only)
              refine hK.out _ _ (MK.out _ (hHeld.1.trans (hb.mono hHeld.1.size))) (fun hHeld2 => ?_)
              clear hK K hHeld
              have hHeld := hHeld2
              clear hHeld2
              (try simp only [Act.put, List.setIfInBounds_toArray, List.set_cons_zero, List.set_cons_succ])
              cases g with
              | false =>
                refine tks (fun _ d _ _ _ h => by cases d <;> exact h) hHeld [(7, some 60, some false)] 17 (by kernel_rfl) rfl ?_
                simp only [lstBy, actBy, vOf, Act.put, List.setIfInBounds_toArray, List.set_cons_zero, List.set_cons_succ]
                refine tky 8 (some 61) (v := ?_) rfl (by kernel_rfl) (by kernel_rfl) (by kernel_rfl) (fun _ _ _ h => h) ?_ hHeld ?_
                rotate_left
                focus (intro w hSw; (try dsimp only at hSw); go_simp; (try with_reducible rfl); done)
                simp only [Act.put, List.setIfInBounds_toArray, List.set_cons_zero, List.set_cons_succ]
                refine tky 9 (some 62) (v := ?_) rfl (by kernel_rfl) (by kernel_rfl) (by kernel_rfl) (fun _ _ _ h => h) ?_ hHeld ?_
                rotate_left
                focus (intro w hSw; (try dsimp only at hSw); go_simp; (try with_reducible rfl); done)
                simp only [Act.put, List.setIfInBounds_toArray, List.set_cons_zero, List.set_cons_succ]
                refine tky 10 (some 63) (v := ?_) rfl (by kernel_rfl) (by kernel_rfl) (by kernel_rfl) (fun _ _ _ h => h) ?_ hHeld ?_
                rotate_left
                focus (intro w hSw; (try dsimp only at hSw); go_simp; (try with_reducible rfl); done)
                simp only [Act.put, List.setIfInBounds_toArray, List.set_cons_zero, List.set_cons_succ]
                refine tky 11 (some 64) (v := ?_) rfl (by kernel_rfl) (by kernel_rfl) (by kernel_rfl) (fun _ _ _ h => h) ?_ hHeld ?_
                rotate_left
                focus (intro w hSw; (try dsimp only at hSw); go_simp; (try with_reducible rfl); done)
                simp only [Act.put, List.setIfInBounds_toArray, List.set_cons_zero, List.set_cons_succ]
                refine tky 12 (some 65) (v := ?_) rfl (by kernel_rfl) (by kernel_rfl) (by kernel_rfl) (fun _ _ _ h => h) ?_ hHeld ?_
                rotate_left
                focus (intro w hSw; (try dsimp only at hSw); go_simp; (try with_reducible rfl); done)
                simp only [Act.put, List.setIfInBounds_toArray, List.set_cons_zero, List.set_cons_succ]
                refine tky 13 (some 66) (v := ?_) rfl (by kernel_rfl) (by kernel_rfl) (by kernel_rfl) (fun _ _ _ h => h) ?_ hHeld ?_
                rotate_left
                focus (intro w hSw; (try dsimp only at hSw); go_simp; (try with_reducible rfl); done)
                simp only [Act.put, List.setIfInBounds_toArray, List.set_cons_zero, List.set_cons_succ]
                refine tky 14 (some 67) (v := ?_) rfl (by kernel_rfl) (by kernel_rfl) (by kernel_rfl) (fun _ _ _ h => h) ?_ hHeld ?_
                rotate_left
                focus (intro w hSw; (try dsimp only at hSw); go_simp; (try with_reducible rfl); done)
                simp only [Act.put, List.setIfInBounds_toArray, List.set_cons_zero, List.set_cons_succ]
                refine tky 15 (some 68) (v := ?_) rfl (by kernel_rfl) (by kernel_rfl) (by kernel_rfl) (fun _ _ _ h => h) ?_ hHeld ?_
                rotate_left
                focus (intro w hSw; (try dsimp only at hSw); go_simp; (try with_reducible rfl); done)
                simp only [Act.put, List.setIfInBounds_toArray, List.set_cons_zero, List.set_cons_succ]
                refine tky 16 (some 69) (v := ?_) rfl (by kernel_rfl) (by kernel_rfl) (by kernel_rfl) (fun _ _ _ h => h) ?_ hHeld ?_
                rotate_left
                focus (intro w hSw; (try dsimp only at hSw); go_simp; (try with_reducible rfl); done)
                simp only [Act.put, List.setIfInBounds_toArray, List.set_cons_zero, List.set_cons_succ]
                refine tky 17 (some 70) (v := ?_) rfl (by kernel_rfl) (by kernel_rfl) (by kernel_rfl) (fun _ _ _ h => h) ?_ hHeld ?_
                rotate_left
                focus (intro w hSw; (try dsimp only at hSw); go_simp; (try with_reducible rfl); done)
                simp only [Act.put, List.setIfInBounds_toArray, List.set_cons_zero, List.set_cons_succ]
                refine tky 18 (some 71) (v := ?_) rfl (by kernel_rfl) (by kernel_rfl) (by kernel_rfl) (fun _ _ _ h => h) ?_ hHeld ?_
                rotate_left
                focus (intro w hSw; (try dsimp only at hSw); go_simp; (try with_reducible rfl); done)
                simp only [Act.put, List.setIfInBounds_toArray, List.set_cons_zero, List.set_cons_succ]
                refine tky 19 (some 72) (v := ?_) rfl (by kernel_rfl) (by kernel_rfl) (by kernel_rfl) (fun _ _ _ h => h) ?_ hHeld ?_
                rotate_left
                focus (intro w hSw; (try dsimp only at hSw); go_simp; (try with_reducible rfl); done)
                simp only [Act.put, List.setIfInBounds_toArray, List.set_cons_zero, List.set_cons_succ]
                refine tky 20 (some 73) (v := ?_) rfl (by kernel_rfl) (by kernel_rfl) (by kernel_rfl) (fun _ _ _ h => h) ?_ hHeld ?_
                rotate_left
                focus (intro w hSw; (try dsimp only at hSw); go_simp; (try with_reducible rfl); done)
                simp only [Act.put, List.setIfInBounds_toArray, List.set_cons_zero, List.set_cons_succ]
                refine tky 21 (some 74) (v := ?_) rfl (by kernel_rfl) (by kernel_rfl) (by kernel_rfl) (fun _ _ _ h => h) ?_ hHeld ?_
                rotate_left
                focus (intro w hSw; (try dsimp only at hSw); go_simp; (try with_reducible rfl); done)
                simp only [Act.put, List.setIfInBounds_toArray, List.set_cons_zero, List.set_cons_succ]
                refine tky 22 (some 75) (v := ?_) rfl (by kernel_rfl) (by kernel_rfl) (by kernel_rfl) (fun _ _ _ h => h) ?_ hHeld ?_
                rotate_left
                focus (intro w hSw; (try dsimp only at hSw); go_simp; (try with_reducible rfl); done)
                simp only [Act.put, List.setIfInBounds_toArray, List.set_cons_zero, List.set_cons_succ]
                by_cases g3 : (300 : Int) < IntKind.i64.wrap ((x0.size : Int) + (x1.size : Int))
                · refine tky 23 (some 76) (v := ?_) rfl (by kernel_rfl) (by kernel_rfl) (by kernel_rfl) (fun _ _ _ h => h) ?_ hHeld ?_
                  rotate_left
                  focus (intro w hSw; (try dsimp only at hSw); go_simp; (try with_reducible rfl); done)
                  simp only [Act.put, List.setIfInBounds_toArray, List.set_cons_zero, List.set_cons_succ]
                  refine tks (fun _ d _ _ _ h => by cases d <;> exact h) hHeld [(24, some 77, some true)] 0 (by kernel_rfl) rfl ?_
                  simp only [lstBy, actBy, vOf, Act.put, List.setIfInBounds_toArray, List.set_cons_zero, List.set_cons_succ]
                  refine wpAnyH_done (by kernel_rfl) ?_ _
                  have HBN : Hid (Below w1.heap.size w1 _) := Lib.hid (HB.out.trans (hHeld.1.mono HB.out.size))
                  go_wp2_with fail
                  go_ret
                  exact ⟨true, rfl, (fun h => by cases h), HBD.out.trans (HBN.out.mono HBD.out.size)⟩
                · refine tky 23 (some 76) (v := ?_) rfl (by kernel_rfl) (by kernel_rfl) (by kernel_rfl) (fun _ _ _ h => h) ?_ hHeld ?_
                  rotate_left
                  focus (intro w hSw; (try dsimp only at hSw); go_simp; (try with_reducible rfl); done)
                  simp only [Act.put, List.setIfInBounds_toArray, List.set_cons_zero, List.set_cons_succ]
                  refine tks (fun _ d _ _ _ h => by cases d <;> exact h) hHeld [(24, some 77, some false)] 0 (by kernel_rfl) rfl ?_
                  simp only [lstBy, actBy, vOf, Act.put, List.setIfInBounds_toArray, List.set_cons_zero, List.set_cons_succ]
                  refine wpAnyH_done (by kernel_rfl) ?_ _
                  have HBN : Hid (Below w1.heap.size w1 _) := Lib.hid (HB.out.trans (hHeld.1.mono HB.out.size))
                  have HQN : Hid (∀ x ∈ M.take (j + 1), NGFr x) := Lib.hid (take_next HQF.out hil (HGS.out (by first | exact rfl | trivial)))
                  go_wp2_with fail
                  go_roundw
                  case rel => exact ⟨j + 1, by omega, by omega, by go_num, HQN, HBN⟩
                  case measure => simp [intOf]; omega
              | true =>
                refine tks (fun _ d _ _ _ h => by cases d <;> exact h) hHeld [(7, some 60, some true), (8, some 61, none), (9, some 62, none), (10, some 63, none)] 14 (by kernel_rfl) rfl ?_
                simp only [lstBy, actBy, vOf, Act.put, List.setIfInBounds_toArray, List.set_cons_zero, List.set_cons_succ]
                refine tks (fun _ d _ _ _ h => by cases d <;> exact h) hHeld [(11, some 64, none), (12, some 65, none), (13, some 66, none), (14, some 67, none)] 10 (by kernel_rfl) rfl ?_
                simp only [lstBy, actBy, vOf, Act.put, List.setIfInBounds_toArray, List.set_cons_zero, List.set_cons_succ]
                refine tks (fun _ d _ _ _ h => by cases d <;> exact h) hHeld [(15, some 68, none), (16, some 69, none), (17, some 70, none), (18, some 71, none)] 6 (by kernel_rfl) rfl ?_
                simp only [lstBy, actBy, vOf, Act.put, List.setIfInBounds_toArray, List.set_cons_zero, List.set_cons_succ]
                refine tks (fun _ d _ _ _ h => by cases d <;> exact h) hHeld [(19, some 72, none), (20, some 73, none), (21, some 74, none), (22, some 75, none)] 2 (by kernel_rfl) rfl ?_
                simp only [lstBy, actBy, vOf, Act.put, List.setIfInBounds_toArray, List.set_cons_zero, List.set_cons_succ]
                refine tks (fun _ d _ _ _ h => by cases d <;> exact h) hHeld [(23, some 76, none), (24, some 77, some true)] 0 (by kernel_rfl) rfl ?_
                simp only [lstBy, actBy, vOf, Act.put, List.setIfInBounds_toArray, List.set_cons_zero, List.set_cons_succ]
                refine wpAnyH_done (by kernel_rfl) ?_ _
                have HBN : Hid (Below w1.heap.size w1 _) := Lib.hid (HB.out.trans (hHeld.1.mono HB.out.size))
                go_wp2_with fail
                go_ret
                exact ⟨true, rfl, (fun h => by cases h), HBD.out.trans (HBN.out.mono HBD.out.size)⟩
          · have HX2 := Lib.hid hjn
            have HQL2 : Hid (fn_ ≤ 10 → ∀ x ∈ M, NGFr x) := Lib.hid (fun h x hx => HQF.out x (by rw [List.take_of_length_le (by have := HNF.out; have := HX2.out; omega)]; exact hx))
            clear HQF hjn
            have HNL : Hid (on_ ≤ 10 → fn_ ≤ 10 → (L.length ≤ 10 ∧ M.length ≤ 10 ∧ (∀ y ∈ L, NGO y) ∧ ∀ y ∈ M, NGFr y)) := Lib.hid fun a b => ⟨by have := HNO.out; omega, by have := HNF.out; omega, HQL.out a, HQL2.out b⟩
            obtain ⟨tC, htC⟩ : ∃ t : Bool, decide ((10 : Int) < (on_ : Int)) = t := ⟨_, rfl⟩
            obtain ⟨tD, htD⟩ : ∃ t : Bool, decide ((10 : Int) < (fn_ : Int)) = t := ⟨_, rfl⟩
            have HTC := Lib.hid htC
            have HTD := Lib.hid htD
            by_cases htB : (j : Int) < (fn_ : Int)
            · have h20 : ¬ (j : Int) < 20 := by have := HX2.out; omega
              cases tC with
              | true =>
                go_wp2_with fail
                go_ret
                exact ⟨true, rfl, (fun h => by cases h), HBR.out⟩
              | false =>
                cases tD with
                | true =>
                  go_wp2_with fail
                  go_ret
                  exact ⟨true, rfl, (fun h => by cases h), HBR.out⟩
                | false =>
                  go_wp2_with fail
                  go_ret
                  exact ⟨false, rfl, (fun _ => HNL.out (by have := of_decide_eq_false HTC.out; omega) (by have := of_decide_eq_false HTD.out; omega)), HBR.out⟩
            · skip
              cases tC with
              | true =>
                go_wp2_with fail
                go_ret
                exact ⟨true, rfl, (fun h => by cases h), HBR.out⟩
              | false =>
                cases tD with
                | true =>
                  go_wp2_with fail
                  go_ret
                  exact ⟨true, rfl, (fun h => by cases h), HBR.out⟩
                | false =>
                  go_wp2_with fail
                  go_ret
                  exact ⟨false, rfl, (fun _ => HNL.out (by have := of_decide_eq_false HTC.out; omega) (by have := of_decide_eq_false HTD.out; omega)), HBR.out⟩
theorem gdoc_any (x : DocD) (v : Value) (w : World) (hv : DocV v x w) (hb : DocB x) :
    Calls Tryz.prog 4 #[v] w (GreatR (NGDoc x) w) := by
  obtain ⟨_, _, _, _, _, _, rfl, h1, h2⟩ := hv
  exact gdoc_go x.ops x.frags _ _ _ _ _ _ w (oprAt_of h1) (frgAt_of h2) hb.1.1 hb.2.1 hb.1.2 hb.2.2
end Go.Proofs.YtbejhdhhkpllfaaGreatDoor
