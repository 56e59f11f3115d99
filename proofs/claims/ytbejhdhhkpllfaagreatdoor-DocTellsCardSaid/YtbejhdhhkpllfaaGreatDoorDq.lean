/- The reference's greatInputs, GreatInputs, Great (sdl): what is not great is small. -/
import Derived.Test.YtbejhdhhkpllfaaGreatDoorDn
import Derived.Test.YtbejhdhhkpllfaaGreatDoorDb
set_option linter.unusedSimpArgs false
set_option linter.unusedVariables false
namespace Go.Proofs.YtbejhdhhkpllfaaGreatDoor
open Go.RowKit
def NGI (x : Inp) : Prop := greatV x.dflt 60 = false ∧ greatDB x.dirs = false ∧ x.wr.length ≤ 20
def NGIs (L : List Inp) : Prop := L.length ≤ 20 ∧ ∀ x ∈ L, NGI x
def NGF (x : Fld) : Prop := greatDB x.dirs = false ∧ NGIs x.args ∧ x.wr.length ≤ 20
def NGD (x : Dfn) : Prop := greatDB x.dirs = false ∧ NGIs x.inputs ∧ x.name.length ≤ 300 ∧ x.names.length ≤ 40 ∧ x.fields.length ≤ 20 ∧ (∀ f ∈ x.fields, NGF f) ∧ ∀ s ∈ x.names, s.length ≤ 300
/-- What a look at the size answers: if it is no, that holds. -/
def GreatR (P : Prop) (w : World) (e : Ending) (w' : World) : Prop := ∃ g : Bool, e = .returned (.bool g) ∧ (g = false → P) ∧ Below w.heap.size w w'
theorem argZ_of {A : List ArgD} (h : ArgB A) : ArgsZ A := ⟨h.1, fun x hx => ⟨(h.2 x hx).1, (h.2 x hx).2.1, fun c hc => ⟨((h.2 x hx).2.2 c hc).1, ((h.2 x hx).2.2 c hc).2.1⟩⟩⟩
theorem gdirs_any (A : List DirD) (u : Value) (w : World) (hr : DirSlc u A w) (hb : DirsB A) :
    Calls Tryz.prog 32 #[u] w fun e w' => e = .returned (.bool (greatDB A)) ∧ w = w' :=
  greatdirs_any A u hb.1 w hr.dir fun x hx => ⟨(hb.2 x hx).1, argZ_of (hb.2 x hx).2⟩
theorem gcels_any (V : List Cel) (v : Value) (w : World) (hv : CelSl v V w) (hb : CelB V) :
    Calls Tryz.prog 31 #[v, .int .i64 60] w fun e w' => e = .returned (.bool (greatV V 60)) ∧ w = w' :=
  rgreat03_any V v 60 hb.1 (by omega) w hv fun c hc => ⟨(hb.2 c hc).1, (hb.2 c hc).2.1⟩
theorem take_next {α : Type} {P : α → Prop} {L : List α} {k : Nat} (h : ∀ x ∈ L.take k, P x) (hk : k < L.length) (hp : P L[k]) : ∀ x ∈ L.take (k + 1), P x := by
  rw [List.take_add_one, List.getElem?_eq_getElem hk]
  intro x hx
  rcases List.mem_append.1 hx with hx | hx
  · exact h x hx
  · have : x = L[k] := by simpa using hx
    rw [this]; exact hp
set_option maxRecDepth 100000 in
set_option maxHeartbeats 8000000 in
theorem gins_row (L : List Inp) (b off cap : Nat) (hl : L.length ≤ 9223372036854775807) (w : World) (hrow : RowG 6 InpE ⟨b, off, none⟩ L w) (hsz : ∀ x ∈ L, InpB x) :
    Calls Tryz.prog 9 #[.slice (some ⟨b, off, none⟩) L.length cap] w (GreatR (NGIs L) w) := by
  have HROW := Lib.hid hrow
  have HS := Lib.hid hsz
  have HZ0 : Hid (∀ x ∈ L.take 0, NGI x) := Lib.hid (fun x hx => by cases hx)
  obtain ⟨n, hn⟩ : ∃ n, L.length = n := ⟨_, rfl⟩
  have HN := Lib.hid hn
  rw [hn] at hl ⊢
  clear hrow hsz hn
  go_enter Tryz.func9, Tryz.ntmps9
  go_wp2_with fail
  go_loopw [3] (fun iv wr => ∃ i : Nat, i ≤ n ∧ i ≤ 30 ∧ iv = .int .i64 (i : Int) ∧ Hid (∀ x ∈ L.take i, NGI x) ∧ Hid (Below w.heap.size w wr)) (fun iv wr => n - (intOf iv).toNat)
  case atStart => exact ⟨0, Nat.zero_le _, Nat.zero_le _, rfl, HZ0, Lib.hid (Below.refl _ _)⟩
  case round =>
    clear HZ0
    rename World => wr
    obtain ⟨i, hi, hi30, rfl, HQ, HB⟩ := hrel
    by_cases hin : i < n
    · by_cases h30 : i < 30
      · have hil : i < L.length := by have := HN.out; omega
        obtain ⟨y0, y1, y2, y3, y4, y5, y6, y7, y8, q0, q1, q2, q3, q4, q5, yy, yz, yu⟩ := inp_at (RowG.below HROW.out fun _ _ h => InpE.below h HB.out) i hil
        obtain ⟨s1, s2, s3, s4, s5⟩ := HS.out L[i] (List.getElem_mem hil)
        obtain ⟨t0, ht0⟩ : ∃ t, greatV L[i].dflt 60 = t := ⟨_, rfl⟩
        obtain ⟨t1, ht1⟩ : ∃ t, greatDB L[i].dirs = t := ⟨_, rfl⟩
        have HC0 := Lib.hid fun W (hW : Below wr.heap.size wr W) => gcels_any L[i].dflt _ W (yz.below hW) s4
        have HC1 := Lib.hid fun W (hW : Below wr.heap.size wr W) => gdirs_any L[i].dirs _ W (DirSlc.below yu hW) s5
        rw [ht0] at HC0
        rw [ht1] at HC1
        have hwl : y1 = L[i].wr.length := by
          obtain ⟨_, _, e⟩ := yy.form
          injection e with _ e2 _
        have HNG : Hid (t0 = false → t1 = false → y1 ≤ 20 → NGI L[i]) := Lib.hid fun a c d => ⟨ht0.trans a, ht1.trans c, by omega⟩
        have z0 : L[i].name.length = (⟨L[i].name.toArray⟩ : ByteArray).size := by simp [ByteArray.size]
        have z1 : L[i].tnm.length = (⟨L[i].tnm.toArray⟩ : ByteArray).size := by simp [ByteArray.size]
        rw [z0] at s1
        rw [z1] at s2
        clear yy yz yu s3 s4 s5 hwl z0 z1
        generalize (⟨L[i].name.toArray⟩ : ByteArray) = x0 at *
        generalize (⟨L[i].tnm.toArray⟩ : ByteArray) = x1 at *
        generalize L[i].has = hs at *
        clear ht0 ht1
        have i1 : (i : Int).toNat = i := by omega
        have i2 : (0 : Int) ≤ (i : Int) := by omega
        have i3 : (i : Int) < (n : Int) := by omega
        have i5 : (i : Int) < 30 := by omega
        have MK : Hid (∀ W, Below wr.heap.size wr W → (fun W => Below wr.heap.size wr W ∧ W.cell? ⟨b, off + i * 6, none⟩ = some (.string x0) ∧ W.cell? ⟨b, off + i * 6 + 1, none⟩ = some (.string x1) ∧ W.cell? ⟨b, off + i * 6 + 2, none⟩ = some (.slice y0 y1 y2) ∧ W.cell? ⟨b, off + i * 6 + 3, none⟩ = some (.bool hs) ∧ W.cell? ⟨b, off + i * 6 + 4, none⟩ = some (.slice y3 y4 y5) ∧ W.cell? ⟨b, off + i * 6 + 5, none⟩ = some (.slice y6 y7 y8) ∧ W.cell? ⟨b, off + i * 6 + 1 + 1, none⟩ = some (.slice y0 y1 y2)) W) := Lib.hid fun W hW => ⟨hW, (hW.cell (p := ⟨_, _, none⟩) (lt_of_cell q0)).trans q0, (hW.cell (p := ⟨_, _, none⟩) (lt_of_cell q1)).trans q1, (hW.cell (p := ⟨_, _, none⟩) (lt_of_cell q2)).trans q2, (hW.cell (p := ⟨_, _, none⟩) (lt_of_cell q3)).trans q3, (hW.cell (p := ⟨_, _, none⟩) (lt_of_cell q4)).trans q4, (hW.cell (p := ⟨_, _, none⟩) (lt_of_cell q5)).trans q5, (hW.cell (p := ⟨_, _, none⟩) (lt_of_cell q2)).trans q2⟩
        have pb := lt_of_cell q0
        clear q0 q1 q2 q3 q4 q5
        go_upto_region 4 with fail
        refine wp_region_held_drew (S := fun W => Below wr.heap.size wr W ∧ W.cell? ⟨b, off + i * 6, none⟩ = some (.string x0) ∧ W.cell? ⟨b, off + i * 6 + 1, none⟩ = some (.string x1) ∧ W.cell? ⟨b, off + i * 6 + 2, none⟩ = some (.slice y0 y1 y2) ∧ W.cell? ⟨b, off + i * 6 + 3, none⟩ = some (.bool hs) ∧ W.cell? ⟨b, off + i * 6 + 4, none⟩ = some (.slice y3 y4 y5) ∧ W.cell? ⟨b, off + i * 6 + 5, none⟩ = some (.slice y6 y7 y8) ∧ W.cell? ⟨b, off + i * 6 + 1 + 1, none⟩ = some (.slice y0 y1 y2)) (by kernel_rfl) (MK.out _ ⟨rfl, rfl, rfl, Nat.le_refl _, fun _ _ => rfl⟩) (fun hHeld => ?_)
        refine tky 0 (some 14) (v := ?_) rfl (by kernel_rfl) (by kernel_rfl) (by kernel_rfl) (fun _ _ _ h => h) ?_ hHeld ?_
        rotate_left
        focus (intro w hSw; (try dsimp only at hSw); go_simp; (try with_reducible rfl); done)
        simp only [Act.put, List.setIfInBounds_toArray, List.set_cons_zero, List.set_cons_succ]
        refine tky 1 (some 15) (v := ?_) rfl (by kernel_rfl) (by kernel_rfl) (by kernel_rfl) (fun _ _ _ h => h) ?_ hHeld ?_
        rotate_left
        focus (intro w hSw; (try dsimp only at hSw); go_simp; (try with_reducible rfl); done)
        simp only [Act.put, List.setIfInBounds_toArray, List.set_cons_zero, List.set_cons_succ]
        refine tky 2 (some 16) (v := ?_) rfl (by kernel_rfl) (by kernel_rfl) (by kernel_rfl) (fun _ _ _ h => h) ?_ hHeld ?_
        rotate_left
        focus (intro w hSw; (try dsimp only at hSw); go_simp; (try with_reducible rfl); done)
        simp only [Act.put, List.setIfInBounds_toArray, List.set_cons_zero, List.set_cons_succ]
        refine tky 3 (some 17) (v := ?_) rfl (by kernel_rfl) (by kernel_rfl) (by kernel_rfl) (fun _ _ _ h => h) ?_ hHeld ?_
        rotate_left
        focus (intro w hSw; (try dsimp only at hSw); go_simp; (try with_reducible rfl); done)
        simp only [Act.put, List.setIfInBounds_toArray, List.set_cons_zero, List.set_cons_succ]
        refine tky 4 (some 18) (v := ?_) rfl (by kernel_rfl) (by kernel_rfl) (by kernel_rfl) (fun _ _ _ h => h) ?_ hHeld ?_
        rotate_left
        focus (intro w hSw; (try dsimp only at hSw); go_simp; (try with_reducible rfl); done)
        simp only [Act.put, List.setIfInBounds_toArray, List.set_cons_zero, List.set_cons_succ]
        cases t0 with
        | false =>
          refine rcons 5 rfl (by kernel_rfl) (fun K hK => ?_)
          go_simp
          refine (HC0.out _ hHeld.1).mono ?_; rintro e w5 ⟨rfl, rfl⟩
          (try dsimp only)
          refine hK.out _ _ (hHeld) (fun hHeld2 => ?_)
          clear hK K hHeld
          have hHeld := hHeld2
          clear hHeld2
          (try simp only [Act.put, List.setIfInBounds_toArray, List.set_cons_zero, List.set_cons_succ])
          refine tks (fun _ d _ _ _ h => by cases d <;> exact h) hHeld [(6, some 20, some false)] 34 (by kernel_rfl) rfl ?_
          simp only [lstBy, actBy, vOf, Act.put, List.setIfInBounds_toArray, List.set_cons_zero, List.set_cons_succ]
          refine tky 7 (some 21) (v := ?_) rfl (by kernel_rfl) (by kernel_rfl) (by kernel_rfl) (fun _ _ _ h => h) ?_ hHeld ?_
          rotate_left
          focus (intro w hSw; (try dsimp only at hSw); go_simp; (try with_reducible rfl); done)
          simp only [Act.put, List.setIfInBounds_toArray, List.set_cons_zero, List.set_cons_succ]
          refine tky 8 (some 22) (v := ?_) rfl (by kernel_rfl) (by kernel_rfl) (by kernel_rfl) (fun _ _ _ h => h) ?_ hHeld ?_
          rotate_left
          focus (intro w hSw; (try dsimp only at hSw); go_simp; (try with_reducible rfl); done)
          simp only [Act.put, List.setIfInBounds_toArray, List.set_cons_zero, List.set_cons_succ]
          refine tky 9 (some 23) (v := ?_) rfl (by kernel_rfl) (by kernel_rfl) (by kernel_rfl) (fun _ _ _ h => h) ?_ hHeld ?_
          rotate_left
          focus (intro w hSw; (try dsimp only at hSw); go_simp; (try with_reducible rfl); done)
          simp only [Act.put, List.setIfInBounds_toArray, List.set_cons_zero, List.set_cons_succ]
          refine tky 10 (some 24) (v := ?_) rfl (by kernel_rfl) (by kernel_rfl) (by kernel_rfl) (fun _ _ _ h => h) ?_ hHeld ?_
          rotate_left
          focus (intro w hSw; (try dsimp only at hSw); go_simp; (try with_reducible rfl); done)
          simp only [Act.put, List.setIfInBounds_toArray, List.set_cons_zero, List.set_cons_succ]
          refine tky 11 (some 25) (v := ?_) rfl (by kernel_rfl) (by kernel_rfl) (by kernel_rfl) (fun _ _ _ h => h) ?_ hHeld ?_
          rotate_left
          focus (intro w hSw; (try dsimp only at hSw); go_simp; (try with_reducible rfl); done)
          simp only [Act.put, List.setIfInBounds_toArray, List.set_cons_zero, List.set_cons_succ]
          cases t1 with
          | false =>
            refine rcons 12 rfl (by kernel_rfl) (fun K hK => ?_)
            go_simp
            refine (HC1.out _ hHeld.1).mono ?_; rintro e w5 ⟨rfl, rfl⟩
            (try dsimp only)
            refine hK.out _ _ (hHeld) (fun hHeld2 => ?_)
            clear hK K hHeld
            have hHeld := hHeld2
            clear hHeld2
            (try simp only [Act.put, List.setIfInBounds_toArray, List.set_cons_zero, List.set_cons_succ])
            refine tks (fun _ d _ _ _ h => by cases d <;> exact h) hHeld [(13, some 27, some false), (14, some 28, some false)] 26 (by kernel_rfl) rfl ?_
            simp only [lstBy, actBy, vOf, Act.put, List.setIfInBounds_toArray, List.set_cons_zero, List.set_cons_succ]
            refine tky 15 (some 29) (v := ?_) rfl (by kernel_rfl) (by kernel_rfl) (by kernel_rfl) (fun _ _ _ h => h) ?_ hHeld ?_
            rotate_left
            focus (intro w hSw; (try dsimp only at hSw); go_simp; (try with_reducible rfl); done)
            simp only [Act.put, List.setIfInBounds_toArray, List.set_cons_zero, List.set_cons_succ]
            refine tky 16 (some 30) (v := ?_) rfl (by kernel_rfl) (by kernel_rfl) (by kernel_rfl) (fun _ _ _ h => h) ?_ hHeld ?_
            rotate_left
            focus (intro w hSw; (try dsimp only at hSw); go_simp; (try with_reducible rfl); done)
            simp only [Act.put, List.setIfInBounds_toArray, List.set_cons_zero, List.set_cons_succ]
            refine tky 17 (some 31) (v := ?_) rfl (by kernel_rfl) (by kernel_rfl) (by kernel_rfl) (fun _ _ _ h => h) ?_ hHeld ?_
            rotate_left
            focus (intro w hSw; (try dsimp only at hSw); go_simp; (try with_reducible rfl); done)
            simp only [Act.put, List.setIfInBounds_toArray, List.set_cons_zero, List.set_cons_succ]
            refine tky 18 (some 32) (v := ?_) rfl (by kernel_rfl) (by kernel_rfl) (by kernel_rfl) (fun _ _ _ h => h) ?_ hHeld ?_
            rotate_left
            focus (intro w hSw; (try dsimp only at hSw); go_simp; (try with_reducible rfl); done)
            simp only [Act.put, List.setIfInBounds_toArray, List.set_cons_zero, List.set_cons_succ]
            refine tky 19 (some 33) (v := ?_) rfl (by kernel_rfl) (by kernel_rfl) (by kernel_rfl) (fun _ _ _ h => h) ?_ hHeld ?_
            rotate_left
            focus (intro w hSw; (try dsimp only at hSw); go_simp; (try with_reducible rfl); done)
            simp only [Act.put, List.setIfInBounds_toArray, List.set_cons_zero, List.set_cons_succ]
            refine tky 20 (some 34) (v := ?_) rfl (by kernel_rfl) (by kernel_rfl) (by kernel_rfl) (fun _ _ _ h => h) ?_ hHeld ?_
            rotate_left
            focus (intro w hSw; (try dsimp only at hSw); go_simp; (try with_reducible rfl); done)
            simp only [Act.put, List.setIfInBounds_toArray, List.set_cons_zero, List.set_cons_succ]
            refine tky 21 (some 35) (v := ?_) rfl (by kernel_rfl) (by kernel_rfl) (by kernel_rfl) (fun _ _ _ h => h) ?_ hHeld ?_
            rotate_left
            focus (intro w hSw; (try dsimp only at hSw); go_simp; (try with_reducible rfl); done)
            simp only [Act.put, List.setIfInBounds_toArray, List.set_cons_zero, List.set_cons_succ]
            by_cases g2 : (20 : Int) < (y1 : Int)
            · refine tky 22 (some 36) (v := ?_) rfl (by kernel_rfl) (by kernel_rfl) (by kernel_rfl) (fun _ _ _ h => h) ?_ hHeld ?_
              rotate_left
              focus (intro w hSw; (try dsimp only at hSw); go_simp; (try with_reducible rfl); done)
              simp only [Act.put, List.setIfInBounds_toArray, List.set_cons_zero, List.set_cons_succ]
              refine tks (fun _ d _ _ _ h => by cases d <;> exact h) hHeld [(23, some 37, some true), (24, some 38, some true), (25, some 39, none), (26, some 40, none), (27, some 41, none), (28, some 42, none), (29, some 43, none), (30, some 44, none), (31, some 45, none), (32, some 46, none), (33, some 47, none), (34, some 48, none), (35, some 49, none), (36, some 50, none), (37, some 51, none), (38, some 52, none), (39, some 53, none), (40, some 54, some true)] 0 (by kernel_rfl) rfl ?_
              simp only [lstBy, actBy, vOf, Act.put, List.setIfInBounds_toArray, List.set_cons_zero, List.set_cons_succ]
              refine wpAnyH_done (by kernel_rfl) ?_ _
              have HBN : Hid (Below w.heap.size w _) := Lib.hid (HB.out.trans (hHeld.1.mono HB.out.size))
              go_wp2_with fail
              go_ret
              exact ⟨true, rfl, (fun h => by cases h), HBN.out⟩
            · refine tky 22 (some 36) (v := ?_) rfl (by kernel_rfl) (by kernel_rfl) (by kernel_rfl) (fun _ _ _ h => h) ?_ hHeld ?_
              rotate_left
              focus (intro w hSw; (try dsimp only at hSw); go_simp; (try with_reducible rfl); done)
              simp only [Act.put, List.setIfInBounds_toArray, List.set_cons_zero, List.set_cons_succ]
              refine tks (fun _ d _ _ _ h => by cases d <;> exact h) hHeld [(23, some 37, some false), (24, some 38, some false)] 16 (by kernel_rfl) rfl ?_
              simp only [lstBy, actBy, vOf, Act.put, List.setIfInBounds_toArray, List.set_cons_zero, List.set_cons_succ]
              refine tky 25 (some 39) (v := ?_) rfl (by kernel_rfl) (by kernel_rfl) (by kernel_rfl) (fun _ _ _ h => h) ?_ hHeld ?_
              rotate_left
              focus (intro w hSw; (try dsimp only at hSw); go_simp; (try with_reducible rfl); done)
              simp only [Act.put, List.setIfInBounds_toArray, List.set_cons_zero, List.set_cons_succ]
              refine tky 26 (some 40) (v := ?_) rfl (by kernel_rfl) (by kernel_rfl) (by kernel_rfl) (fun _ _ _ h => h) ?_ hHeld ?_
              rotate_left
              focus (intro w hSw; (try dsimp only at hSw); go_simp; (try with_reducible rfl); done)
              simp only [Act.put, List.setIfInBounds_toArray, List.set_cons_zero, List.set_cons_succ]
              refine tky 27 (some 41) (v := ?_) rfl (by kernel_rfl) (by kernel_rfl) (by kernel_rfl) (fun _ _ _ h => h) ?_ hHeld ?_
              rotate_left
              focus (intro w hSw; (try dsimp only at hSw); go_simp; (try with_reducible rfl); done)
              simp only [Act.put, List.setIfInBounds_toArray, List.set_cons_zero, List.set_cons_succ]
              refine tky 28 (some 42) (v := ?_) rfl (by kernel_rfl) (by kernel_rfl) (by kernel_rfl) (fun _ _ _ h => h) ?_ hHeld ?_
              rotate_left
              focus (intro w hSw; (try dsimp only at hSw); go_simp; (try with_reducible rfl); done)
              simp only [Act.put, List.setIfInBounds_toArray, List.set_cons_zero, List.set_cons_succ]
              refine tky 29 (some 43) (v := ?_) rfl (by kernel_rfl) (by kernel_rfl) (by kernel_rfl) (fun _ _ _ h => h) ?_ hHeld ?_
              rotate_left
              focus (intro w hSw; (try dsimp only at hSw); go_simp; (try with_reducible rfl); done)
              simp only [Act.put, List.setIfInBounds_toArray, List.set_cons_zero, List.set_cons_succ]
              refine tky 30 (some 44) (v := ?_) rfl (by kernel_rfl) (by kernel_rfl) (by kernel_rfl) (fun _ _ _ h => h) ?_ hHeld ?_
              rotate_left
              focus (intro w hSw; (try dsimp only at hSw); go_simp; (try with_reducible rfl); done)
              simp only [Act.put, List.setIfInBounds_toArray, List.set_cons_zero, List.set_cons_succ]
              refine tky 31 (some 45) (v := ?_) rfl (by kernel_rfl) (by kernel_rfl) (by kernel_rfl) (fun _ _ _ h => h) ?_ hHeld ?_
              rotate_left
              focus (intro w hSw; (try dsimp only at hSw); go_simp; (try with_reducible rfl); done)
              simp only [Act.put, List.setIfInBounds_toArray, List.set_cons_zero, List.set_cons_succ]
              refine tky 32 (some 46) (v := ?_) rfl (by kernel_rfl) (by kernel_rfl) (by kernel_rfl) (fun _ _ _ h => h) ?_ hHeld ?_
              rotate_left
              focus (intro w hSw; (try dsimp only at hSw); go_simp; (try with_reducible rfl); done)
              simp only [Act.put, List.setIfInBounds_toArray, List.set_cons_zero, List.set_cons_succ]
              refine tky 33 (some 47) (v := ?_) rfl (by kernel_rfl) (by kernel_rfl) (by kernel_rfl) (fun _ _ _ h => h) ?_ hHeld ?_
              rotate_left
              focus (intro w hSw; (try dsimp only at hSw); go_simp; (try with_reducible rfl); done)
              simp only [Act.put, List.setIfInBounds_toArray, List.set_cons_zero, List.set_cons_succ]
              refine tky 34 (some 48) (v := ?_) rfl (by kernel_rfl) (by kernel_rfl) (by kernel_rfl) (fun _ _ _ h => h) ?_ hHeld ?_
              rotate_left
              focus (intro w hSw; (try dsimp only at hSw); go_simp; (try with_reducible rfl); done)
              simp only [Act.put, List.setIfInBounds_toArray, List.set_cons_zero, List.set_cons_succ]
              refine tky 35 (some 49) (v := ?_) rfl (by kernel_rfl) (by kernel_rfl) (by kernel_rfl) (fun _ _ _ h => h) ?_ hHeld ?_
              rotate_left
              focus (intro w hSw; (try dsimp only at hSw); go_simp; (try with_reducible rfl); done)
              simp only [Act.put, List.setIfInBounds_toArray, List.set_cons_zero, List.set_cons_succ]
              refine tky 36 (some 50) (v := ?_) rfl (by kernel_rfl) (by kernel_rfl) (by kernel_rfl) (fun _ _ _ h => h) ?_ hHeld ?_
              rotate_left
              focus (intro w hSw; (try dsimp only at hSw); go_simp; (try with_reducible rfl); done)
              simp only [Act.put, List.setIfInBounds_toArray, List.set_cons_zero, List.set_cons_succ]
              refine tky 37 (some 51) (v := ?_) rfl (by kernel_rfl) (by kernel_rfl) (by kernel_rfl) (fun _ _ _ h => h) ?_ hHeld ?_
              rotate_left
              focus (intro w hSw; (try dsimp only at hSw); go_simp; (try with_reducible rfl); done)
              simp only [Act.put, List.setIfInBounds_toArray, List.set_cons_zero, List.set_cons_succ]
              refine tky 38 (some 52) (v := ?_) rfl (by kernel_rfl) (by kernel_rfl) (by kernel_rfl) (fun _ _ _ h => h) ?_ hHeld ?_
              rotate_left
              focus (intro w hSw; (try dsimp only at hSw); go_simp; (try with_reducible rfl); done)
              simp only [Act.put, List.setIfInBounds_toArray, List.set_cons_zero, List.set_cons_succ]
              by_cases g3 : (300 : Int) < IntKind.i64.wrap ((x0.size : Int) + (x1.size : Int))
              · refine tky 39 (some 53) (v := ?_) rfl (by kernel_rfl) (by kernel_rfl) (by kernel_rfl) (fun _ _ _ h => h) ?_ hHeld ?_
                rotate_left
                focus (intro w hSw; (try dsimp only at hSw); go_simp; (try with_reducible rfl); done)
                simp only [Act.put, List.setIfInBounds_toArray, List.set_cons_zero, List.set_cons_succ]
                refine tks (fun _ d _ _ _ h => by cases d <;> exact h) hHeld [(40, some 54, some true)] 0 (by kernel_rfl) rfl ?_
                simp only [lstBy, actBy, vOf, Act.put, List.setIfInBounds_toArray, List.set_cons_zero, List.set_cons_succ]
                refine wpAnyH_done (by kernel_rfl) ?_ _
                have HBN : Hid (Below w.heap.size w _) := Lib.hid (HB.out.trans (hHeld.1.mono HB.out.size))
                go_wp2_with fail
                go_ret
                exact ⟨true, rfl, (fun h => by cases h), HBN.out⟩
              · refine tky 39 (some 53) (v := ?_) rfl (by kernel_rfl) (by kernel_rfl) (by kernel_rfl) (fun _ _ _ h => h) ?_ hHeld ?_
                rotate_left
                focus (intro w hSw; (try dsimp only at hSw); go_simp; (try with_reducible rfl); done)
                simp only [Act.put, List.setIfInBounds_toArray, List.set_cons_zero, List.set_cons_succ]
                refine tks (fun _ d _ _ _ h => by cases d <;> exact h) hHeld [(40, some 54, some false)] 0 (by kernel_rfl) rfl ?_
                simp only [lstBy, actBy, vOf, Act.put, List.setIfInBounds_toArray, List.set_cons_zero, List.set_cons_succ]
                refine wpAnyH_done (by kernel_rfl) ?_ _
                have HBN : Hid (Below w.heap.size w _) := Lib.hid (HB.out.trans (hHeld.1.mono HB.out.size))
                have HQ2 : Hid (∀ x ∈ L.take (i + 1), NGI x) := Lib.hid (take_next HQ.out hil (HNG.out rfl rfl (by omega)))
                go_wp2_with fail
                go_roundw
                case rel => exact ⟨i + 1, by omega, by omega, by go_num, HQ2, HBN⟩
                case measure => simp [intOf]; omega
          | true =>
            refine rcons 12 rfl (by kernel_rfl) (fun K hK => ?_)
            go_simp
            refine (HC1.out _ hHeld.1).mono ?_; rintro e w5 ⟨rfl, rfl⟩
            (try dsimp only)
            refine hK.out _ _ (hHeld) (fun hHeld2 => ?_)
            clear hK K hHeld
            have hHeld := hHeld2
            clear hHeld2
            (try simp only [Act.put, List.setIfInBounds_toArray, List.set_cons_zero, List.set_cons_succ])
            refine tks (fun _ d _ _ _ h => by cases d <;> exact h) hHeld [(13, some 27, some true), (14, some 28, some true), (15, some 29, none), (16, some 30, none), (17, some 31, none), (18, some 32, none), (19, some 33, none), (20, some 34, none), (21, some 35, none), (22, some 36, none), (23, some 37, some true), (24, some 38, some true), (25, some 39, none), (26, some 40, none), (27, some 41, none), (28, some 42, none), (29, some 43, none), (30, some 44, none), (31, some 45, none), (32, some 46, none), (33, some 47, none), (34, some 48, none), (35, some 49, none), (36, some 50, none), (37, some 51, none), (38, some 52, none), (39, some 53, none), (40, some 54, some true)] 0 (by kernel_rfl) rfl ?_
            simp only [lstBy, actBy, vOf, Act.put, List.setIfInBounds_toArray, List.set_cons_zero, List.set_cons_succ]
            refine wpAnyH_done (by kernel_rfl) ?_ _
            have HBN : Hid (Below w.heap.size w _) := Lib.hid (HB.out.trans (hHeld.1.mono HB.out.size))
            go_wp2_with fail
            go_ret
            exact ⟨true, rfl, (fun h => by cases h), HBN.out⟩
        | true =>
          refine rcons 5 rfl (by kernel_rfl) (fun K hK => ?_)
          go_simp
          refine (HC0.out _ hHeld.1).mono ?_; rintro e w5 ⟨rfl, rfl⟩
          (try dsimp only)
          refine hK.out _ _ (hHeld) (fun hHeld2 => ?_)
          clear hK K hHeld
          have hHeld := hHeld2
          clear hHeld2
          (try simp only [Act.put, List.setIfInBounds_toArray, List.set_cons_zero, List.set_cons_succ])
          refine tks (fun _ d _ _ _ h => by cases d <;> exact h) hHeld [(6, some 20, some true), (7, some 21, none), (8, some 22, none), (9, some 23, none), (10, some 24, none), (11, some 25, none), (12, some 26, none), (13, some 27, some true), (14, some 28, some true), (15, some 29, none), (16, some 30, none), (17, some 31, none), (18, some 32, none), (19, some 33, none), (20, some 34, none), (21, some 35, none), (22, some 36, none), (23, some 37, some true), (24, some 38, some true), (25, some 39, none), (26, some 40, none), (27, some 41, none), (28, some 42, none), (29, some 43, none), (30, some 44, none), (31, some 45, none), (32, some 46, none), (33, some 47, none), (34, some 48, none), (35, some 49, none), (36, some 50, none), (37, some 51, none), (38, some 52, none), (39, some 53, none), (40, some 54, some true)] 0 (by kernel_rfl) rfl ?_
          simp only [lstBy, actBy, vOf, Act.put, List.setIfInBounds_toArray, List.set_cons_zero, List.set_cons_succ]
          refine wpAnyH_done (by kernel_rfl) ?_ _
          have HBN : Hid (Below w.heap.size w _) := Lib.hid (HB.out.trans (hHeld.1.mono HB.out.size))
          go_wp2_with fail
          go_ret
          exact ⟨true, rfl, (fun h => by cases h), HBN.out⟩
      · have h30i : ¬ (i : Int) < 30 := by omega
        have hini : (i : Int) < (n : Int) := by omega
        have hn20 : (20 : Int) < (n : Int) := by omega
        go_wp2_with fail
        go_ret
        exact ⟨true, ret_b (by simp; try omega), (fun h => by cases h), HB.out⟩
    · have hini : ¬ (i : Int) < (n : Int) := by omega
      by_cases h20 : (20 : Int) < (n : Int)
      · go_wp2_with fail
        go_ret
        exact ⟨true, ret_b (by simp; try omega), (fun h => by cases h), HB.out⟩
      · have HP : Hid (NGIs L) := Lib.hid ⟨by have := HN.out; omega, fun x hx => HQ.out x (by rw [List.take_of_length_le (by have := HN.out; omega)]; exact hx)⟩
        go_wp2_with fail
        go_ret
        exact ⟨false, ret_b (by simp; try omega), (fun _ => HP.out), HB.out⟩
set_option maxRecDepth 100000 in
theorem gins_none (a : Option Addr) (c : Nat) (w : World) :
    Calls Tryz.prog 9 #[.slice a 0 c] w (GreatR (NGIs []) w) := by
  have HP : Hid (NGIs []) := Lib.hid ⟨by simp, fun x hx => by cases hx⟩
  go_enter Tryz.func9, Tryz.ntmps9
  go_wp2_with fail
  refine wp_loop_rounds 1 ?_; rw [rounds_succ]
  go_wp2_with fail
  go_ret
  exact ⟨false, rfl, fun _ => HP.out, Below.refl _ _⟩
theorem gins_any (L : List Inp) (v : Value) (w : World) (hv : InpSl v L w) (hb : InpsB L) :
    Calls Tryz.prog 9 #[v] w (GreatR (NGIs L) w) := by
  rcases hv with ⟨a, c, rfl, rfl⟩ | ⟨b, off, cap, rfl, hrow, _⟩
  · exact gins_none a c w
  · exact gins_row L b off cap hb.1 w hrow hb.2
end Go.Proofs.YtbejhdhhkpllfaaGreatDoor
