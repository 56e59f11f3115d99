/- The walk through the reference's plain (provostref15). -/
import Derived.Test.YtcocjmbhbddgiaaGreatDoorAb
import Derived.Test.YtcocjmbhbddgiaaGreatDoorPl
import Derived.Test.YtcocjmbhbddgiaaGreatDoorSb
import Derived.IntWalk
import Derived.Deep.RegionHeld3
import Derived.Deep.LoopGhost
import Derived.Deep.QuietTactic
import Derived.BigQuiet
import Derived.StillTailTactics
set_option linter.unusedSimpArgs false
set_option linter.unusedVariables false
namespace Go.Proofs.YtcocjmbhbddgiaaGreatDoor
open Go.RowKit
theorem low_cases (c : UInt8) : (65 ≤ (c.toNat : Int) ∧ (c.toNat : Int) ≤ 90 ∧ ((lowB c).toNat : Int) = (c.toNat : Int) + 32) ∨ (((c.toNat : Int) < 65 ∨ 90 < (c.toNat : Int)) ∧ lowB c = c) := by
  unfold lowB
  by_cases h : 65 ≤ c.toNat ∧ c.toNat ≤ 90
  · left
    rw [if_pos h, UInt8.toNat_ofNat']
    omega
  · right
    rw [if_neg h]
    exact ⟨by omega, rfl⟩
theorem small_any (c : UInt8) (w : World) :
    Calls Tryz.prog 77 #[.int .u8 (c.toNat : Int)] w fun e w' => e = .returned (.int .u8 ((lowB c).toNat : Int)) ∧ w = w' := by
  have hb : c.toNat < 256 := c.toNat_lt
  rcases low_cases c with ⟨h1, h2, h3⟩ | ⟨h1, h3⟩
  · have H3 := Lib.hid h3
    clear h3
    generalize (lowB c).toNat = m at *
    generalize c.toNat = n at *
    go_enter Tryz.func77, Tryz.ntmps77
    go_wp2_with fail
    go_ret
    exact ⟨ret_i H3.out.symm, rfl⟩
  · rw [h3]
    clear h3
    generalize c.toNat = n at *
    rcases h1 with h1 | h1
    · have h2 : ¬ 65 ≤ (n : Int) := by omega
      go_enter Tryz.func77, Tryz.ntmps77
      go_wp2_with fail
      go_ret
      exact ⟨rfl, rfl⟩
    · have h2 : ¬ (n : Int) ≤ 90 := by omega
      go_enter Tryz.func77, Tryz.ntmps77
      go_wp2_with fail
      go_ret
      exact ⟨rfl, rfl⟩
/-! ### plain -/
/-- An operation that is not wanted is taken first. -/
theorem tkn {P : Program} {ops : Array Oper} {Q : Exit → Act → World → Prop} {md : Region.Mode} {S : World → Prop} (i : Nat) (d : Option Tmp) {oi : Oper} {fuel : Nat} {listed : Array Bool} {a : Act} {w : World} (hi' : ops.toList[i]? = some oi)
    (hk : (Region.noSelect ops && Region.free md ops listed i && (Region.ready md ops listed).contains i) = true) (hw : Region.wanted oi (yielded ops a.tmps) = false)
    (hd : oi.dst = d) (hQ : ∀ c a w, Q (.panic c) (a.put d undef) w → Q (.panic c) a w) (hS : S w)
    (h : wpAnyH P md ops Q S fuel (listed.setIfInBounds i true) (a.put d undef) w) : wpAnyH P md ops Q S (fuel + 1) listed a w := by
  have hi : ops[i]? = some oi := by rw [← Array.getElem?_toList]; exact hi'
  subst hd
  simp only [Bool.and_eq_true] at hk
  exact wpAnyH_take hi hk.1.1 hk.1.2 hk.2 hQ (Or.inr ⟨hw, rfl⟩) hS h
/-- An operation that yields in every world that meets S is taken first. -/
theorem tky {P : Program} {ops : Array Oper} {Q : Exit → Act → World → Prop} {md : Region.Mode} {S : World → Prop} (i : Nat) (d : Option Tmp) {v : Value} {oi : Oper} {fuel : Nat} {listed : Array Bool} {a : Act} {w : World} (hi' : ops.toList[i]? = some oi)
    (hk : (Region.noSelect ops && Region.free md ops listed i && (Region.ready md ops listed).contains i) = true) (hw : Region.wanted oi (yielded ops a.tmps) = true)
    (hd : oi.dst = d) (hQ : ∀ c a w, Q (.panic c) (a.put d v) w → Q (.panic c) a w) (hy : ∀ w, S w → (execOp a.eval oi).run P w = .ok (.value v) w) (hS : S w)
    (h : wpAnyH P md ops Q S fuel (listed.setIfInBounds i true) (a.put d v) w) : wpAnyH P md ops Q S (fuel + 1) listed a w := by
  have hi : ops[i]? = some oi := by rw [← Array.getElem?_toList]; exact hi'
  subst hd
  simp only [Bool.and_eq_true] at hk
  exact wpAnyH_take hi hk.1.1 hk.1.2 hk.2 hQ (Or.inl ⟨hw, hy⟩) hS h
/-- What is carried out comes up alone. -/
theorem rcons {P : Program} {ops : Array Oper} {Q : Exit → Act → World → Prop} {md : Region.Mode} {S : World → Prop} (i : Nat) {fuel : Nat} {listed : Array Bool} {a : Act} {w : World} {o : Oper} (ho : ops.toList[i]? = some o) (hr : Region.ready md ops listed = [i])
    (h : ∀ K' : Act → World → Prop, Shut (∀ a w, S w → (S w → wpAnyH P md ops Q S fuel (listed.setIfInBounds i true) a w) → K' a w) → if Region.wanted o (yielded ops a.tmps) = true then Oper.wp P o a w K' Q else K' (a.put o.dst undef) w) : wpAnyH P md ops Q S (fuel + 1) listed a w :=
  wpAnyH_ready (rs := [i]) hr (by simp) (AllReadyH.cons (by rw [← Array.getElem?_toList]; exact ho) h AllReadyH.nil)
theorem hex_at (n : Nat) (y : UInt8) (hu : ([48, 49, 50, 51, 52, 53, 54, 55, 56, 57, 65, 66, 67, 68, 69, 70] : List UInt8)[n]? = some y) (h : n < (⟨#[48, 49, 50, 51, 52, 53, 54, 55, 56, 57, 65, 66, 67, 68, 69, 70]⟩ : ByteArray).size) : (⟨#[48, 49, 50, 51, 52, 53, 54, 55, 56, 57, 65, 66, 67, 68, 69, 70]⟩ : ByteArray)[n]'h = y := by
  have e : (⟨#[48, 49, 50, 51, 52, 53, 54, 55, 56, 57, 65, 66, 67, 68, 69, 70]⟩ : ByteArray)[n]'h = ([48, 49, 50, 51, 52, 53, 54, 55, 56, 57, 65, 66, 67, 68, 69, 70] : List UInt8)[n]'h := rfl
  rw [e]
  rw [List.getElem?_eq_getElem (show n < ([48, 49, 50, 51, 52, 53, 54, 55, 56, 57, 65, 66, 67, 68, 69, 70] : List UInt8).length from h)] at hu
  exact Option.some.inj hu
theorem quiet_eq {P : Program} {f : FuncId} {args : Array Value} {w : World} {n : Nat} {v : Value} (h : Calls P f args (w.drewN n) fun e w' => e = .returned v ∧ w.drewN n = w') : Calls P f args (w.drewN n) fun e w'' => e = .returned v ∧ ∃ m, w'' = w.drewN m := h.mono fun _ _ ⟨he, hm⟩ => ⟨he, n, hm.symm⟩
theorem esc_nums (b c : UInt8) (hb : isHex b = true) (hc : isHex c = true) : ∃ n1 n2 : Nat, hexI b.toNat = n1 ∧ hexI c.toNat = n2 ∧ n1 < 16 ∧ n2 < 16 ∧ 16 * (n1 : Int) + n2 = ((escByte b c).toNat : Int) ∧ ([48, 49, 50, 51, 52, 53, 54, 55, 56, 57, 65, 66, 67, 68, 69, 70] : List UInt8)[n1]? = some (upB b) ∧ ([48, 49, 50, 51, 52, 53, 54, 55, 56, 57, 65, 66, 67, 68, 69, 70] : List UInt8)[n2]? = some (upB c) := by
  have tab : ∀ c : UInt8, isHex c = true → ([48, 49, 50, 51, 52, 53, 54, 55, 56, 57, 65, 66, 67, 68, 69, 70] : List UInt8)[(hexI c.toNat).toNat]? = some (upB c) := by
    intro c h
    have g := byte_if (f := fun c => !isHex c || (([48, 49, 50, 51, 52, 53, 54, 55, 56, 57, 65, 66, 67, 68, 69, 70] : List UInt8)[(hexI c.toNat).toNat]? == some (upB c))) (by decide +kernel) c
    simpa [h] using g
  have k1 := hexI_hex b
  have k2 := hexI_hex c
  rw [hb] at k1
  rw [hc] at k2
  simp at k1 k2
  refine ⟨(hexI b.toNat).toNat, (hexI c.toNat).toNat, by omega, by omega, by omega, by omega, ?_, tab b hb, tab c hc⟩
  unfold escByte
  rw [UInt8.toNat_ofNat']
  omega
set_option maxRecDepth 100000 in
set_option maxHeartbeats 4000000 in
theorem rplain_true (s : ByteArray) (hs : s.size ≤ 100000) (w : World) :
    Calls Tryz.prog 49 #[.string s, .bool true] w fun e w' => e = .returned (.string ⟨(plainL lowB s.data.toList).toArray⟩) ∧ Below w.heap.size w w' := by
  obtain ⟨r, hr⟩ : ∃ r, plainL lowB s.data.toList = r := ⟨_, rfl⟩
  have HR : Hid ([] ++ plainL lowB (s.data.toList.drop 0) = r) := Lib.hid (by rw [List.drop_zero]; exact hr)
  rw [hr]
  clear hr
  go_enter Tryz.func49, Tryz.ntmps49
  go_wp2_with fail
  go_loopg [5, 6] s.size (fun k u v wr => ∃ (j : Nat) (out : List UInt8) (ov : Value), ov = u ∧ v = .int .i64 j ∧ k + j = s.size ∧ out.length ≤ j ∧ Hid (Own w.heap.size ov out wr) ∧ Hid (out ++ plainL lowB (s.data.toList.drop j) = r) ∧ Below w.heap.size w wr)
  case atStart => exact ⟨0, [], _, rfl, rfl, by omega, by simp, Lib.hid (Own.nil _ _), HR, Below.refl _ _⟩
  case round =>
    rename World => wo
    obtain ⟨j, out, ov, rfl, rfl, hk, hout, HO, HJ, hbw⟩ := hrel
    have hsz := hbw.size
    by_cases hlt : j < s.size
    · have hd : s.data.toList.drop j = s[j] :: s.data.toList.drop (j + 1) := by
        rw [List.drop_eq_getElem_cons (by rw [Array.length_toList]; exact hlt)]; rfl
      have HE := Lib.hid (fun w => escape_any s j (by omega) (by omega) w)
      cases he : esc (s.data.toList.drop j) with
      | false =>
        have HJ2 : Hid ((out ++ [lowB s[j]]) ++ plainL lowB (s.data.toList.drop (j + 1)) = r) := Lib.hid (by
          have := HJ.out
          rw [hd] at this he
          rw [plain_cons lowB _ _ he] at this
          rw [List.append_assoc]; exact this)
        rw [he] at HE
        have HS := Lib.hid (fun w => small_any s[j] w)
        obtain ⟨g, rfl⟩ : ∃ g, gk = g + 1 := ⟨gk - 1, by omega⟩
        clear hd he HJ
        go_wp2_with fail
        refine (HE.out _).mono ?_; rintro e w1 ⟨rfl, rfl⟩
        go_wp2_with fail
        refine (HS.out _).mono ?_; rintro e w2 ⟨rfl, rfl⟩
        go_wp2_with (at_builtin; refine wpList_push rfl _ _ rfl w.heap.size ov out rfl (HO.out.alloc _) ⟨wo.heap.size, 0, none⟩ 1 [lowB s[j]] rfl (new_bytes wo _ [lowB s[j]]) ?c1 ?c2 ?_)
        case c1 => simp; omega
        case c2 => simp; omega
        intro v' w3 hown' hgrow
        have hbw3 : Below w.heap.size w w3 := (hbw.alloc hsz _).grown hgrow (by simp; omega) HO.out.lt
        have HO3 := Lib.hid hown'
        clear hown' hgrow HO
        go_wp2_with fail
        go_roundg g
        case measure => omega
        case rel => exact ⟨j + 1, out ++ [lowB s[j]], _, rfl, by go_num, by omega, by simp; omega, HO3, HJ2, hbw3⟩
      | true =>
        have h2 : j + 2 < s.size := by
          by_cases q : j + 2 < s.size
          · exact q
          · rw [esc_far s j q] at he; cases he
        have h1 : j + 1 < s.size := by omega
        have hat := esc_at s j h2
        rw [he] at hat HE
        have hat2 := hat.symm
        simp only [Bool.and_eq_true] at hat2
        obtain ⟨⟨ha, hb⟩, hc⟩ := hat2
        have hd3 : s.data.toList.drop j = 37 :: s[j + 1] :: s[j + 2] :: s.data.toList.drop (j + 3) := by
          rw [show ((37 : Int)) = ((37 : Nat) : Int) from rfl, byte_eq _ 37 (by decide), beq_iff_eq] at ha
          rw [hd, ha, List.drop_eq_getElem_cons (by rw [Array.length_toList]; exact h1), List.drop_eq_getElem_cons (by rw [Array.length_toList]; exact h2)]; rfl
        have HV1 := Lib.hid (fun w => value_any s[j + 1] w)
        have HV2 := Lib.hid (fun w => value_any s[j + 2] w)
        obtain ⟨n1, n2, e1, e2, b1, b2, ex, u1, u2⟩ := esc_nums s[j + 1] s[j + 2] hb hc
        rw [e1] at HV1
        rw [e2] at HV2
        have HF := Lib.hid (fun w => free_any (escByte s[j + 1] s[j + 2]) w)
        have HS := Lib.hid (fun w => small_any (escByte s[j + 1] s[j + 2]) w)
        have HJ2 : Hid ((out ++ outE lowB s[j + 1] s[j + 2]) ++ plainL lowB (s.data.toList.drop (j + 3)) = r) := Lib.hid (by
          have := HJ.out
          rw [hd3, plain_esc lowB _ _ _ hb hc] at this
          rw [List.append_assoc]; exact this)
        obtain ⟨g, rfl⟩ : ∃ g, gk = g + 3 := ⟨gk - 3, by omega⟩
        obtain ⟨x, hx⟩ : ∃ x, escByte s[j + 1] s[j + 2] = x := ⟨_, rfl⟩
        have hx8 := x.toNat_lt
        rw [hx] at HF HS ex
        have v1 : IntKind.i64.wrap (16 * (n1 : Int)) = 16 * (n1 : Int) := IntWalk.i64_in _ (by omega)
        have v2 : IntKind.i64.wrap (16 * (n1 : Int) + (n2 : Int)) = (x.toNat : Int) := by rw [ex]; exact IntWalk.i64_in _ (by omega)
        have v3 : 16 * (n1 : Int) + (n2 : Int) = (x.toNat : Int) := ex
        have q1 : (x.toNat : Int) / 16 = n1 := by omega
        have q2 : (x.toNat : Int) % 16 = n2 := by omega
        have s1 : (j : Int) + 1 < s.size := by omega
        have s2 : (j : Int) + 2 < s.size := by omega
        have s3 : (0 : Int) ≤ (j : Int) + 1 := by omega
        have s4 : (0 : Int) ≤ (j : Int) + 2 := by omega
        have v4 : IntKind.i64.wrap ((j : Int) + 1) = (j : Int) + 1 := IntWalk.i64_in _ (by omega)
        have v5 : IntKind.i64.wrap ((j : Int) + 2) = (j : Int) + 2 := IntWalk.i64_in _ (by omega)
        have t1 : ((j : Int) + 1).toNat = j + 1 := by omega
        have t2 : ((j : Int) + 2).toNat = j + 2 := by omega
        clear hd he HJ hat ha hb hc hd3 e1 e2
        cases hf : isFree x with
        | true =>
          have HJ3 : Hid ((out ++ [lowB x]) ++ plainL lowB (s.data.toList.drop (j + 3)) = r) := Lib.hid (by
            have := HJ2.out; unfold outE at this; rw [hx, if_pos hf] at this; exact this)
          rw [hf] at HF
          clear hf HJ2 hx u1 u2
          go_wp2_with fail
          refine (HE.out _).mono ?_; rintro e w1 ⟨rfl, rfl⟩
          go_wp2_with fail
          go_quiet ((first | (with_reducible exact quiet_eq (HV1.out _)) | (with_reducible exact quiet_eq (HV2.out _))))
          obtain ⟨V, hV⟩ : ∃ V, wo.drewN nq = V := ⟨_, rfl⟩
          have HO := Lib.hid (show Own w.heap.size ov out V by rw [← hV]; exact HO.out.below ⟨rfl, rfl, rfl, Nat.le_refl _, fun _ _ => rfl⟩)
          have hbw : Below w.heap.size w V := by rw [← hV]; exact hbw.trans ⟨rfl, rfl, rfl, Nat.le_refl _, fun _ _ => rfl⟩
          have hsz := hbw.size
          rw [hV]
          clear hV v1 v2 v3 v4 v5
          go_wp2_with fail
          refine (HF.out _).mono ?_; rintro e w2 ⟨rfl, rfl⟩
          go_wp2_with fail
          refine (HS.out _).mono ?_; rintro e w3 ⟨rfl, rfl⟩
          go_wp2_with (at_builtin; refine wpList_push rfl _ _ rfl w.heap.size ov out rfl (HO.out.alloc _) ⟨V.heap.size, 0, none⟩ 1 [lowB x] rfl (new_bytes V _ [lowB x]) ?c1 ?c2 ?_)
          case c1 => simp; omega
          case c2 => simp; omega
          intro v' w4 hown' hgrow
          have hbw3 : Below w.heap.size w w4 := (hbw.alloc hsz _).grown hgrow (by simp; omega) HO.out.lt
          have HO3 := Lib.hid hown'
          clear hown' hgrow HO
          go_wp2_with fail
          go_roundg g
          case measure => omega
          case rel => exact ⟨j + 3, out ++ [lowB x], _, rfl, by go_num, by omega, by simp; omega, HO3, HJ3, hbw3⟩
        | false =>
          have HJ3 : Hid ((out ++ [37, upB s[j + 1], upB s[j + 2]]) ++ plainL lowB (s.data.toList.drop (j + 3)) = r) := Lib.hid (by
            have := HJ2.out; unfold outE at this; rw [hx, if_neg (by rw [hf]; decide)] at this; exact this)
          rw [hf] at HF
          clear hf HJ2 hx
          obtain ⟨y1, hy1⟩ : ∃ y, upB s[j + 1] = y := ⟨_, rfl⟩
          obtain ⟨y2, hy2⟩ : ∃ y, upB s[j + 2] = y := ⟨_, rfl⟩
          rw [hy1] at HJ3 u1
          rw [hy2] at HJ3 u2
          have U1 : ∀ h, ((⟨#[48, 49, 50, 51, 52, 53, 54, 55, 56, 57, 65, 66, 67, 68, 69, 70]⟩ : ByteArray)[n1]'h) = y1 := fun h => hex_at n1 y1 u1 h
          have U2 : ∀ h, ((⟨#[48, 49, 50, 51, 52, 53, 54, 55, 56, 57, 65, 66, 67, 68, 69, 70]⟩ : ByteArray)[n2]'h) = y2 := fun h => hex_at n2 y2 u2 h
          have b3 : (n1 : Int) < 16 := by omega
          have b4 : (n2 : Int) < 16 := by omega
          have q3 : (x.toNat : Int).tmod 16 = n2 := by rw [Int.tmod_eq_emod_of_nonneg (by omega)]; exact q2
          have q4 : (x.toNat : Int).tdiv 16 = n1 := by rw [Int.tdiv_eq_ediv_of_nonneg (by omega)]; exact q1
          have b5 : (0 : Int) ≤ n1 := by omega
          have b6 : (0 : Int) ≤ n2 := by omega
          have v6 : IntKind.i64.wrap (n1 : Int) = n1 := IntWalk.i64_in _ (by omega)
          have v7 : IntKind.i64.wrap (n2 : Int) = n2 := IntWalk.i64_in _ (by omega)
          clear hy1 hy2 u1 u2
          go_wp2_with fail
          refine (HE.out _).mono ?_; rintro e w1 ⟨rfl, rfl⟩
          go_wp2_with fail
          go_quiet ((first | (with_reducible exact quiet_eq (HV1.out _)) | (with_reducible exact quiet_eq (HV2.out _))))
          obtain ⟨V, hV⟩ : ∃ V, wo.drewN nq = V := ⟨_, rfl⟩
          have HO := Lib.hid (show Own w.heap.size ov out V by rw [← hV]; exact HO.out.below ⟨rfl, rfl, rfl, Nat.le_refl _, fun _ _ => rfl⟩)
          have hbw : Below w.heap.size w V := by rw [← hV]; exact hbw.trans ⟨rfl, rfl, rfl, Nat.le_refl _, fun _ _ => rfl⟩
          have hsz := hbw.size
          rw [hV]
          clear hV v1 v2 v3 v4 v5
          go_wp2_with fail
          refine (HF.out _).mono ?_; rintro e w2 ⟨rfl, rfl⟩
          go_wp2_with fail
          refine wp_region_held_drew (S := fun _ => True) (by kernel_rfl) (trivial) (fun hHeld => ?_)
          refine tky 0 (some 39) (v := ?_) rfl (by kernel_rfl) (by kernel_rfl) (by kernel_rfl) (fun _ _ _ h => h) ?_ hHeld ?_
          rotate_left
          focus (intro w hSw; (try dsimp only at hSw); go_simp; (try with_reducible rfl); done)
          simp only [Act.put, List.setIfInBounds_toArray, List.set_cons_zero, List.set_cons_succ]
          refine tky 1 (some 40) (v := ?_) rfl (by kernel_rfl) (by kernel_rfl) (by kernel_rfl) (fun _ _ _ h => h) ?_ hHeld ?_
          rotate_left
          focus (intro w hSw; (try dsimp only at hSw); go_simp; (try with_reducible rfl); done)
          simp only [Act.put, List.setIfInBounds_toArray, List.set_cons_zero, List.set_cons_succ]
          refine tky 2 (some 41) (v := ?_) rfl (by kernel_rfl) (by kernel_rfl) (by kernel_rfl) (fun _ _ _ h => h) ?_ hHeld ?_
          rotate_left
          focus (intro w hSw; (try dsimp only at hSw); go_simp; (try with_reducible rfl); done)
          simp only [Act.put, List.setIfInBounds_toArray, List.set_cons_zero, List.set_cons_succ]
          refine tky 3 (some 42) (v := ?_) rfl (by kernel_rfl) (by kernel_rfl) (by kernel_rfl) (fun _ _ _ h => h) ?_ hHeld ?_
          rotate_left
          focus (intro w hSw; (try dsimp only at hSw); go_simp; (try with_reducible rfl); done)
          simp only [Act.put, List.setIfInBounds_toArray, List.set_cons_zero, List.set_cons_succ]
          refine tky 4 (some 43) (v := ?_) rfl (by kernel_rfl) (by kernel_rfl) (by kernel_rfl) (fun _ _ _ h => h) ?_ hHeld ?_
          rotate_left
          focus (intro w hSw; (try dsimp only at hSw); go_simp; (try with_reducible rfl); done)
          simp only [Act.put, List.setIfInBounds_toArray, List.set_cons_zero, List.set_cons_succ]
          refine tky 5 (some 44) (v := ?_) rfl (by kernel_rfl) (by kernel_rfl) (by kernel_rfl) (fun _ _ _ h => h) ?_ hHeld ?_
          rotate_left
          focus (intro w hSw; (try dsimp only at hSw); go_simp; (try with_reducible rfl); done)
          simp only [Act.put, List.setIfInBounds_toArray, List.set_cons_zero, List.set_cons_succ]
          refine tky 6 (some 45) (v := ?_) rfl (by kernel_rfl) (by kernel_rfl) (by kernel_rfl) (fun _ _ _ h => h) ?_ hHeld ?_
          rotate_left
          focus (intro w hSw; (try dsimp only at hSw); go_simp; (try with_reducible rfl); done)
          simp only [Act.put, List.setIfInBounds_toArray, List.set_cons_zero, List.set_cons_succ]
          refine rcons 7 rfl (by kernel_rfl) (fun K hK => ?_)
          go_simp
          refine hK.out _ _ (trivial) (fun hHeld2 => ?_)
          clear hK K hHeld
          have hHeld := hHeld2
          clear hHeld2
          (try simp only [Act.put, List.setIfInBounds_toArray, List.set_cons_zero, List.set_cons_succ])
          refine rcons 8 rfl (by kernel_rfl) (fun K hK => ?_)
          rw [if_pos]
          rotate_left
          focus kernel_rfl
          (refine wp_push _ _ rfl w.heap.size ov out rfl (by exact (HO.out.drew.alloc _)) ⟨V.heap.size, 0, none⟩ 3 [37, y1, y2] rfl (by exact (new_bytes V.drew _ [37, y1, y2])) (by show out.length + 3 ≤ _; omega) (by show _ ≤ Array.size _; simp <;> omega) ?_; intro v' w3 hown' hgrow)
          (try dsimp only)
          refine hK.out _ _ (trivial) (fun hHeld2 => ?_)
          clear hK K hHeld
          have hHeld := hHeld2
          clear hHeld2
          (try simp only [Act.put, List.setIfInBounds_toArray, List.set_cons_zero, List.set_cons_succ])
          refine tky 9 (some 5) (v := ?_) rfl (by kernel_rfl) (by kernel_rfl) (by kernel_rfl) (fun _ _ _ h => h) ?_ hHeld ?_
          rotate_left
          focus (intro w hSw; (try dsimp only at hSw); go_simp; (try with_reducible rfl); done)
          simp only [Act.put, List.setIfInBounds_toArray, List.set_cons_zero, List.set_cons_succ]
          refine wpAnyH_done (by kernel_rfl) ?_ _
          have hbw3 : Below w.heap.size w w3 := Below.grown ((hbw.alloc hsz _).drew) hgrow (by show _ ≤ Array.size _; simp <;> omega) HO.out.lt
          have HO3 := Lib.hid hown'
          clear hown' hgrow HO hHeld
          go_wp2_with fail
          go_roundg g
          case measure => omega
          case rel => exact ⟨j + 3, out ++ [37, y1, y2], _, rfl, by go_num, by omega, by simp; omega, HO3, HJ3, hbw3⟩
    · have HF : Hid (out = r) := Lib.hid (by
        have := HJ.out
        rw [List.drop_of_length_le (by rw [Array.length_toList]; exact Nat.le_of_not_lt hlt)] at this
        rw [← this]; unfold plainL; rw [List.append_nil])
      have HC := run_convert_own HO.out
      clear HO
      go_wp2_with fail
      go_ret
      exact ⟨congrArg (fun z : List UInt8 => Ending.returned (Value.string ⟨z.toArray⟩)) HF.out, hbw⟩
set_option maxRecDepth 100000 in
set_option maxHeartbeats 4000000 in
theorem rplain_false (s : ByteArray) (hs : s.size ≤ 100000) (w : World) :
    Calls Tryz.prog 49 #[.string s, .bool false] w fun e w' => e = .returned (.string ⟨(plainL id s.data.toList).toArray⟩) ∧ Below w.heap.size w w' := by
  obtain ⟨r, hr⟩ : ∃ r, plainL id s.data.toList = r := ⟨_, rfl⟩
  have HR : Hid ([] ++ plainL id (s.data.toList.drop 0) = r) := Lib.hid (by rw [List.drop_zero]; exact hr)
  rw [hr]
  clear hr
  go_enter Tryz.func49, Tryz.ntmps49
  go_wp2_with fail
  go_loopg [5, 6] s.size (fun k u v wr => ∃ (j : Nat) (out : List UInt8) (ov : Value), ov = u ∧ v = .int .i64 j ∧ k + j = s.size ∧ out.length ≤ j ∧ Hid (Own w.heap.size ov out wr) ∧ Hid (out ++ plainL id (s.data.toList.drop j) = r) ∧ Below w.heap.size w wr)
  case atStart => exact ⟨0, [], _, rfl, rfl, by omega, by simp, Lib.hid (Own.nil _ _), HR, Below.refl _ _⟩
  case round =>
    rename World => wo
    obtain ⟨j, out, ov, rfl, rfl, hk, hout, HO, HJ, hbw⟩ := hrel
    have hsz := hbw.size
    by_cases hlt : j < s.size
    · have hd : s.data.toList.drop j = s[j] :: s.data.toList.drop (j + 1) := by
        rw [List.drop_eq_getElem_cons (by rw [Array.length_toList]; exact hlt)]; rfl
      have HE := Lib.hid (fun w => escape_any s j (by omega) (by omega) w)
      cases he : esc (s.data.toList.drop j) with
      | false =>
        have HJ2 : Hid ((out ++ [id s[j]]) ++ plainL id (s.data.toList.drop (j + 1)) = r) := Lib.hid (by
          have := HJ.out
          rw [hd] at this he
          rw [plain_cons id _ _ he] at this
          rw [List.append_assoc]; exact this)
        rw [he] at HE
        have HS := Lib.hid (fun w => small_any s[j] w)
        obtain ⟨g, rfl⟩ : ∃ g, gk = g + 1 := ⟨gk - 1, by omega⟩
        clear hd he HJ
        go_wp2_with fail
        refine (HE.out _).mono ?_; rintro e w1 ⟨rfl, rfl⟩
        go_wp2_with (at_builtin; refine wpList_push rfl _ _ rfl w.heap.size ov out rfl (HO.out.alloc _) ⟨wo.heap.size, 0, none⟩ 1 [id s[j]] rfl (new_bytes wo _ [id s[j]]) ?c1 ?c2 ?_)
        case c1 => simp; omega
        case c2 => simp; omega
        intro v' w3 hown' hgrow
        have hbw3 : Below w.heap.size w w3 := (hbw.alloc hsz _).grown hgrow (by simp; omega) HO.out.lt
        have HO3 := Lib.hid hown'
        clear hown' hgrow HO
        go_wp2_with fail
        go_roundg g
        case measure => omega
        case rel => exact ⟨j + 1, out ++ [id s[j]], _, rfl, by go_num, by omega, by simp; omega, HO3, HJ2, hbw3⟩
      | true =>
        have h2 : j + 2 < s.size := by
          by_cases q : j + 2 < s.size
          · exact q
          · rw [esc_far s j q] at he; cases he
        have h1 : j + 1 < s.size := by omega
        have hat := esc_at s j h2
        rw [he] at hat HE
        have hat2 := hat.symm
        simp only [Bool.and_eq_true] at hat2
        obtain ⟨⟨ha, hb⟩, hc⟩ := hat2
        have hd3 : s.data.toList.drop j = 37 :: s[j + 1] :: s[j + 2] :: s.data.toList.drop (j + 3) := by
          rw [show ((37 : Int)) = ((37 : Nat) : Int) from rfl, byte_eq _ 37 (by decide), beq_iff_eq] at ha
          rw [hd, ha, List.drop_eq_getElem_cons (by rw [Array.length_toList]; exact h1), List.drop_eq_getElem_cons (by rw [Array.length_toList]; exact h2)]; rfl
        have HV1 := Lib.hid (fun w => value_any s[j + 1] w)
        have HV2 := Lib.hid (fun w => value_any s[j + 2] w)
        obtain ⟨n1, n2, e1, e2, b1, b2, ex, u1, u2⟩ := esc_nums s[j + 1] s[j + 2] hb hc
        rw [e1] at HV1
        rw [e2] at HV2
        have HF := Lib.hid (fun w => free_any (escByte s[j + 1] s[j + 2]) w)
        have HS := Lib.hid (fun w => small_any (escByte s[j + 1] s[j + 2]) w)
        have HJ2 : Hid ((out ++ outE id s[j + 1] s[j + 2]) ++ plainL id (s.data.toList.drop (j + 3)) = r) := Lib.hid (by
          have := HJ.out
          rw [hd3, plain_esc id _ _ _ hb hc] at this
          rw [List.append_assoc]; exact this)
        obtain ⟨g, rfl⟩ : ∃ g, gk = g + 3 := ⟨gk - 3, by omega⟩
        obtain ⟨x, hx⟩ : ∃ x, escByte s[j + 1] s[j + 2] = x := ⟨_, rfl⟩
        have hx8 := x.toNat_lt
        rw [hx] at HF HS ex
        have v1 : IntKind.i64.wrap (16 * (n1 : Int)) = 16 * (n1 : Int) := IntWalk.i64_in _ (by omega)
        have v2 : IntKind.i64.wrap (16 * (n1 : Int) + (n2 : Int)) = (x.toNat : Int) := by rw [ex]; exact IntWalk.i64_in _ (by omega)
        have v3 : 16 * (n1 : Int) + (n2 : Int) = (x.toNat : Int) := ex
        have q1 : (x.toNat : Int) / 16 = n1 := by omega
        have q2 : (x.toNat : Int) % 16 = n2 := by omega
        have s1 : (j : Int) + 1 < s.size := by omega
        have s2 : (j : Int) + 2 < s.size := by omega
        have s3 : (0 : Int) ≤ (j : Int) + 1 := by omega
        have s4 : (0 : Int) ≤ (j : Int) + 2 := by omega
        have v4 : IntKind.i64.wrap ((j : Int) + 1) = (j : Int) + 1 := IntWalk.i64_in _ (by omega)
        have v5 : IntKind.i64.wrap ((j : Int) + 2) = (j : Int) + 2 := IntWalk.i64_in _ (by omega)
        have t1 : ((j : Int) + 1).toNat = j + 1 := by omega
        have t2 : ((j : Int) + 2).toNat = j + 2 := by omega
        clear hd he HJ hat ha hb hc hd3 e1 e2
        cases hf : isFree x with
        | true =>
          have HJ3 : Hid ((out ++ [id x]) ++ plainL id (s.data.toList.drop (j + 3)) = r) := Lib.hid (by
            have := HJ2.out; unfold outE at this; rw [hx, if_pos hf] at this; exact this)
          rw [hf] at HF
          clear hf HJ2 hx u1 u2
          go_wp2_with fail
          refine (HE.out _).mono ?_; rintro e w1 ⟨rfl, rfl⟩
          go_wp2_with fail
          go_quiet ((first | (with_reducible exact quiet_eq (HV1.out _)) | (with_reducible exact quiet_eq (HV2.out _))))
          obtain ⟨V, hV⟩ : ∃ V, wo.drewN nq = V := ⟨_, rfl⟩
          have HO := Lib.hid (show Own w.heap.size ov out V by rw [← hV]; exact HO.out.below ⟨rfl, rfl, rfl, Nat.le_refl _, fun _ _ => rfl⟩)
          have hbw : Below w.heap.size w V := by rw [← hV]; exact hbw.trans ⟨rfl, rfl, rfl, Nat.le_refl _, fun _ _ => rfl⟩
          have hsz := hbw.size
          rw [hV]
          clear hV v1 v2 v3 v4 v5
          go_wp2_with fail
          refine (HF.out _).mono ?_; rintro e w2 ⟨rfl, rfl⟩
          go_wp2_with (at_builtin; refine wpList_push rfl _ _ rfl w.heap.size ov out rfl (HO.out.alloc _) ⟨V.heap.size, 0, none⟩ 1 [id x] rfl (new_bytes V _ [id x]) ?c1 ?c2 ?_)
          case c1 => simp; omega
          case c2 => simp; omega
          intro v' w4 hown' hgrow
          have hbw3 : Below w.heap.size w w4 := (hbw.alloc hsz _).grown hgrow (by simp; omega) HO.out.lt
          have HO3 := Lib.hid hown'
          clear hown' hgrow HO
          go_wp2_with fail
          go_roundg g
          case measure => omega
          case rel => exact ⟨j + 3, out ++ [id x], _, rfl, by go_num, by omega, by simp; omega, HO3, HJ3, hbw3⟩
        | false =>
          have HJ3 : Hid ((out ++ [37, upB s[j + 1], upB s[j + 2]]) ++ plainL id (s.data.toList.drop (j + 3)) = r) := Lib.hid (by
            have := HJ2.out; unfold outE at this; rw [hx, if_neg (by rw [hf]; decide)] at this; exact this)
          rw [hf] at HF
          clear hf HJ2 hx
          obtain ⟨y1, hy1⟩ : ∃ y, upB s[j + 1] = y := ⟨_, rfl⟩
          obtain ⟨y2, hy2⟩ : ∃ y, upB s[j + 2] = y := ⟨_, rfl⟩
          rw [hy1] at HJ3 u1
          rw [hy2] at HJ3 u2
          have U1 : ∀ h, ((⟨#[48, 49, 50, 51, 52, 53, 54, 55, 56, 57, 65, 66, 67, 68, 69, 70]⟩ : ByteArray)[n1]'h) = y1 := fun h => hex_at n1 y1 u1 h
          have U2 : ∀ h, ((⟨#[48, 49, 50, 51, 52, 53, 54, 55, 56, 57, 65, 66, 67, 68, 69, 70]⟩ : ByteArray)[n2]'h) = y2 := fun h => hex_at n2 y2 u2 h
          have b3 : (n1 : Int) < 16 := by omega
          have b4 : (n2 : Int) < 16 := by omega
          have q3 : (x.toNat : Int).tmod 16 = n2 := by rw [Int.tmod_eq_emod_of_nonneg (by omega)]; exact q2
          have q4 : (x.toNat : Int).tdiv 16 = n1 := by rw [Int.tdiv_eq_ediv_of_nonneg (by omega)]; exact q1
          have b5 : (0 : Int) ≤ n1 := by omega
          have b6 : (0 : Int) ≤ n2 := by omega
          have v6 : IntKind.i64.wrap (n1 : Int) = n1 := IntWalk.i64_in _ (by omega)
          have v7 : IntKind.i64.wrap (n2 : Int) = n2 := IntWalk.i64_in _ (by omega)
          clear hy1 hy2 u1 u2
          go_wp2_with fail
          refine (HE.out _).mono ?_; rintro e w1 ⟨rfl, rfl⟩
          go_wp2_with fail
          go_quiet ((first | (with_reducible exact quiet_eq (HV1.out _)) | (with_reducible exact quiet_eq (HV2.out _))))
          obtain ⟨V, hV⟩ : ∃ V, wo.drewN nq = V := ⟨_, rfl⟩
          have HO := Lib.hid (show Own w.heap.size ov out V by rw [← hV]; exact HO.out.below ⟨rfl, rfl, rfl, Nat.le_refl _, fun _ _ => rfl⟩)
          have hbw : Below w.heap.size w V := by rw [← hV]; exact hbw.trans ⟨rfl, rfl, rfl, Nat.le_refl _, fun _ _ => rfl⟩
          have hsz := hbw.size
          rw [hV]
          clear hV v1 v2 v3 v4 v5
          go_wp2_with fail
          refine (HF.out _).mono ?_; rintro e w2 ⟨rfl, rfl⟩
          go_wp2_with fail
          refine wp_region_held_drew (S := fun _ => True) (by kernel_rfl) (trivial) (fun hHeld => ?_)
          refine tky 0 (some 39) (v := ?_) rfl (by kernel_rfl) (by kernel_rfl) (by kernel_rfl) (fun _ _ _ h => h) ?_ hHeld ?_
          rotate_left
          focus (intro w hSw; (try dsimp only at hSw); go_simp; (try with_reducible rfl); done)
          simp only [Act.put, List.setIfInBounds_toArray, List.set_cons_zero, List.set_cons_succ]
          refine tky 1 (some 40) (v := ?_) rfl (by kernel_rfl) (by kernel_rfl) (by kernel_rfl) (fun _ _ _ h => h) ?_ hHeld ?_
          rotate_left
          focus (intro w hSw; (try dsimp only at hSw); go_simp; (try with_reducible rfl); done)
          simp only [Act.put, List.setIfInBounds_toArray, List.set_cons_zero, List.set_cons_succ]
          refine tky 2 (some 41) (v := ?_) rfl (by kernel_rfl) (by kernel_rfl) (by kernel_rfl) (fun _ _ _ h => h) ?_ hHeld ?_
          rotate_left
          focus (intro w hSw; (try dsimp only at hSw); go_simp; (try with_reducible rfl); done)
          simp only [Act.put, List.setIfInBounds_toArray, List.set_cons_zero, List.set_cons_succ]
          refine tky 3 (some 42) (v := ?_) rfl (by kernel_rfl) (by kernel_rfl) (by kernel_rfl) (fun _ _ _ h => h) ?_ hHeld ?_
          rotate_left
          focus (intro w hSw; (try dsimp only at hSw); go_simp; (try with_reducible rfl); done)
          simp only [Act.put, List.setIfInBounds_toArray, List.set_cons_zero, List.set_cons_succ]
          refine tky 4 (some 43) (v := ?_) rfl (by kernel_rfl) (by kernel_rfl) (by kernel_rfl) (fun _ _ _ h => h) ?_ hHeld ?_
          rotate_left
          focus (intro w hSw; (try dsimp only at hSw); go_simp; (try with_reducible rfl); done)
          simp only [Act.put, List.setIfInBounds_toArray, List.set_cons_zero, List.set_cons_succ]
          refine tky 5 (some 44) (v := ?_) rfl (by kernel_rfl) (by kernel_rfl) (by kernel_rfl) (fun _ _ _ h => h) ?_ hHeld ?_
          rotate_left
          focus (intro w hSw; (try dsimp only at hSw); go_simp; (try with_reducible rfl); done)
          simp only [Act.put, List.setIfInBounds_toArray, List.set_cons_zero, List.set_cons_succ]
          refine tky 6 (some 45) (v := ?_) rfl (by kernel_rfl) (by kernel_rfl) (by kernel_rfl) (fun _ _ _ h => h) ?_ hHeld ?_
          rotate_left
          focus (intro w hSw; (try dsimp only at hSw); go_simp; (try with_reducible rfl); done)
          simp only [Act.put, List.setIfInBounds_toArray, List.set_cons_zero, List.set_cons_succ]
          refine rcons 7 rfl (by kernel_rfl) (fun K hK => ?_)
          go_simp
          refine hK.out _ _ (trivial) (fun hHeld2 => ?_)
          clear hK K hHeld
          have hHeld := hHeld2
          clear hHeld2
          (try simp only [Act.put, List.setIfInBounds_toArray, List.set_cons_zero, List.set_cons_succ])
          refine rcons 8 rfl (by kernel_rfl) (fun K hK => ?_)
          rw [if_pos]
          rotate_left
          focus kernel_rfl
          (refine wp_push _ _ rfl w.heap.size ov out rfl (by exact (HO.out.drew.alloc _)) ⟨V.heap.size, 0, none⟩ 3 [37, y1, y2] rfl (by exact (new_bytes V.drew _ [37, y1, y2])) (by show out.length + 3 ≤ _; omega) (by show _ ≤ Array.size _; simp <;> omega) ?_; intro v' w3 hown' hgrow)
          (try dsimp only)
          refine hK.out _ _ (trivial) (fun hHeld2 => ?_)
          clear hK K hHeld
          have hHeld := hHeld2
          clear hHeld2
          (try simp only [Act.put, List.setIfInBounds_toArray, List.set_cons_zero, List.set_cons_succ])
          refine tky 9 (some 5) (v := ?_) rfl (by kernel_rfl) (by kernel_rfl) (by kernel_rfl) (fun _ _ _ h => h) ?_ hHeld ?_
          rotate_left
          focus (intro w hSw; (try dsimp only at hSw); go_simp; (try with_reducible rfl); done)
          simp only [Act.put, List.setIfInBounds_toArray, List.set_cons_zero, List.set_cons_succ]
          refine wpAnyH_done (by kernel_rfl) ?_ _
          have hbw3 : Below w.heap.size w w3 := Below.grown ((hbw.alloc hsz _).drew) hgrow (by show _ ≤ Array.size _; simp <;> omega) HO.out.lt
          have HO3 := Lib.hid hown'
          clear hown' hgrow HO hHeld
          go_wp2_with fail
          go_roundg g
          case measure => omega
          case rel => exact ⟨j + 3, out ++ [37, y1, y2], _, rfl, by go_num, by omega, by simp; omega, HO3, HJ3, hbw3⟩
    · have HF : Hid (out = r) := Lib.hid (by
        have := HJ.out
        rw [List.drop_of_length_le (by rw [Array.length_toList]; exact Nat.le_of_not_lt hlt)] at this
        rw [← this]; unfold plainL; rw [List.append_nil])
      have HC := run_convert_own HO.out
      clear HO
      go_wp2_with fail
      go_ret
      exact ⟨congrArg (fun z : List UInt8 => Ending.returned (Value.string ⟨z.toArray⟩)) HF.out, hbw⟩
end Go.Proofs.YtcocjmbhbddgiaaGreatDoor
