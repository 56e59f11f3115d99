/- The walks through the reference's texts (provostref01: One, Next, Points, Check). -/
import Derived.Test.YtglhanblbojkhaaGreatDoorTv
set_option linter.unusedSimpArgs false
set_option linter.unusedVariables false
namespace Go.Proofs.YtglhanblbojkhaaGreatDoor
open Go.RowKit Go.Lib
/-- An operation that is not wanted is taken first. -/
theorem tkn {P : Program} {ops : Array Oper} {Q : Exit → Act → World → Prop} {md : Region.Mode} {S : World → Prop} (i : Nat) (d : Option Tmp) {oi : Oper} {fuel : Nat} {listed : Array Bool} {a : Act} {w : World} (hi' : ops.toList[i]? = some oi)
    (hk : (Region.noSelect ops && Region.free md ops listed i && (Region.ready md ops listed).contains i) = true) (hw : Region.wanted oi (yielded ops a.tmps) = false)
    (hd : oi.dst = d) (hQ : ∀ c a w, Q (.panic c) (a.put d undef) w → Q (.panic c) a w) (hS : S w)
    (h : wpAnyH P md ops Q S fuel (listed.setIfInBounds i true) (a.put d undef) w) : wpAnyH P md ops Q S (fuel + 1) listed a w := by
  have hi : ops[i]? = some oi := by rw [← Array.getElem?_toList]; exact hi'
  subst hd
  simp only [Bool.and_eq_true] at hk
  exact wpAnyH_take hi hk.1.1 hk.1.2 hk.2 hQ (Or.inr ⟨hw, rfl⟩) hS h
/-- An operation that yields in every world that meets S is taken first. -/
theorem tky {P : Program} {ops : Array Oper} {Q : Exit → Act → World → Prop} {md : Region.Mode} {S : World → Prop} (i : Nat) (d : Option Tmp) {v : Value} {oi : Oper} {fuel : Nat} {listed : Array Bool} {a : Act} {w : World} (hi' : ops.toList[i]? = some oi)
    (hk : (Region.noSelect ops && Region.free md ops listed i && (Region.ready md ops listed).contains i) = true) (hw : Region.wanted oi (yielded ops a.tmps) = true)
    (hd : oi.dst = d) (hQ : ∀ c a w, Q (.panic c) (a.put d v) w → Q (.panic c) a w) (hy : ∀ w, S w → (execOp a.eval oi).run P w = .ok (.value v) w) (hS : S w)
    (h : wpAnyH P md ops Q S fuel (listed.setIfInBounds i true) (a.put d v) w) : wpAnyH P md ops Q S (fuel + 1) listed a w := by
  have hi : ops[i]? = some oi := by rw [← Array.getElem?_toList]; exact hi'
  subst hd
  simp only [Bool.and_eq_true] at hk
  exact wpAnyH_take hi hk.1.1 hk.1.2 hk.2 hQ (Or.inl ⟨hw, hy⟩) hS h
/-- What is carried out comes up alone. -/
theorem rcons {P : Program} {ops : Array Oper} {Q : Exit → Act → World → Prop} {md : Region.Mode} {S : World → Prop} (i : Nat) {fuel : Nat} {listed : Array Bool} {a : Act} {w : World} {o : Oper} (ho : ops.toList[i]? = some o) (hr : Region.ready md ops listed = [i])
    (h : ∀ K' : Act → World → Prop, Shut (∀ a w, S w → (S w → wpAnyH P md ops Q S fuel (listed.setIfInBounds i true) a w) → K' a w) → if Region.wanted o (yielded ops a.tmps) = true then Oper.wp P o a w K' Q else K' (a.put o.dst undef) w) : wpAnyH P md ops Q S (fuel + 1) listed a w :=
  wpAnyH_ready (rs := [i]) hr (by simp) (AllReadyH.cons (by rw [← Array.getElem?_toList]; exact ho) h AllReadyH.nil)
theorem ext_list (s : ByteArray) (a m : Nat) : (s.extract a (a + m)).toList = (s.data.toList.drop a).take m := by
  rw [ByteArray.toList_eq, ByteArray.data_extract, Array.toList_extract, List.extract_eq_take_drop]
  rw [show a + m - a = m by omega]
set_option maxRecDepth 100000 in
set_option maxHeartbeats 2000000 in
theorem rone_no (s : ByteArray) (k m n : Nat) (H1 : Hid (∀ w, Calls Tryz.prog 121 #[.string s, .int .i64 (k : Int), .int .i64 (m : Int)] w fun e w' => e = .returned (.int .i64 (n : Int)) ∧ w = w')) (H2 : Hid (∀ w, Calls Tryz.prog 122 #[.int .i64 (n : Int)] w fun e w' => e = .returned (.bool false) ∧ w = w')) (hk : k + m ≤ s.size) (hs : s.size ≤ 1000000) (w : World) :
    Calls Tryz.prog 94 #[.string s, .int .i64 (k : Int), .int .i64 (m : Int)] w fun e w' => e = .returned (.tuple #[.int .i64 (n : Int), .bool false]) ∧ Below w.heap.size w w' := by
  go_enter Tryz.func94, Tryz.ntmps94
  go_wp2_with fail
  refine (H1.out _).mono ?_; rintro e w1 ⟨rfl, rfl⟩
  go_wp2_with fail
  refine wp_region_held_drew (S := fun _ => True) (by kernel_rfl) (trivial) (fun hHeld => ?_)
  refine tky 0 (some 23) (v := ?_) rfl (by kernel_rfl) (by kernel_rfl) (by kernel_rfl) (fun _ _ _ h => h) ?_ hHeld ?_
  rotate_left
  focus (intro w hSw; (try dsimp only at hSw); go_simp; (try with_reducible rfl); done)
  simp only [Act.put, List.setIfInBounds_toArray, List.set_cons_zero, List.set_cons_succ]
  refine tky 1 (some 24) (v := ?_) rfl (by kernel_rfl) (by kernel_rfl) (by kernel_rfl) (fun _ _ _ h => h) ?_ hHeld ?_
  rotate_left
  focus (intro w hSw; (try dsimp only at hSw); go_simp; (try with_reducible rfl); done)
  simp only [Act.put, List.setIfInBounds_toArray, List.set_cons_zero, List.set_cons_succ]
  refine rcons 2 rfl (by kernel_rfl) (fun K hK => ?_)
  go_simp
  (refine (H2.out _).mono ?_; rintro e w1 ⟨rfl, rfl⟩)
  (try dsimp only)
  refine hK.out _ _ (trivial) (fun hHeld2 => ?_)
  clear hK K hHeld
  have hHeld := hHeld2
  clear hHeld2
  (try simp only [Act.put, List.setIfInBounds_toArray, List.set_cons_zero, List.set_cons_succ])
  refine tky 3 (some 26) (v := ?_) rfl (by kernel_rfl) (by kernel_rfl) (by kernel_rfl) (fun _ _ _ h => h) ?_ hHeld ?_
  rotate_left
  focus (intro w hSw; (try dsimp only at hSw); go_simp; (try with_reducible rfl); done)
  simp only [Act.put, List.setIfInBounds_toArray, List.set_cons_zero, List.set_cons_succ]
  refine tkn 4 (some 27) rfl (by kernel_rfl) (by kernel_rfl) (by kernel_rfl) (fun _ _ _ h => h) hHeld ?_
  simp only [Act.put, List.setIfInBounds_toArray, List.set_cons_zero, List.set_cons_succ]
  refine tkn 5 (some 28) rfl (by kernel_rfl) (by kernel_rfl) (by kernel_rfl) (fun _ _ _ h => h) hHeld ?_
  simp only [Act.put, List.setIfInBounds_toArray, List.set_cons_zero, List.set_cons_succ]
  refine tkn 6 (some 29) rfl (by kernel_rfl) (by kernel_rfl) (by kernel_rfl) (fun _ _ _ h => h) hHeld ?_
  simp only [Act.put, List.setIfInBounds_toArray, List.set_cons_zero, List.set_cons_succ]
  refine tkn 7 (some 30) rfl (by kernel_rfl) (by kernel_rfl) (by kernel_rfl) (fun _ _ _ h => h) hHeld ?_
  simp only [Act.put, List.setIfInBounds_toArray, List.set_cons_zero, List.set_cons_succ]
  refine tkn 8 (some 31) rfl (by kernel_rfl) (by kernel_rfl) (by kernel_rfl) (fun _ _ _ h => h) hHeld ?_
  simp only [Act.put, List.setIfInBounds_toArray, List.set_cons_zero, List.set_cons_succ]
  refine tkn 9 (some 32) rfl (by kernel_rfl) (by kernel_rfl) (by kernel_rfl) (fun _ _ _ h => h) hHeld ?_
  simp only [Act.put, List.setIfInBounds_toArray, List.set_cons_zero, List.set_cons_succ]
  refine tkn 10 (some 33) rfl (by kernel_rfl) (by kernel_rfl) (by kernel_rfl) (fun _ _ _ h => h) hHeld ?_
  simp only [Act.put, List.setIfInBounds_toArray, List.set_cons_zero, List.set_cons_succ]
  refine tkn 11 (some 34) rfl (by kernel_rfl) (by kernel_rfl) (by kernel_rfl) (fun _ _ _ h => h) hHeld ?_
  simp only [Act.put, List.setIfInBounds_toArray, List.set_cons_zero, List.set_cons_succ]
  refine tkn 12 (some 35) rfl (by kernel_rfl) (by kernel_rfl) (by kernel_rfl) (fun _ _ _ h => h) hHeld ?_
  simp only [Act.put, List.setIfInBounds_toArray, List.set_cons_zero, List.set_cons_succ]
  refine tkn 13 (some 36) rfl (by kernel_rfl) (by kernel_rfl) (by kernel_rfl) (fun _ _ _ h => h) hHeld ?_
  simp only [Act.put, List.setIfInBounds_toArray, List.set_cons_zero, List.set_cons_succ]
  refine tky 14 (some 37) (v := ?_) rfl (by kernel_rfl) (by kernel_rfl) (by kernel_rfl) (fun _ _ _ h => h) ?_ hHeld ?_
  rotate_left
  focus (intro w hSw; (try dsimp only at hSw); go_simp; (try with_reducible rfl); done)
  simp only [Act.put, List.setIfInBounds_toArray, List.set_cons_zero, List.set_cons_succ]
  refine tky 15 (some 6) (v := ?_) rfl (by kernel_rfl) (by kernel_rfl) (by kernel_rfl) (fun _ _ _ h => h) ?_ hHeld ?_
  rotate_left
  focus (intro w hSw; (try dsimp only at hSw); go_simp; (try with_reducible rfl); done)
  simp only [Act.put, List.setIfInBounds_toArray, List.set_cons_zero, List.set_cons_succ]
  refine tky 16 (some 7) (v := ?_) rfl (by kernel_rfl) (by kernel_rfl) (by kernel_rfl) (fun _ _ _ h => h) ?_ hHeld ?_
  rotate_left
  focus (intro w hSw; (try dsimp only at hSw); go_simp; (try with_reducible rfl); done)
  simp only [Act.put, List.setIfInBounds_toArray, List.set_cons_zero, List.set_cons_succ]
  refine wpAnyH_done (by kernel_rfl) ?_ _
  go_wp2_with fail
  go_ret2
  exact ⟨rfl, (Below.refl _ _).drew⟩
set_option maxRecDepth 100000 in
set_option maxHeartbeats 2000000 in
theorem rone_yes (s : ByteArray) (k m n : Nat) (H1 : Hid (∀ w, Calls Tryz.prog 121 #[.string s, .int .i64 (k : Int), .int .i64 (m : Int)] w fun e w' => e = .returned (.int .i64 (n : Int)) ∧ w = w')) (H2 : Hid (∀ w, Calls Tryz.prog 122 #[.int .i64 (n : Int)] w fun e w' => e = .returned (.bool true) ∧ w = w'))
    (H3 : Hid (∀ w, Calls Tryz.prog 96 #[.int .i64 (n : Int)] w fun e w' => ∃ v, e = .returned v ∧ Own w.heap.size v (encN n) w' ∧ Below w.heap.size w w')) (hk : k + m ≤ s.size) (hs : s.size ≤ 1000000) (r : Bool) (hr : ((encN n) == (s.data.toList.drop k).take m) = r) (w : World) :
    Calls Tryz.prog 94 #[.string s, .int .i64 (k : Int), .int .i64 (m : Int)] w fun e w' => e = .returned (.tuple #[.int .i64 (n : Int), .bool r]) ∧ Below w.heap.size w w' := by
  have v1 : IntKind.i64.wrap ((k : Int) + m) = (k : Int) + m := IntWalk.i64_in _ (by omega)
  have t1 : ((k : Int) + m).toNat = k + m := by omega
  have b1 : (0 : Int) ≤ k := by omega
  have b2 : (k : Int) ≤ (k : Int) + m := by omega
  have b3 : (k : Int) + m ≤ s.size := by omega
  have HR := Lib.hid hr
  clear hr
  go_enter Tryz.func94, Tryz.ntmps94
  go_wp2_with fail
  refine (H1.out _).mono ?_; rintro e w1 ⟨rfl, rfl⟩
  go_wp2_with fail
  refine wp_region_held_drew (S := fun _ => True) (by kernel_rfl) (trivial) (fun hHeld => ?_)
  refine tky 0 (some 23) (v := ?_) rfl (by kernel_rfl) (by kernel_rfl) (by kernel_rfl) (fun _ _ _ h => h) ?_ hHeld ?_
  rotate_left
  focus (intro w hSw; (try dsimp only at hSw); go_simp; (try with_reducible rfl); done)
  simp only [Act.put, List.setIfInBounds_toArray, List.set_cons_zero, List.set_cons_succ]
  refine tky 1 (some 24) (v := ?_) rfl (by kernel_rfl) (by kernel_rfl) (by kernel_rfl) (fun _ _ _ h => h) ?_ hHeld ?_
  rotate_left
  focus (intro w hSw; (try dsimp only at hSw); go_simp; (try with_reducible rfl); done)
  simp only [Act.put, List.setIfInBounds_toArray, List.set_cons_zero, List.set_cons_succ]
  refine rcons 2 rfl (by kernel_rfl) (fun K hK => ?_)
  go_simp
  (refine (H2.out _).mono ?_; rintro e w1 ⟨rfl, rfl⟩)
  (try dsimp only)
  refine hK.out _ _ (trivial) (fun hHeld2 => ?_)
  clear hK K hHeld
  have hHeld := hHeld2
  clear hHeld2
  (try simp only [Act.put, List.setIfInBounds_toArray, List.set_cons_zero, List.set_cons_succ])
  refine tky 3 (some 26) (v := ?_) rfl (by kernel_rfl) (by kernel_rfl) (by kernel_rfl) (fun _ _ _ h => h) ?_ hHeld ?_
  rotate_left
  focus (intro w hSw; (try dsimp only at hSw); go_simp; (try with_reducible rfl); done)
  simp only [Act.put, List.setIfInBounds_toArray, List.set_cons_zero, List.set_cons_succ]
  refine tky 4 (some 27) (v := ?_) rfl (by kernel_rfl) (by kernel_rfl) (by kernel_rfl) (fun _ _ _ h => h) ?_ hHeld ?_
  rotate_left
  focus (intro w hSw; (try dsimp only at hSw); go_simp; (try with_reducible rfl); done)
  simp only [Act.put, List.setIfInBounds_toArray, List.set_cons_zero, List.set_cons_succ]
  refine tky 7 (some 30) (v := ?_) rfl (by kernel_rfl) (by kernel_rfl) (by kernel_rfl) (fun _ _ _ h => h) ?_ hHeld ?_
  rotate_left
  focus (intro w hSw; (try dsimp only at hSw); go_simp; (try with_reducible rfl); done)
  simp only [Act.put, List.setIfInBounds_toArray, List.set_cons_zero, List.set_cons_succ]
  refine tky 8 (some 31) (v := ?_) rfl (by kernel_rfl) (by kernel_rfl) (by kernel_rfl) (fun _ _ _ h => h) ?_ hHeld ?_
  rotate_left
  focus (intro w hSw; (try dsimp only at hSw); go_simp; (try with_reducible rfl); done)
  simp only [Act.put, List.setIfInBounds_toArray, List.set_cons_zero, List.set_cons_succ]
  refine tky 9 (some 32) (v := ?_) rfl (by kernel_rfl) (by kernel_rfl) (by kernel_rfl) (fun _ _ _ h => h) ?_ hHeld ?_
  rotate_left
  focus (intro w hSw; (try dsimp only at hSw); go_simp; (try with_reducible rfl); done)
  simp only [Act.put, List.setIfInBounds_toArray, List.set_cons_zero, List.set_cons_succ]
  refine tky 10 (some 33) (v := ?_) rfl (by kernel_rfl) (by kernel_rfl) (by kernel_rfl) (fun _ _ _ h => h) ?_ hHeld ?_
  rotate_left
  focus (intro w hSw; (try dsimp only at hSw); go_simp; (try with_reducible rfl); done)
  simp only [Act.put, List.setIfInBounds_toArray, List.set_cons_zero, List.set_cons_succ]
  refine tky 11 (some 34) (v := ?_) rfl (by kernel_rfl) (by kernel_rfl) (by kernel_rfl) (fun _ _ _ h => h) ?_ hHeld ?_
  rotate_left
  focus (intro w hSw; (try dsimp only at hSw); go_simp; (try with_reducible rfl); done)
  simp only [Act.put, List.setIfInBounds_toArray, List.set_cons_zero, List.set_cons_succ]
  refine tky 12 (some 35) (v := ?_) rfl (by kernel_rfl) (by kernel_rfl) (by kernel_rfl) (fun _ _ _ h => h) ?_ hHeld ?_
  rotate_left
  focus (intro w hSw; (try dsimp only at hSw); go_simp; (try with_reducible rfl); done)
  simp only [Act.put, List.setIfInBounds_toArray, List.set_cons_zero, List.set_cons_succ]
  refine rcons 5 rfl (by kernel_rfl) (fun K hK => ?_)
  go_simp
  (refine (H3.out _).mono ?_; rintro e w2 ⟨bv, rfl, hown, hb⟩; have HC := run_convert_own hown)
  (try dsimp only)
  refine hK.out _ _ (trivial) (fun hHeld2 => ?_)
  clear hK K hHeld
  have hHeld := hHeld2
  clear hHeld2
  (try simp only [Act.put, List.setIfInBounds_toArray, List.set_cons_zero, List.set_cons_succ])
  refine tky 15 (some 6) (v := ?_) rfl (by kernel_rfl) (by kernel_rfl) (by kernel_rfl) (fun _ _ _ h => h) ?_ hHeld ?_
  rotate_left
  focus (intro w hSw; (try dsimp only at hSw); go_simp; (try with_reducible rfl); done)
  simp only [Act.put, List.setIfInBounds_toArray, List.set_cons_zero, List.set_cons_succ]
  refine rcons 6 rfl (by kernel_rfl) (fun K hK => ?_)
  go_simp
  refine hK.out _ _ (trivial) (fun hHeld2 => ?_)
  clear hK K hHeld
  have hHeld := hHeld2
  clear hHeld2
  (try simp only [Act.put, List.setIfInBounds_toArray, List.set_cons_zero, List.set_cons_succ])
  refine tky 13 (some 36) (v := ?_) rfl (by kernel_rfl) (by kernel_rfl) (by kernel_rfl) (fun _ _ _ h => h) ?_ hHeld ?_
  rotate_left
  focus (intro w hSw; (try dsimp only at hSw); go_simp; (try with_reducible rfl); done)
  simp only [Act.put, List.setIfInBounds_toArray, List.set_cons_zero, List.set_cons_succ]
  refine tky 14 (some 37) (v := ?_) rfl (by kernel_rfl) (by kernel_rfl) (by kernel_rfl) (fun _ _ _ h => h) ?_ hHeld ?_
  rotate_left
  focus (intro w hSw; (try dsimp only at hSw); go_simp; (try with_reducible rfl); done)
  simp only [Act.put, List.setIfInBounds_toArray, List.set_cons_zero, List.set_cons_succ]
  refine tky 16 (some 7) (v := ?_) rfl (by kernel_rfl) (by kernel_rfl) (by kernel_rfl) (fun _ _ _ h => h) ?_ hHeld ?_
  rotate_left
  focus (intro w hSw; (try dsimp only at hSw); go_simp; (try with_reducible rfl); done)
  simp only [Act.put, List.setIfInBounds_toArray, List.set_cons_zero, List.set_cons_succ]
  refine wpAnyH_done (by kernel_rfl) ?_ _
  have hbw : Below w.heap.size w w2 := Below.trans (Below.refl _ _).drew hb
  clear hb HC hown hHeld
  go_wp2_with fail
  go_ret2
  exact ⟨congrArg (fun b : Bool => Ending.returned (Value.tuple #[.int .i64 (n : Int), .bool b])) (by rw [ext_list]; exact HR.out), hbw⟩
/-- What One answers at a place. -/
def oneV (l : List UInt8) (m : Nat) : Value := if m ≤ l.length then .tuple #[.int .i64 (numN (l.take m) : Nat), .bool (oneB l m)] else .tuple #[.int .i64 0, .bool false]
theorem num_le (l : List UInt8) : numN l ≤ 100000000 := by
  match l with
  | [] => exact Nat.zero_le _
  | [a] => simp only [numN]; have := a.toNat_lt; omega
  | [a, b] => simp only [numN]; omega
  | [a, b, c] => simp only [numN]; omega
  | [a, b, c, d] => simp only [numN]; omega
  | _ :: _ :: _ :: _ :: _ :: _ => exact Nat.zero_le _
set_option maxRecDepth 100000 in
theorem rone_far (s : ByteArray) (k m : Nat) (hk : s.size < k + m) (hk2 : k ≤ 1000000) (hm : m ≤ 4) (hs : s.size ≤ 1000000) (w : World) :
    Calls Tryz.prog 94 #[.string s, .int .i64 (k : Int), .int .i64 (m : Int)] w fun e w' => e = .returned (.tuple #[.int .i64 0, .bool false]) ∧ Below w.heap.size w w' := by
  go_enter Tryz.func94, Tryz.ntmps94
  go_wp2_with fail
  go_ret2
  exact ⟨rfl, Below.refl _ _⟩
theorem rone_any (s : ByteArray) (k m : Nat) (hk : k ≤ s.size) (h1 : 1 ≤ m) (hm : m ≤ 4) (hs : s.size ≤ 1000000) (w : World) :
    Calls Tryz.prog 94 #[.string s, .int .i64 (k : Int), .int .i64 (m : Int)] w fun e w' => e = .returned (oneV (s.data.toList.drop k) m) ∧ Below w.heap.size w w' := by
  have hl : (s.data.toList.drop k).length = s.size - k := by rw [List.length_drop, Array.length_toList]; rfl
  unfold oneV
  by_cases hc : k + m ≤ s.size
  · rw [if_pos (by omega)]
    have H1 : ∀ w, Calls Tryz.prog 121 #[.string s, .int .i64 (k : Int), .int .i64 (m : Int)] w fun e w' => e = .returned (.int .i64 (numN ((s.data.toList.drop k).take m) : Nat)) ∧ w = w' := by
      intro w
      rcases (show m = 1 ∨ m = 2 ∨ m = 3 ∨ m = 4 by omega) with rfl | rfl | rfl | rfl
      · exact rnumber1 s k hc hs w
      · exact rnumber2 s k hc hs w
      · exact rnumber3 s k hc hs w
      · exact rnumber4 s k hc hs w
    have hn := num_le ((s.data.toList.drop k).take m)
    unfold oneB
    rw [decide_eq_true (by omega), Bool.true_and]
    generalize hN : numN ((s.data.toList.drop k).take m) = n at *
    have H2 := fun w => ris_any n hn w
    cases hp : isPt n with
    | false =>
      rw [hp] at H2
      exact rone_no s k m n (Lib.hid H1) (Lib.hid H2) hc hs w
    | true =>
      rw [hp] at H2
      exact rone_yes s k m n (Lib.hid H1) (Lib.hid H2) (Lib.hid fun w => rbytes_any n hp w) hc hs _ rfl w
  · rw [if_neg (by omega)]
    exact rone_far s k m (by omega) (by omega) hm hs w
set_option maxRecDepth 100000 in
set_option maxHeartbeats 2000000 in
theorem rnext_1 (s : ByteArray) (k : Nat) (n1 : Int) (H1 : Hid (∀ w, Calls Tryz.prog 94 #[.string s, .int .i64 (k : Int), .int .i64 1] w fun e w' => e = .returned (.tuple #[.int .i64 n1, .bool true]) ∧ Below w.heap.size w w')) (hk : k < s.size) (hs : s.size ≤ 1000000) (w : World) :
    Calls Tryz.prog 71 #[.string s, .int .i64 (k : Int)] w fun e w' => e = .returned (.tuple #[.int .i64 n1, .int .i64 1, .int .i64 0]) ∧ Below w.heap.size w w' := by
  have HW0 := Lib.hid (Below.refl w.heap.size w)
  go_enter Tryz.func71, Tryz.ntmps71
  go_wp2_with fail
  refine wp_loop_rounds 5 ?_
  rw [rounds_succ]
  go_wp2_with fail
  refine (H1.out _).mono ?_; rintro e w1 ⟨rfl, hb⟩
  have HW1 := Lib.hid (HW0.out.trans (hb.mono HW0.out.size))
  clear hb
  go_wp2_with fail
  go_ret3
  exact ⟨rfl, HW1.out⟩
set_option maxRecDepth 100000 in
set_option maxHeartbeats 2000000 in
theorem rnext_2 (s : ByteArray) (k : Nat) (n1 n2 : Int) (H1 : Hid (∀ w, Calls Tryz.prog 94 #[.string s, .int .i64 (k : Int), .int .i64 1] w fun e w' => e = .returned (.tuple #[.int .i64 n1, .bool false]) ∧ Below w.heap.size w w')) (H2 : Hid (∀ w, Calls Tryz.prog 94 #[.string s, .int .i64 (k : Int), .int .i64 2] w fun e w' => e = .returned (.tuple #[.int .i64 n2, .bool true]) ∧ Below w.heap.size w w')) (hk : k < s.size) (hs : s.size ≤ 1000000) (w : World) :
    Calls Tryz.prog 71 #[.string s, .int .i64 (k : Int)] w fun e w' => e = .returned (.tuple #[.int .i64 n2, .int .i64 2, .int .i64 0]) ∧ Below w.heap.size w w' := by
  have HW0 := Lib.hid (Below.refl w.heap.size w)
  go_enter Tryz.func71, Tryz.ntmps71
  go_wp2_with fail
  refine wp_loop_rounds 5 ?_
  rw [rounds_succ]
  go_wp2_with fail
  refine (H1.out _).mono ?_; rintro e w1 ⟨rfl, hb⟩
  have HW1 := Lib.hid (HW0.out.trans (hb.mono HW0.out.size))
  clear hb
  go_wp2_with fail
  rw [rounds_succ]
  go_wp2_with fail
  refine (H2.out _).mono ?_; rintro e w2 ⟨rfl, hb⟩
  have HW2 := Lib.hid (HW1.out.trans (hb.mono HW1.out.size))
  clear hb
  go_wp2_with fail
  go_ret3
  exact ⟨rfl, HW2.out⟩
set_option maxRecDepth 100000 in
set_option maxHeartbeats 2000000 in
theorem rnext_3 (s : ByteArray) (k : Nat) (n1 n2 n3 : Int) (H1 : Hid (∀ w, Calls Tryz.prog 94 #[.string s, .int .i64 (k : Int), .int .i64 1] w fun e w' => e = .returned (.tuple #[.int .i64 n1, .bool false]) ∧ Below w.heap.size w w')) (H2 : Hid (∀ w, Calls Tryz.prog 94 #[.string s, .int .i64 (k : Int), .int .i64 2] w fun e w' => e = .returned (.tuple #[.int .i64 n2, .bool false]) ∧ Below w.heap.size w w')) (H3 : Hid (∀ w, Calls Tryz.prog 94 #[.string s, .int .i64 (k : Int), .int .i64 3] w fun e w' => e = .returned (.tuple #[.int .i64 n3, .bool true]) ∧ Below w.heap.size w w')) (hk : k < s.size) (hs : s.size ≤ 1000000) (w : World) :
    Calls Tryz.prog 71 #[.string s, .int .i64 (k : Int)] w fun e w' => e = .returned (.tuple #[.int .i64 n3, .int .i64 3, .int .i64 0]) ∧ Below w.heap.size w w' := by
  have HW0 := Lib.hid (Below.refl w.heap.size w)
  go_enter Tryz.func71, Tryz.ntmps71
  go_wp2_with fail
  refine wp_loop_rounds 5 ?_
  rw [rounds_succ]
  go_wp2_with fail
  refine (H1.out _).mono ?_; rintro e w1 ⟨rfl, hb⟩
  have HW1 := Lib.hid (HW0.out.trans (hb.mono HW0.out.size))
  clear hb
  go_wp2_with fail
  rw [rounds_succ]
  go_wp2_with fail
  refine (H2.out _).mono ?_; rintro e w2 ⟨rfl, hb⟩
  have HW2 := Lib.hid (HW1.out.trans (hb.mono HW1.out.size))
  clear hb
  go_wp2_with fail
  rw [rounds_succ]
  go_wp2_with fail
  refine (H3.out _).mono ?_; rintro e w3 ⟨rfl, hb⟩
  have HW3 := Lib.hid (HW2.out.trans (hb.mono HW2.out.size))
  clear hb
  go_wp2_with fail
  go_ret3
  exact ⟨rfl, HW3.out⟩
set_option maxRecDepth 100000 in
set_option maxHeartbeats 2000000 in
theorem rnext_4 (s : ByteArray) (k : Nat) (n1 n2 n3 n4 : Int) (H1 : Hid (∀ w, Calls Tryz.prog 94 #[.string s, .int .i64 (k : Int), .int .i64 1] w fun e w' => e = .returned (.tuple #[.int .i64 n1, .bool false]) ∧ Below w.heap.size w w')) (H2 : Hid (∀ w, Calls Tryz.prog 94 #[.string s, .int .i64 (k : Int), .int .i64 2] w fun e w' => e = .returned (.tuple #[.int .i64 n2, .bool false]) ∧ Below w.heap.size w w')) (H3 : Hid (∀ w, Calls Tryz.prog 94 #[.string s, .int .i64 (k : Int), .int .i64 3] w fun e w' => e = .returned (.tuple #[.int .i64 n3, .bool false]) ∧ Below w.heap.size w w')) (H4 : Hid (∀ w, Calls Tryz.prog 94 #[.string s, .int .i64 (k : Int), .int .i64 4] w fun e w' => e = .returned (.tuple #[.int .i64 n4, .bool true]) ∧ Below w.heap.size w w')) (hk : k < s.size) (hs : s.size ≤ 1000000) (w : World) :
    Calls Tryz.prog 71 #[.string s, .int .i64 (k : Int)] w fun e w' => e = .returned (.tuple #[.int .i64 n4, .int .i64 4, .int .i64 0]) ∧ Below w.heap.size w w' := by
  have HW0 := Lib.hid (Below.refl w.heap.size w)
  go_enter Tryz.func71, Tryz.ntmps71
  go_wp2_with fail
  refine wp_loop_rounds 5 ?_
  rw [rounds_succ]
  go_wp2_with fail
  refine (H1.out _).mono ?_; rintro e w1 ⟨rfl, hb⟩
  have HW1 := Lib.hid (HW0.out.trans (hb.mono HW0.out.size))
  clear hb
  go_wp2_with fail
  rw [rounds_succ]
  go_wp2_with fail
  refine (H2.out _).mono ?_; rintro e w2 ⟨rfl, hb⟩
  have HW2 := Lib.hid (HW1.out.trans (hb.mono HW1.out.size))
  clear hb
  go_wp2_with fail
  rw [rounds_succ]
  go_wp2_with fail
  refine (H3.out _).mono ?_; rintro e w3 ⟨rfl, hb⟩
  have HW3 := Lib.hid (HW2.out.trans (hb.mono HW2.out.size))
  clear hb
  go_wp2_with fail
  rw [rounds_succ]
  go_wp2_with fail
  refine (H4.out _).mono ?_; rintro e w4 ⟨rfl, hb⟩
  have HW4 := Lib.hid (HW3.out.trans (hb.mono HW3.out.size))
  clear hb
  go_wp2_with fail
  go_ret3
  exact ⟨rfl, HW4.out⟩
set_option maxRecDepth 100000 in
set_option maxHeartbeats 2000000 in
theorem rnext_0 (s : ByteArray) (k : Nat) (n1 n2 n3 n4 : Int) (H1 : Hid (∀ w, Calls Tryz.prog 94 #[.string s, .int .i64 (k : Int), .int .i64 1] w fun e w' => e = .returned (.tuple #[.int .i64 n1, .bool false]) ∧ Below w.heap.size w w')) (H2 : Hid (∀ w, Calls Tryz.prog 94 #[.string s, .int .i64 (k : Int), .int .i64 2] w fun e w' => e = .returned (.tuple #[.int .i64 n2, .bool false]) ∧ Below w.heap.size w w')) (H3 : Hid (∀ w, Calls Tryz.prog 94 #[.string s, .int .i64 (k : Int), .int .i64 3] w fun e w' => e = .returned (.tuple #[.int .i64 n3, .bool false]) ∧ Below w.heap.size w w')) (H4 : Hid (∀ w, Calls Tryz.prog 94 #[.string s, .int .i64 (k : Int), .int .i64 4] w fun e w' => e = .returned (.tuple #[.int .i64 n4, .bool false]) ∧ Below w.heap.size w w')) (hk : k < s.size) (hs : s.size ≤ 1000000) (w : World) :
    Calls Tryz.prog 71 #[.string s, .int .i64 (k : Int)] w fun e w' => e = .returned (.tuple #[.int .i64 0, .int .i64 0, .int .i64 10]) ∧ Below w.heap.size w w' := by
  have HW0 := Lib.hid (Below.refl w.heap.size w)
  go_enter Tryz.func71, Tryz.ntmps71
  go_wp2_with fail
  refine wp_loop_rounds 5 ?_
  rw [rounds_succ]
  go_wp2_with fail
  refine (H1.out _).mono ?_; rintro e w1 ⟨rfl, hb⟩
  have HW1 := Lib.hid (HW0.out.trans (hb.mono HW0.out.size))
  clear hb
  go_wp2_with fail
  rw [rounds_succ]
  go_wp2_with fail
  refine (H2.out _).mono ?_; rintro e w2 ⟨rfl, hb⟩
  have HW2 := Lib.hid (HW1.out.trans (hb.mono HW1.out.size))
  clear hb
  go_wp2_with fail
  rw [rounds_succ]
  go_wp2_with fail
  refine (H3.out _).mono ?_; rintro e w3 ⟨rfl, hb⟩
  have HW3 := Lib.hid (HW2.out.trans (hb.mono HW2.out.size))
  clear hb
  go_wp2_with fail
  rw [rounds_succ]
  go_wp2_with fail
  refine (H4.out _).mono ?_; rintro e w4 ⟨rfl, hb⟩
  have HW4 := Lib.hid (HW3.out.trans (hb.mono HW3.out.size))
  clear hb
  go_wp2_with fail
  rw [rounds_succ]
  go_wp2_with fail
  go_ret3
  exact ⟨rfl, HW4.out⟩
/-- What Next answers at a place. -/
def nextV (l : List UInt8) : Value := if wellB l then .tuple #[.int .i64 ((decodeL l).1 : Nat), .int .i64 ((decodeL l).2 : Nat), .int .i64 0] else .tuple #[.int .i64 0, .int .i64 0, .int .i64 10]
theorem rnext_any (s : ByteArray) (k : Nat) (hk : k < s.size) (hs : s.size ≤ 1000000) (w : World) :
    Calls Tryz.prog 71 #[.string s, .int .i64 (k : Int)] w fun e w' => e = .returned (nextV (s.data.toList.drop k)) ∧ Below w.heap.size w w' := by
  have hl : (s.data.toList.drop k).length = s.size - k := by rw [List.length_drop, Array.length_toList]; rfl
  have hne : s.data.toList.drop k ≠ [] := by intro e; rw [e] at hl; simp at hl; omega
  have O := fun (m : Nat) (h1 : 1 ≤ m) (h4 : m ≤ 4) (w : World) => rone_any s k m (by omega) h1 h4 hs w
  have hb := one_iff (s.data.toList.drop k) hne
  generalize s.data.toList.drop k = l at *
  have key : ∀ m, oneV l m = .tuple #[.int .i64 (if m ≤ l.length then ((numN (l.take m) : Nat) : Int) else 0), .bool (oneB l m)] := by
    intro m
    unfold oneV
    by_cases h : m ≤ l.length
    · rw [if_pos h, if_pos h]
    · rw [if_neg h, if_neg h]
      unfold oneB
      rw [decide_eq_false h]; rfl
  have O1 := O 1 (by omega) (by omega)
  have O2 := O 2 (by omega) (by omega)
  have O3 := O 3 (by omega) (by omega)
  have O4 := O 4 (by omega) (by omega)
  rw [key, hb 1 (by omega) (by omega)] at O1
  rw [key, hb 2 (by omega) (by omega)] at O2
  rw [key, hb 3 (by omega) (by omega)] at O3
  rw [key, hb 4 (by omega) (by omega)] at O4
  unfold nextV
  cases hw : wellB l with
  | false =>
    rw [hw] at O1 O2 O3 O4
    exact rnext_0 s k _ _ _ _ (Lib.hid O1) (Lib.hid O2) (Lib.hid O3) (Lib.hid O4) hk hs w
  | true =>
    rw [hw] at O1 O2 O3 O4 hb
    have hv : ¬ ((decodeL l).1 = 65533 ∧ (decodeL l).2 = 1) := by
      simp only [wellB, Bool.not_eq_true', decide_eq_false_iff_not] at hw
      exact hw
    obtain ⟨g1, g2, g3, g4⟩ := one_decode l hne hv
    have hlen : (decodeL l).2 ≤ l.length := by
      unfold oneB at g1
      simp only [Bool.and_eq_true, decide_eq_true_eq] at g1
      exact g1.1
    have hnum : (if (decodeL l).2 ≤ l.length then ((numN (l.take (decodeL l).2) : Nat) : Int) else 0) = ((decodeL l).1 : Nat) := by rw [if_pos hlen, g2]
    generalize (decodeL l).2 = j at *
    generalize (decodeL l).1 = p at *
    rcases (show j = 1 ∨ j = 2 ∨ j = 3 ∨ j = 4 by omega) with rfl | rfl | rfl | rfl
    · rw [hnum] at O1
      exact rnext_1 s k _ (Lib.hid O1) hk hs w
    · rw [hnum] at O2
      exact rnext_2 s k _ _ (Lib.hid O1) (Lib.hid O2) hk hs w
    · rw [hnum] at O3
      exact rnext_3 s k _ _ _ (Lib.hid O1) (Lib.hid O2) (Lib.hid O3) hk hs w
    · rw [hnum] at O4
      exact rnext_4 s k _ _ _ _ (Lib.hid O1) (Lib.hid O2) (Lib.hid O3) (Lib.hid O4) hk hs w
end Go.Proofs.YtglhanblbojkhaaGreatDoor
