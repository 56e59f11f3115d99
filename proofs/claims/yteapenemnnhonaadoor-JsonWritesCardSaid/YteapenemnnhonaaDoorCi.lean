/- The walks through the reference's Behind, May, Plain, Great, Twin, Same (provostref03). -/
import Derived.Test.YteapenemnnhonaaDoorCh
import Derived.Test.YteapenemnnhonaaDoorCf
set_option linter.unusedSimpArgs false
set_option linter.unusedVariables false
namespace Go.Proofs.YteapenemnnhonaaDoor
open Go.RowKit
theorem rbehind_case (V : List Cel) (b off cap : Nat) (hs : SmallV V) (d : Nat) (hd : d ≤ 16) (W : World) (k : Nat) (hk : k < V.length) (hrow : CelRow b off V W)
    (HIH : 0 < d → Hid (∀ (W' : World) (p : Nat), p < V.length → CelRow b off V W' → Calls Tryd.prog 33 #[.slice (some ⟨b, off, none⟩) V.length cap, .int .i64 (p : Int), .int .i64 ((d : Int) - 1)] W' fun e w' => e = .returned (.int .i64 (endI V p (d - 1))) ∧ Below W'.heap.size W' w')) :
    Calls Tryd.prog 33 #[.slice (some ⟨b, off, none⟩) V.length cap, .int .i64 (k : Int), .int .i64 (d : Int)] W fun e w' => e = .returned (.int .i64 (endI V k d)) ∧ Below W.heap.size W w' := by
  obtain ⟨c0, c1, c2, c3, c4⟩ := hrow k hk
  obtain ⟨s1, s2, s3, s4⟩ := hs.2 V[k] (List.getElem_mem _)
  have HO : Hid (∀ w : World, Calls Tryd.prog 42 #[.agg #[.int .u8 (V[k].kind.toNat : Int), .string ⟨V[k].name.toArray⟩, .string ⟨V[k].text.toArray⟩, .int .i64 V[k].num, .int .i64 V[k].many]] w fun e w' => e = .returned (.bool (oneC V[k])) ∧ Below w.heap.size w w') := Lib.hid fun w => rone03_any V[k] s2 w
  have HSM : Hid (∀ c ∈ V, c.name.length ≤ 100000) := Lib.hid fun c hc => (hs.2 c hc).1
  have HTX : Hid (∀ (W' : World) (x : ByteArray), x.size ≤ 100000 → Calls Tryd.prog 43 #[.string x] W' fun e w' => e = .returned (.bool (textB x.data.toList)) ∧ Below W'.heap.size W' w') := Lib.hid fun W' x hx => rtext03_any x hx W'
  have hnest := nest_kind V[k]
  have hval := valN_drop V k d hk
  have hone := one_kind V[k]
  cases ho : oneC V[k] with
  | false =>
    rw [ho] at HO hval
    rw [endI_none hval]
    exact rb_one V b off cap W k d _ _ _ _ _ hk hs.1 hd c0 c1 c2 c3 c4 HO
  | true =>
    rw [ho] at HO hval
    rw [if_pos rfl] at hval
    have ne6 : ∀ j : Nat, V[k].kind.toNat ≠ j → (((V[k].kind.toNat : Int)) != (j : Int)) = true := fun j h => by rw [bne_iff_ne]; omega
    by_cases h67 : V[k].kind.toNat = 6 ∨ V[k].kind.toNat = 7
    · have hcn : cnest V[k].kind.toNat = true := by
        unfold cnest
        rw [Bool.or_eq_true, beq_iff_eq, beq_iff_eq]; exact h67
      rw [hnest, hcn, if_pos rfl] at hval
      have hm : 0 ≤ V[k].many := by
        rw [ho, hcn, if_pos rfl] at hone
        have := hone.symm
        simp only [Bool.and_eq_true, decide_eq_true_eq] at this
        exact this.2.2
      obtain ⟨m, hm2⟩ := Int.eq_ofNat_of_zero_le hm
      have hmt : V[k].many.toNat = m := by rw [hm2]; rfl
      have hmx : (m : Int) ≤ 9223372036854775807 := by rw [← hm2]; exact s4.2
      by_cases hd0 : d = 0
      · have hn : valN d (V.drop k) = none := by rw [hval]; subst hd0; rfl
        have hdb : ((d : Int) == 0) = true := by rw [hd0]; rfl
        rw [endI_none hn]
        rcases h67 with h | h
        · exact rb_deep6 V b off cap W k d _ _ _ _ _ hk hs.1 hd c0 c1 c2 c3 c4 HO (by rw [h]; rfl) (by rw [h]; rfl) (by rw [h]; rfl) (by rw [h]; rfl) hdb
        · exact rb_deep7 V b off cap W k d _ _ _ _ _ hk hs.1 hd c0 c1 c2 c3 c4 HO (by rw [h]; rfl) (by rw [h]; rfl) (by rw [h]; rfl) (by rw [h]; rfl) hdb
      · obtain ⟨d', rfl⟩ : ∃ d', d = d' + 1 := ⟨d - 1, by omega⟩
        dsimp only at hval
        rw [hmt] at hval
        rw [hm2] at c4 HO
        rcases h67 with h | h
        · have hk6 : (V[k].kind == 6) = true := beq_iff_eq.2 (UInt8.toNat_inj.1 h)
          rw [hk6] at hval
          exact rb_list V b off cap W k (d' + 1) _ _ _ _ m hk hs.1 hd c0 c1 c2 c3 c4 HO (by rw [h]; rfl) (by rw [h]; rfl) (by rw [h]; rfl) (by rw [h]; rfl) (by omega) hmx (Lib.hid hrow) HSM _ rfl hval HTX (HIH (by omega))
        · have hk6 : (V[k].kind == 6) = false := beq_eq_false_iff_ne.2 fun e => by rw [e] at h; exact absurd h (by decide)
          rw [hk6] at hval
          exact rb_obj V b off cap W k (d' + 1) _ _ _ _ m hk hs.1 hd c0 c1 c2 c3 c4 HO (by rw [h]; rfl) (by rw [h]; rfl) (by rw [h]; rfl) (by rw [h]; rfl) (by omega) hmx (Lib.hid hrow) HSM _ rfl hval HTX (HIH (by omega))
    · have hcn : cnest V[k].kind.toNat = false := by
        unfold cnest
        rw [Bool.or_eq_false_iff, beq_eq_false_iff_ne, beq_eq_false_iff_ne]
        omega
      rw [hnest, hcn] at hval
      rw [endI_some hval]
      exact rb_leaf V b off cap W k d _ _ _ _ _ hk hs.1 hd c0 c1 c2 c3 c4 HO (ne6 6 (by omega)) (ne6 7 (by omega))
theorem rbehind_walk (V : List Cel) (b off cap : Nat) (hs : SmallV V) : ∀ d : Nat, d ≤ 16 → ∀ (W : World) (k : Nat), k < V.length → CelRow b off V W →
    Calls Tryd.prog 33 #[.slice (some ⟨b, off, none⟩) V.length cap, .int .i64 (k : Int), .int .i64 (d : Int)] W fun e w' => e = .returned (.int .i64 (endI V k d)) ∧ Below W.heap.size W w' := by
  intro d
  induction d with
  | zero => intro hd W k hk hrow; exact rbehind_case V b off cap hs 0 hd W k hk hrow (fun h => absurd h (by decide))
  | succ d ih =>
    intro hd W k hk hrow
    refine rbehind_case V b off cap hs (d + 1) hd W k hk hrow (fun _ => Lib.hid fun W' p hp hr => ?_)
    have := ih (by omega) W' p hp hr
    rw [show ((d + 1 : Nat) : Int) - 1 = (d : Int) from by omega, show d + 1 - 1 = d from rfl]
    exact this
set_option maxRecDepth 100000 in
theorem rmay03_none (a : Option Addr) (cap : Nat) (w : World) :
    Calls Tryd.prog 24 #[.slice a 0 cap] w fun e w' => e = .returned (.bool (mayB [])) ∧ Below w.heap.size w w' := by
  go_enter Tryd.func24, Tryd.ntmps24
  go_wp2_with fail
  go_ret
  exact ⟨rfl, Below.refl _ _⟩
set_option maxRecDepth 100000 in
theorem rmay03_long (a : Option Addr) (n cap : Nat) (hn : 2048 < n) (hl : n ≤ 100000) (w : World) :
    Calls Tryd.prog 24 #[.slice a n cap] w fun e w' => e = .returned (.bool false) ∧ Below w.heap.size w w' := by
  go_enter Tryd.func24, Tryd.ntmps24
  go_wp2_with fail
  go_ret
  exact ⟨rfl, Below.refl _ _⟩
set_option maxRecDepth 100000 in
theorem rmay03_named (n b off cap : Nat) (hn0 : 0 < n) (hn : n ≤ 2048) (x : ByteArray) (h1 : ¬ x.toList = []) (h2 : x.toList.isEmpty = false) (w : World) (c1 : w.cell? ⟨b, off + 1, none⟩ = some (.string x)) :
    Calls Tryd.prog 24 #[.slice (some ⟨b, off, none⟩) n cap] w fun e w' => e = .returned (.bool false) ∧ Below w.heap.size w w' := by
  go_enter Tryd.func24, Tryd.ntmps24
  go_wp2_with fail
  go_ret
  exact ⟨rfl, Below.refl _ _⟩
set_option maxRecDepth 100000 in
theorem rmay03_in (n b off cap : Nat) (hn0 : 0 < n) (hn : n ≤ 2048) (x : ByteArray) (h1 : x.toList = []) (h2 : x.toList.isEmpty = true) (w : World) (c1 : w.cell? ⟨b, off + 1, none⟩ = some (.string x)) (r : Int)
    (H : Hid (∀ W, Below w.heap.size w W → Calls Tryd.prog 33 #[.slice (some ⟨b, off, none⟩) n cap, .int .i64 0, .int .i64 16] W fun e w' => e = .returned (.int .i64 r) ∧ Below W.heap.size W w')) :
    Calls Tryd.prog 24 #[.slice (some ⟨b, off, none⟩) n cap] w fun e w' => e = .returned (.bool (r == (n : Int))) ∧ Below w.heap.size w w' := by
  go_enter Tryd.func24, Tryd.ntmps24
  go_wp2_with fail
  refine (H.out _ (Below.refl _ _)).mono ?_; rintro e w1 ⟨rfl, hb⟩
  go_wp2_with fail
  go_ret
  exact ⟨rfl, hb⟩
theorem rmay03_any (V : List Cel) (v : Value) (w : World) (hv : CelSl v V w) (hs : SmallV V) :
    Calls Tryd.prog 24 #[v] w fun e w' => e = .returned (.bool (mayB V)) ∧ Below w.heap.size w w' := by
  rcases hv with ⟨a, c, rfl, rfl, _⟩ | ⟨b, off, cap, rfl, hrow, hpos⟩
  · exact rmay03_none a c w
  · by_cases hn : V.length ≤ 2048
    · obtain ⟨_, c1, _⟩ := hrow 0 hpos
      rw [Nat.zero_mul, Nat.add_zero] at c1
      have hhead : (V.headD ⟨0, [0], [], 0, 0⟩).name = V[0].name := by
        cases V with
        | nil => simp at hpos
        | cons c r => rfl
      have hxl : (⟨V[0].name.toArray⟩ : ByteArray).data.toList = V[0].name := by simp
      rcases empty_z ⟨V[0].name.toArray⟩ with ⟨z0, z1, z2, z3⟩ | ⟨z0, z1, z2, z3⟩
      · have hm : mayB V = false := by
          unfold mayB
          rw [hhead]
          have : V[0].name.isEmpty = false := by rw [← hxl, ← ByteArray.toList_eq]; exact z2
          rw [this]; simp
        rw [hm]
        exact rmay03_named V.length b off cap hpos hn _ z1 z2 w c1
      · have hne : V[0].name.isEmpty = true := by rw [← hxl, ← ByteArray.toList_eq]; exact z2
        have hmay : mayB V = (endI V 0 16 == (V.length : Int)) := by
          unfold mayB endI
          rw [hhead, hne, decide_eq_true hpos, decide_eq_true hn, List.drop_zero]
          cases hv : valN 16 V with
          | none => rw [Bool.eq_iff_iff]; simp
          | some k => rw [Bool.eq_iff_iff]; simp; omega
        rw [hmay]
        exact rmay03_in V.length b off cap hpos hn _ z1 z2 w c1 _ (Lib.hid fun W hW => rbehind_walk V b off cap hs 16 (by omega) W 0 hpos (hrow.below' hW))
    · have hm : mayB V = false := by unfold mayB; rw [decide_eq_false hn]; simp
      rw [hm]
      exact rmay03_long _ V.length cap (by omega) hs.1 w
end Go.Proofs.YteapenemnnhonaaDoor
