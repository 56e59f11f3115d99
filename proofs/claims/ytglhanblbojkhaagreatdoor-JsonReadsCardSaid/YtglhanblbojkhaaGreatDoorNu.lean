/- The walk through the reference's Text (provostref01): code points as bytes. -/
import Derived.Test.YtglhanblbojkhaaGreatDoorTx
import Derived.Test.YtglhanblbojkhaaGreatDoorRt
set_option linter.unusedSimpArgs false
set_option linter.unusedVariables false
namespace Go.Proofs.YtglhanblbojkhaaGreatDoor
open Go.RowKit
/-- A slice that reads as numbers. -/
def IntSl (v : Value) (l : List Nat) (W : World) : Prop := (∃ a cap, v = .slice a 0 cap ∧ l = []) ∨ ∃ b off cap, v = .slice (some ⟨b, off, none⟩) l.length cap ∧ ∀ (j : Nat) (x : Nat), l[j]? = some x → W.cell? ⟨b, off + j, none⟩ = some (.int .i64 (x : Int))
theorem IntSl.below {v : Value} {l : List Nat} {w w' : World} (h : IntSl v l w) (hb : Below w.heap.size w w') : IntSl v l w' := by
  rcases h with h | ⟨b, off, cap, h1, h2⟩
  · exact Or.inl h
  · exact Or.inr ⟨b, off, cap, h1, fun j x hj => (hb.cell (p := ⟨b, _, none⟩) (lt_of_cell (h2 j x hj))).trans (h2 j x hj)⟩
theorem OwnI.sl {B : Nat} {v : Value} {l : List Nat} {w : World} (h : OwnI B v l w) : IntSl v l w := by
  obtain ⟨h1, h2⟩ := h
  rcases h2 with ⟨h2, h3⟩ | ⟨g, cap, cur, hv, hB, hg, hn, hc, hcs, ht⟩
  · exact Or.inl ⟨_, _, h2, List.eq_nil_of_length_eq_zero h3⟩
  · refine Or.inr ⟨g, 0, cap, hv, ?_⟩
    intro j x hj
    rw [Nat.mul_one] at ht
    have hjl : j < l.length := (List.getElem?_eq_some_iff.1 hj).1
    have e : cur.toList[j]? = some (.int .i64 (x : Int)) := by
      have : (cur.toList.take l.length)[j]? = some (.int .i64 (x : Int)) := by rw [ht]; unfold natCells; rw [List.getElem?_map, hj]; rfl
      rw [List.getElem?_take] at this
      simpa [hjl] using this
    rw [Nat.zero_add]
    refine (Lib.cell_of_heap hg j).trans ?_
    simpa using e
theorem OwnI.rk {B r : Nat} {v : Value} {l : List Nat} {w w' : World} (h : OwnI B v l w) (hk : RK r w w') (hr : r < B) : OwnI B v l w' := by
  obtain ⟨h1, h2⟩ := h
  refine ⟨h1, ?_⟩
  rcases h2 with h2 | ⟨g, cap, cur, hv, hB, hg, hrest⟩
  · exact Or.inl h2
  · exact Or.inr ⟨g, cap, cur, hv, hB, hk.2 g _ hg (by omega), hrest⟩
theorem RK.grown {r : Nat} {w W W' : World} {row : Option Nat} (h : RK r w W) (hg : W.grownBy W' row) (hr : ∀ k, row = some k → w.heap.size ≤ k) (hlt : r < w.heap.size) : RK r w W' := by
  have hs := h.1.size
  refine ⟨h.1.grown hg (by omega) (fun k hk => by have := hr k hk; omega), fun k o hk hne => ?_⟩
  have h1 := h.2 k o hk hne
  have hkl := heap_lt hk
  rw [hg.block k (heap_lt h1) (fun e => by have := hr k e.symm; omega)]
  exact h1
/-- Bytes of the call's own as they stand in a row. -/
theorem Own.cellsAt {B : Nat} {v : Value} {l : List UInt8} {w : World} (h : Own B v l w) : (v = .slice none 0 0 ∧ l = []) ∨ ∃ g cap, v = .slice (some ⟨g, 0, none⟩) l.length cap ∧ ∀ j (hj : j < l.length), w.cell? ((⟨g, 0, none⟩ : Addr).add j) = some (.int .u8 (l[j].toNat : Int)) := by
  obtain ⟨h1, h2⟩ := h
  rcases h2 with ⟨h2, h3⟩ | ⟨g, cap, cur, hv, hB, hg, hn, hc, hcs, ht⟩
  · exact Or.inl ⟨h2, List.eq_nil_of_length_eq_zero h3⟩
  · refine Or.inr ⟨g, cap, hv, fun j hj => ?_⟩
    have ha : (⟨g, 0, none⟩ : Addr).add j = ⟨g, j, none⟩ := by
      unfold Addr.add
      split
      · rename_i h0; rw [h0]
      · simp
    rw [ha]
    rw [Nat.mul_one] at ht
    have e : cur.toList[j]? = some (.int .u8 (l[j].toNat : Int)) := by
      have : (cur.toList.take l.length)[j]? = some (.int .u8 (l[j].toNat : Int)) := by rw [ht]; unfold Lib.byteCells; rw [List.getElem?_map, List.getElem?_eq_getElem hj]; rfl
      rw [List.getElem?_take] at this
      simpa [hj] using this
    refine (Lib.cell_of_heap hg j).trans ?_
    simpa using e
theorem enc_pos (n : Nat) : 0 < (encN n).length ∧ (encN n).length ≤ 4 := by
  unfold encN; repeat' split
  all_goals simp
theorem flat_drop (l : List Nat) (k : Nat) (h : k < l.length) : (l.drop k).flatMap encN = encN l[k] ++ (l.drop (k + 1)).flatMap encN := by
  rw [List.drop_eq_getElem_cons h, List.flatMap_cons]
set_option maxRecDepth 100000 in
set_option maxHeartbeats 1000000 in
theorem rText_any (l : List Nat) (v : Value) (w : World) (hl : l.length ≤ 100000) (hp : ∀ p ∈ l, isPt p = true) (hv : IntSl v l w) :
    Calls Tryz.prog 74 #[v] w fun e w' => e = .returned (.string ⟨(l.flatMap encN).toArray⟩) ∧ Below w.heap.size w w' := by
  rcases hv with ⟨a, cap, rfl, rfl⟩ | ⟨b, off, cap, rfl, hc⟩
  · go_enter Tryz.func74, Tryz.ntmps74
    go_wp2_with fail
    refine wp_loop_rounds 1 ?_; rw [rounds_succ]
    have HC := run_convert_own (Own.nil w.heap.size w)
    go_wp2_with fail
    go_ret
    exact ⟨rfl, Below.refl _ _⟩
  · obtain ⟨R, hR⟩ : ∃ R, l.flatMap encN = R := ⟨_, rfl⟩
    have HR : Hid ([] ++ (l.drop 0).flatMap encN = R) := Lib.hid (by rw [List.drop_zero, List.nil_append]; exact hR)
    have HCL := Lib.hid hc
    have HPT := Lib.hid hp
    have hlw : 0 < l.length → b < w.heap.size := fun h => lt_of_cell (hc 0 l[0] (List.getElem?_eq_getElem h))
    rw [hR]
    clear hR hc hp
    go_enter Tryz.func74, Tryz.ntmps74
    go_wp2_with fail
    go_loopg [3, 4] l.length (fun gk u iv wr => ∃ (k : Nat) (out : List UInt8) (ov : Value), ov = u ∧ iv = .int .i64 (k : Int) ∧ gk + k = l.length ∧ out.length ≤ 4 * k ∧ Hid (Own w.heap.size ov out wr) ∧ Hid (out ++ (l.drop k).flatMap encN = R) ∧ Below w.heap.size w wr)
    case atStart => exact ⟨0, [], _, rfl, rfl, by omega, by simp, Lib.hid (Own.nil _ _), HR, Below.refl _ _⟩
    case round =>
      rename World => wo
      obtain ⟨k, out, ov, rfl, rfl, hg, hout, HO, HQ, hbw⟩ := hrel
      have hsz := hbw.size
      by_cases hlt : k < l.length
      · have c0 : wo.cell? ⟨b, off + k, none⟩ = some (.int .i64 (l[k] : Int)) := (hbw.cell (p := ⟨b, _, none⟩) (hlw (by omega))).trans (HCL.out k l[k] (List.getElem?_eq_getElem hlt))
        have HB := Lib.hid (rbytes_any l[k] (HPT.out _ (List.getElem_mem hlt)))
        have HQ2 : Hid ((out ++ encN l[k]) ++ (l.drop (k + 1)).flatMap encN = R) := Lib.hid (by rw [List.append_assoc, ← flat_drop l k hlt]; exact HQ.out)
        generalize l[k] = p at *
        obtain ⟨ep0, ep4⟩ := enc_pos p
        clear HQ
        go_wp2_with fail
        refine (HB.out _).mono ?_; rintro e w1 ⟨bv, rfl, hown, hb⟩
        have HO1 := Lib.hid (HO.out.below hb)
        have hbw1 := hbw.trans (hb.mono hsz)
        have hsz1 := hbw1.size
        rcases hown.cellsAt with ⟨_, h0⟩ | ⟨g, bcap, rfl, hcells⟩
        · rw [h0] at ep0; exact absurd ep0 (by simp)
        have HCE := Lib.hid hcells
        clear hb HO hbw hsz hown hcells
        go_wp2_with (at_builtin; refine wpList_push rfl _ _ rfl w.heap.size ov out rfl HO1.out ⟨g, 0, none⟩ bcap (encN p) rfl HCE.out ?c1 ?c2 ?_)
        case c1 => omega
        case c2 => omega
        intro v' w3 hown' hgrow
        have hbw3 : Below w.heap.size w w3 := hbw1.grown hgrow (by omega) HO1.out.lt
        have HO3 := Lib.hid hown'
        clear hown' hgrow HO1 hbw1 HCE
        go_wp2_with fail
        go_roundg (gk - 1)
        case measure => omega
        case rel => exact ⟨k + 1, out ++ encN p, _, rfl, by go_num, by omega, by simp; omega, HO3, HQ2, hbw3⟩
      · have HC := run_convert_own HO.out
        have HF : Hid (out = R) := Lib.hid (by rw [← HQ.out, List.drop_of_length_le (by omega)]; simp)
        clear HQ
        go_wp2_with fail
        go_ret
        exact ⟨congrArg (fun x : List UInt8 => Ending.returned (.string ⟨x.toArray⟩)) HF.out, hbw⟩
end Go.Proofs.YtglhanblbojkhaaGreatDoor
