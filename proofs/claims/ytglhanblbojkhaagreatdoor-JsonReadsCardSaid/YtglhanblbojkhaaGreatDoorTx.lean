/- The walks through the reference's texts (provostref01: Points). -/
import Derived.Test.YtglhanblbojkhaaGreatDoorTw
set_option linter.unusedSimpArgs false
set_option linter.unusedVariables false
namespace Go.Proofs.YtglhanblbojkhaaGreatDoor
open Go.RowKit Go.Lib
theorem int_info : (Tryz.prog.info? 3).map (fun i => (i.zero, i.size, i.bytes)) = some (some (.int .i64 0), 1, 8) := by kernel_rfl
def natCells (l : List Nat) : List Value := l.map fun (n : Nat) => Value.int .i64 (n : Int)
/-- A slice of numbers of the call's own. -/
def OwnI (B : Nat) (v : Value) (l : List Nat) (W : World) : Prop := W.ownsRow B 3 1 v l.length (natCells l)
theorem OwnI.nil (B : Nat) (W : World) : OwnI B (.slice none 0 0) [] W := World.ownsRow_nil W B 3 1
theorem OwnI.below {B : Nat} {v : Value} {l : List Nat} {w w' : World} (h : OwnI B v l w) (hb : Below w.heap.size w w') : OwnI B v l w' := by
  obtain ⟨h1, h2⟩ := h
  refine ⟨h1, ?_⟩
  rcases h2 with h2 | ⟨g, cap, cur, hv, hB, hg, hrest⟩
  · exact Or.inl h2
  · have hlt : g < w.heap.size := (Array.getElem?_eq_some_iff.1 hg).1
    exact Or.inr ⟨g, cap, cur, hv, hB, (hb.block g hlt).trans hg, hrest⟩
theorem OwnI.alloc {B : Nat} {v : Value} {l : List Nat} {w : World} (h : OwnI B v l w) (o : Obj) : OwnI B v l (w.alloc o) := World.ownsRow.alloc h o
theorem OwnI.lt {B : Nat} {v : Value} {l : List Nat} {w : World} (h : OwnI B v l w) : ∀ k, v.ownBlock = some k → B ≤ k := fun k hk => (World.ownsRow.lt h k hk).1
theorem wpList_pushI {ops : Array Oper} {rest : List Oper} {o : Oper} {a : Act} {Q : Exit → Act → World → Prop} {w : World} (hgd : o.guard = none) (s x : Operand)
    (ho : o.op = .call { callee := .builtin .append, args := #[s, x], argTypes := #[79, 79] }) (B : Nat) (v : Value) (l : List Nat) (hs : a.eval s = v) (hown : OwnI B v l w)
    (ad : Addr) (c : Nat) (n : Nat) (hx : a.eval x = .slice (some ad) 1 c) (hnew : w.cell? ad = some (.int .i64 (n : Int))) (hlen : l.length + 1 ≤ 1000000) (hB : B ≤ w.heap.size)
    (h : ∀ v' w', OwnI B v' (l ++ [n]) w' → w.grownBy w' v.ownBlock → wpList Tryz.prog ops Q rest (a.put o.dst v') w') : wpList Tryz.prog ops Q (o :: rest) a w := by
  obtain ⟨i0, hi, hz0, hz1, hz2⟩ := info_parts int_info
  refine wpList_append_own w hgd s x 79 ho B 3 i0 (.int .i64 0) 1 8 Tryz.underlying79 hi hz0 hz1 hz2 rfl (by decide) v l.length (natCells l) hs hown ad 1 c [.int .i64 (n : Int)] hx rfl ?_ ?_ (by unfold maxLen; omega) (by omega) hB ?_
  · intro j u hj
    match j, hj with
    | 0, hj =>
      have e : u = .int .i64 (n : Int) := (Option.some.inj hj).symm
      rw [e]; exact hnew
    | j + 1, hj => cases hj
  · intro u hu; rw [List.mem_singleton] at hu; rw [hu]; rfl
  · intro v' w' h1 h2 _
    refine h v' w' ?_ h2
    unfold OwnI natCells at *
    rw [List.length_append, List.map_append]
    exact h1
theorem new_cell0 (W : World) (T : TypeId) (v : Value) : (W.alloc (.cells #[v] T)).cell? ⟨W.heap.size, 0, none⟩ = some v := by
  rw [Lib.cell_of_heap (heap_alloc_new W _)]; rfl
theorem well_step (l : List UInt8) (hne : l ≠ []) (hw : wellB l = true) : 1 ≤ (decodeL l).2 ∧ (decodeL l).2 ≤ 4 ∧ (decodeL l).2 ≤ l.length := by
  have hv : ¬ ((decodeL l).1 = 65533 ∧ (decodeL l).2 = 1) := by
    simp only [wellB, Bool.not_eq_true', decide_eq_false_iff_not] at hw
    exact hw
  obtain ⟨g1, g2, g3, g4⟩ := one_decode l hne hv
  refine ⟨g3, g4, ?_⟩
  unfold oneB at g1
  simp only [Bool.and_eq_true, decide_eq_true_eq] at g1
  exact g1.1
set_option maxRecDepth 100000 in
set_option maxHeartbeats 2000000 in
theorem rpoints_any (s : ByteArray) (hs : s.size ≤ 100000) (w : World) :
    Calls Tryz.prog 47 #[.string s] w fun e w' => ∃ v, e = .returned (.tuple #[v, .bool (validD s.data.toList)]) ∧ (validD s.data.toList = true → OwnI w.heap.size v (pts s.data.toList) w') ∧ Below w.heap.size w w' := by
  obtain ⟨r, hr⟩ : ∃ r, validD s.data.toList = r := ⟨_, rfl⟩
  obtain ⟨P, hP⟩ : ∃ P, pts s.data.toList = P := ⟨_, rfl⟩
  have HR : Hid (validD (s.data.toList.drop 0) = r) := Lib.hid (by rw [List.drop_zero]; exact hr)
  have HP : Hid ([] ++ pts (s.data.toList.drop 0) = P) := Lib.hid (by rw [List.drop_zero]; exact hP)
  rw [hr, hP]
  clear hr hP
  go_enter Tryz.func47, Tryz.ntmps47
  go_wp2_with fail
  go_loopg [4, 5] s.size (fun k u v wr => ∃ (j : Nat) (out : List Nat) (ov : Value), ov = u ∧ v = .int .i64 j ∧ k + j = s.size ∧ out.length ≤ j ∧ Hid (OwnI w.heap.size ov out wr) ∧ Hid (validD (s.data.toList.drop j) = r) ∧ Hid (out ++ pts (s.data.toList.drop j) = P) ∧ Below w.heap.size w wr)
  case atStart => exact ⟨0, [], _, rfl, rfl, by omega, by simp, Lib.hid (OwnI.nil _ _), HR, HP, Below.refl _ _⟩
  case round =>
    rename World => wo
    obtain ⟨j, out, ov, rfl, rfl, hk, hout, HO, HJ, HQ, hbw⟩ := hrel
    have hsz := hbw.size
    by_cases hlt : j < s.size
    · have H1 := Lib.hid (fun w => rnext_any s j hlt (by omega) w)
      have hl : (s.data.toList.drop j).length = s.size - j := by rw [List.length_drop, Array.length_toList]; rfl
      have hne : s.data.toList.drop j ≠ [] := by intro e; rw [e] at hl; simp at hl; omega
      unfold nextV at H1
      cases hw : wellB (s.data.toList.drop j) with
      | false =>
        rw [hw] at H1
        simp only [Bool.false_eq_true, if_false] at H1
        have HF : Hid (false = r) := Lib.hid (by rw [← HJ.out, valid_step _ hne, hw]; rfl)
        clear hw hne hl HJ HQ
        go_wp2_with fail
        refine (H1.out _).mono ?_; rintro e w1 ⟨rfl, hb⟩
        have hfin := hbw.trans (hb.mono hsz)
        clear hb
        go_wp2_with fail
        go_ret2
        exact ⟨_, congrArg (fun b : Bool => Ending.returned (Value.tuple #[.slice none 0 0, .bool b])) HF.out, fun h => absurd (HF.out.trans h) (by decide), hfin⟩
      | true =>
        obtain ⟨g1, g2, g3⟩ := well_step _ hne hw
        rw [hw] at H1
        simp only [if_true] at H1
        have HJ2 : Hid (validD (s.data.toList.drop (j + (decodeL (s.data.toList.drop j)).2)) = r) := Lib.hid (by
          have := HJ.out
          rw [valid_step _ hne, hw, Bool.true_and, List.drop_drop] at this
          exact this)
        have HQ2 : Hid ((out ++ [(decodeL (s.data.toList.drop j)).1]) ++ pts (s.data.toList.drop (j + (decodeL (s.data.toList.drop j)).2)) = P) := Lib.hid (by
          have := HQ.out
          rw [pts_step _ hne, List.drop_drop] at this
          rw [List.append_assoc]; exact this)
        rw [hl] at g3
        clear hw hne hl HJ HQ
        generalize (decodeL (s.data.toList.drop j)).2 = m at *
        generalize (decodeL (s.data.toList.drop j)).1 = p at *
        obtain ⟨g, rfl⟩ : ∃ g, gk = g + m := ⟨gk - m, by omega⟩
        go_wp2_with fail
        refine (H1.out _).mono ?_; rintro e w1 ⟨rfl, hb⟩
        have HO1 := Lib.hid (HO.out.below hb)
        have hbw1 := hbw.trans (hb.mono hsz)
        have hsz1 := hbw1.size
        clear hb HO hbw hsz
        go_wp2_with (at_builtin; refine wpList_pushI rfl _ _ rfl w.heap.size ov out rfl (HO1.out.alloc _) ⟨w1.heap.size, 0, none⟩ 1 p rfl (new_cell0 w1 _ _) ?c1 ?c2 ?_)
        case c1 => omega
        case c2 => simp; omega
        intro v' w3 hown' hgrow
        have hbw3 : Below w.heap.size w w3 := (hbw1.alloc hsz1 _).grown hgrow (by simp; omega) HO1.out.lt
        have HO3 := Lib.hid hown'
        clear hown' hgrow HO1 hbw1
        go_wp2_with fail
        go_roundg g
        case measure => omega
        case rel => exact ⟨j + m, out ++ [p], _, rfl, by go_num, by omega, by simp; omega, HO3, HJ2, HQ2, hbw3⟩
    · have hd : s.data.toList.drop j = [] := List.drop_of_length_le (by rw [Array.length_toList]; exact Nat.le_of_not_lt hlt)
      have HF : Hid (true = r) := Lib.hid (by rw [← HJ.out, hd]; rfl)
      have HO2 : Hid (OwnI w.heap.size ov P wo) := Lib.hid (by
        have := HQ.out
        rw [hd, pts_nil, List.append_nil] at this
        rw [← this]; exact HO.out)
      clear hd HJ HQ HO
      go_wp2_with fail
      go_ret2
      exact ⟨_, congrArg (fun b : Bool => Ending.returned (Value.tuple #[ov, .bool b])) HF.out, fun _ => HO2.out, hbw⟩
/-- What a text's check answers. -/
def chkE (l : List UInt8) : Int := if 16384 < l.length then 4 else if validD l then 0 else 10
end Go.Proofs.YtglhanblbojkhaaGreatDoor
