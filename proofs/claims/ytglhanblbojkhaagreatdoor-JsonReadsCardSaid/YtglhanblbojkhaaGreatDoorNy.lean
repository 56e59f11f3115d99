/- The walks through the reference's JSON reader (provostref04): value of a failed reader; many. -/
import Derived.Test.YtglhanblbojkhaaGreatDoorNx
set_option linter.unusedSimpArgs false
set_option linter.unusedVariables false
namespace Go.Proofs.YtglhanblbojkhaaGreatDoor
open Go.RowKit Go.Lib
/-- Where a value ends. -/
def ValE (r : Nat) (s : ByteArray) (v : Value) (o : Except Int (List UInt8 × List Cel)) (W0 W : World) : Prop := match o with
  | .error e => e ≠ 0 ∧ ∃ v', StE r s v' (.error e) W ∧ VK r v W0 W
  | .ok (t, out') => out'.length ≤ 2048 ∧ ∃ v', VS r s W0 v v' out' (.ok t) W
def ValSpec (d : Nat) : Prop := ∀ (r : Nat) (s name : ByteArray) (op : Int) (v : Value) (L : List Cel) (l : List UInt8) (W : World), op + (d : Int) = 16 → 0 ≤ op → s.size ≤ 20000 → validD l = true → StE r s v (.ok l) W → OwnC (r + 1) v L W → L.length ≤ 2048 →
  Calls Tryz.prog 25 #[.pointer (some ⟨r, 0, none⟩), .string name, .int .i64 op] W fun x w' => x = .returned (.tuple #[]) ∧ ValE r s v (valJ d name.data.toList l L) W w'
def finJ (k : Nat) (R : Except Int (Nat × List UInt8 × List Cel)) : Except Int (List UInt8 × List Cel) := match R with
  | .error e => .error e
  | .ok (n, t, o2) => .ok (t, manyAt k n o2)
def manyJ (d : Nat) (isO : Bool) (k : Nat) (l : List UInt8) (L : List Cel) : Except Int (List UInt8 × List Cel) := match d with
  | 0 => .error 30
  | d + 1 => finJ k (itemsJ (valJ d) isO (l.length + 1) 0 [] (blJ l) L)
def ManySpec (d : Nat) : Prop := ∀ (r : Nat) (s : ByteArray) (k : Nat) (op : Int) (v : Value) (L : List Cel) (c : UInt8) (l : List UInt8) (W : World), op + (d : Int) = 16 → 0 ≤ op → s.size ≤ 20000 → (c = 123 ∨ c = 91) → validD (c :: l) = true → StE r s v (.ok (c :: l)) W → OwnC (r + 1) v L W → k < L.length → L.length ≤ 2048 →
  Calls Tryz.prog 50 #[.pointer (some ⟨r, 0, none⟩), .int .i64 (k : Int), .int .i64 op] W fun x w' => x = .returned (.tuple #[]) ∧ ValE r s v (manyJ d (c == 123) k l L) W w'
set_option maxRecDepth 100000 in
theorem rvalue_err (r : Nat) (s name : ByteArray) (op : Int) (v : Value) (e : Int) (hs : s.size ≤ 20000) (W : World) (h : StE r s v (.error e) W) :
    Calls Tryz.prog 25 #[.pointer (some ⟨r, 0, none⟩), .string name, .int .i64 op] W fun x w' => x = .returned (.tuple #[]) ∧ StE r s v (.error e) w' ∧ RK r W w' := by
  have he : e ≠ 0 := h.1
  have HH := Lib.hid h
  have HBL : Hid (∀ W, StE r s v (.error e) W → Calls Tryz.prog 26 #[.pointer (some ⟨r, 0, none⟩)] W fun x w' => x = .returned (.tuple #[]) ∧ StE r s v (.error e) w' ∧ RK r W w') := Lib.hid fun W hW => e_blanks r s v _ hs W hW
  have HLK : Hid (∀ W, StE r s v (.error e) W → Calls Tryz.prog 48 #[.pointer (some ⟨r, 0, none⟩)] W fun x w' => x = .returned (.int .u8 0) ∧ Below W.heap.size W w') := Lib.hid fun W hW => e_look r s v _ hs W hW
  have t0 : (e == 0) = false := beq_eq_false_iff_ne.2 he
  have t1 : (e != 0) = true := bne_iff_ne.2 he
  clear h he
  go_enter Tryz.func25, Tryz.ntmps25
  go_wp2_with fail
  refine (HBL.out _ HH.out).mono ?_; rintro x w1 ⟨rfl, hst, hk⟩
  have HS1 := Lib.hid hst
  have HK1 := Lib.hid hk
  clear hst hk
  go_wp2_with fail
  refine (HLK.out _ HS1.out).mono ?_; rintro x w2 ⟨rfl, hb⟩
  have HS2 := Lib.hid (HS1.out.below hb)
  have HK2 := Lib.hid (HK1.out.trans (RK.of_below hb HS1.out.lt))
  have c3 : w2.cell? ⟨r, 3, none⟩ = some (.int .i64 e) := HS2.out.c3.1
  clear hb
  go_wp2_with fail
  first | go_end0 | refine bodyPost_ret (results_none rfl _ _ _) rfl ?_
  exact ⟨rfl, HS2.out, HK2.out⟩
/-! ### plain laws of a round -/
def memE (nm : List (List UInt8)) (E : Ex) : Except Int (List UInt8 × List UInt8) := match E with
  | .error e => .error e
  | .ok l => memJ nm l
def restR (d : Nat) (isO : Bool) (nm : List (List UInt8)) (out : List Cel) (g n : Nat) (M : Except Int (List UInt8 × List UInt8)) : Except Int (Nat × List UInt8 × List Cel) := match M with
  | .error e => .error e
  | .ok (s, l2) => match valJ d s l2 out with
    | .error e => .error e
    | .ok (l3, out2) => itemsJ (valJ d) isO g (n + 1) (if isO then s :: nm else nm) (blJ l3) out2
def listE (E : Ex) : Except Int (List UInt8 × List UInt8) := match E with
  | .error e => .error e
  | .ok l => .ok ([], l)
def headE (n : Nat) (l : List UInt8) : Ex := if n = 0 then .ok l else blE (tkE [44] (.ok l))
theorem items_obj (d g n : Nat) (nm : List (List UInt8)) (l : List UInt8) (out : List Cel) (h : tkJ [125] l = none) : itemsJ (valJ d) true (g + 1) n nm l out = restR d true nm out g n (memE nm (headE n l)) := by
  rw [itemsJ]
  simp only [if_true]
  rw [h]
  unfold headE
  by_cases hn : n = 0
  · rw [if_pos hn, if_pos hn]
    simp only [memE, restR]
    cases memJ nm l with
    | error e => rfl
    | ok x => rfl
  · rw [if_neg hn, if_neg hn]
    cases ht : tkJ [44] l with
    | none => rw [tkE_none ht]; rfl
    | some t =>
      rw [tkE_some ht]
      simp only [Option.map_some, blE, memE, restR]
      cases memJ nm (blJ t) with
      | error e => rfl
      | ok x => rfl
theorem items_list (d g n : Nat) (nm : List (List UInt8)) (l : List UInt8) (out : List Cel) (h : tkJ [93] l = none) : itemsJ (valJ d) false (g + 1) n nm l out = restR d false nm out g n (listE (headE n l)) := by
  rw [itemsJ]
  simp only [Bool.false_eq_true, if_false]
  rw [h]
  unfold headE
  by_cases hn : n = 0
  · rw [if_pos hn, if_pos hn]
    simp only [restR]
    rfl
  · rw [if_neg hn, if_neg hn]
    cases ht : tkJ [44] l with
    | none => rw [tkE_none ht]; rfl
    | some t =>
      rw [tkE_some ht]
      simp only [Option.map_some, blE, restR]
      rfl
theorem mem_cases (nm : List (List UInt8)) (E : Ex) :
    (∃ e, txE E = .error e ∧ memE nm E = .error e ∧ nmE E = []) ∨ ∃ l3, txE E = .ok l3 ∧ ((nm.contains (nmE E) = true ∧ memE nm E = .error 42) ∨ (nm.contains (nmE E) = false ∧ nmE E = [] ∧ memE nm E = .error 8) ∨
      (nm.contains (nmE E) = false ∧ nmE E ≠ [] ∧ ((tkJ [58] (blJ l3) = none ∧ memE nm E = .error 40) ∨ ∃ l4, tkJ [58] (blJ l3) = some l4 ∧ memE nm E = .ok (nmE E, l4)))) := by
  cases E with
  | error e => exact Or.inl ⟨e, rfl, rfl, rfl⟩
  | ok l =>
    cases hs : strJ l with
    | none => exact Or.inl ⟨40, txE_none hs, by simp [memE, memJ, hs], nmE_none hs⟩
    | some x =>
      obtain ⟨n, t⟩ := x
      refine Or.inr ⟨t, txE_some hs, ?_⟩
      rw [nmE_some hs]
      have hm : memE nm (.ok l) = if nm.contains n then .error 42 else if n.isEmpty then .error 8 else match tkJ [58] (blJ t) with | none => .error 40 | some r => .ok (n, r) := by
        simp only [memE, memJ, hs]
        cases nm.contains n <;> cases n.isEmpty <;> cases tkJ [58] (blJ t) <;> rfl
      rw [hm]
      cases hc : nm.contains n with
      | true => exact Or.inl ⟨rfl, rfl⟩
      | false =>
        refine Or.inr ?_
        cases n with
        | nil => exact Or.inl ⟨rfl, rfl, rfl⟩
        | cons b n =>
          refine Or.inr ⟨rfl, by simp, ?_⟩
          cases ht : tkJ [58] (blJ t) with
          | none => exact Or.inl ⟨rfl, by simp⟩
          | some r => exact Or.inr ⟨r, rfl, by simp⟩
theorem among_nm (names : List ByteArray) (nm : List (List UInt8)) (h : names.map (·.data.toList) = nm.reverse) (n : List UInt8) : amongS4 names ⟨n.toArray⟩ = nm.contains n := by
  have h1 : amongS4 names ⟨n.toArray⟩ = (names.map (·.data.toList)).any (fun x => x == n) := by
    unfold amongS4
    rw [List.any_map]
    congr 1
    funext x
    rw [ByteArray.toList_eq, ByteArray.toList_eq]; rfl
  rw [h1, h, List.any_reverse, List.contains_eq_any_beq]
  congr 1
  funext x
  rw [Bool.eq_iff_iff, beq_iff_eq, beq_iff_eq]
  exact eq_comm
theorem head_tk (c : UInt8) (hc : c ≠ 0) (l : List UInt8) : (l.headD 0 = c → ∃ t, l = c :: t ∧ tkJ [c] l = some t) ∧ (l.headD 0 ≠ c → tkJ [c] l = none) := by
  cases l with
  | nil => exact ⟨fun h => absurd h.symm hc, fun _ => by simp [tkJ]⟩
  | cons b t =>
    rw [List.headD_cons]
    refine ⟨fun h => ?_, fun h => ?_⟩
    · subst h; exact ⟨t, rfl, by simp [tkJ, List.isPrefixOf]⟩
    · have hb : (c == b) = false := beq_eq_false_iff_ne.2 fun e => h e.symm
      simp [tkJ, List.isPrefixOf, hb]
theorem VaE.head {n : Nat} {l : List UInt8} (h : validD l = true) : VaE (headE n l) := by
  unfold headE
  split
  · exact h
  · exact VaE.bl (VaE.tk (E := .ok l) h (by decide))
theorem manyAt_len (k n : Nat) (L : List Cel) : (manyAt k n L).length = L.length := by unfold manyAt; rw [List.length_modify]
set_option maxRecDepth 100000 in
set_option maxHeartbeats 2000000 in
theorem rmany_obj_0 (r : Nat) (s : ByteArray) (k : Nat) (op : Int) (v : Value) (L : List Cel) (l : List UInt8) (W : World) (hop : op + (0 : Int) = 16) (h0 : 0 ≤ op) (hs : s.size ≤ 20000) (hv : validD (123 :: l) = true) (h : StE r s v (.ok (123 :: l)) W) (hown : OwnC (r + 1) v L W) (hk : k < L.length) (hL : L.length ≤ 2048) :
    Calls Tryz.prog 50 #[.pointer (some ⟨r, 0, none⟩), .int .i64 (k : Int), .int .i64 op] W fun x w' => x = .returned (.tuple #[]) ∧ ValE r s v (.error 30) W w' := by
  have HH := Lib.hid h
  have HOW := Lib.hid hown
  have hlt := h.lt
  have hvl : validD l = true := by rw [valid_cons _ _ (by decide)] at hv; exact hv
  obtain ⟨a, hal, hda, hr⟩ := h
  have hal2 : a < s.size := by
    have := dl_len s a
    rw [hda] at this
    simp at this
    omega
  have hda2 : s.data.toList.drop (a + 1) = l := by
    rw [drop_at s a hal2] at hda
    injection hda
  have hca : s[a] = 123 := by
    rw [drop_at s a hal2] at hda
    injection hda
  obtain ⟨c0, c1, c2, c3⟩ := hr.cells
  have f1 := hr.frozen 1
  have HRR := Lib.hid hr
  have HLK : Hid (∀ v E W, StE r s v E W → Calls Tryz.prog 48 #[.pointer (some ⟨r, 0, none⟩)] W fun x w' => x = .returned (.int .u8 ((lkE E).toNat : Int)) ∧ Below W.heap.size W w') := Lib.hid fun v E W hW => e_look r s v E hs W hW
  have HBL : Hid (∀ v E W, StE r s v E W → Calls Tryz.prog 26 #[.pointer (some ⟨r, 0, none⟩)] W fun x w' => x = .returned (.tuple #[]) ∧ StE r s v (blE E) w' ∧ RK r W w') := Lib.hid fun v E W hW => e_blanks r s v E hs W hW
  have HFA : Hid (∀ (c : Int) v E W, c ≠ 0 → StE r s v E W → Calls Tryz.prog 27 #[.pointer (some ⟨r, 0, none⟩), .int .i64 c] W fun x w' => x = .returned (.tuple #[]) ∧ StE r s v (failE c E) w' ∧ RK r W w') := Lib.hid fun c v E W hc hW => e_fail r s v E c hc W hW
  have HTE : Hid (∀ v E W, StE r s v E W → Calls Tryz.prog 52 #[.pointer (some ⟨r, 0, none⟩), .string ⟨#[125]⟩] W fun x w' => x = .returned (.tuple #[]) ∧ StE r s v (tkE [125] E) w' ∧ RK r W w') := Lib.hid fun v E W hW => e_take r s v E ⟨#[125]⟩ hs (by decide) (by decide) (by decide) W hW
  have t0 : (op == 16) = true := beq_iff_eq.2 (by omega)
  clear hr h0 hop
  go_enter Tryz.func50, Tryz.ntmps50
  go_wp2_with fail
  refine (HLK.out _ _ _ HH.out).mono ?_; rintro x w1 ⟨rfl, hb⟩
  rw [show ((lkE (.ok (123 :: l))).toNat : Int) = 123 from rfl]
  have HR1 := Lib.hid (HRR.out.below hb)
  have HV1 : Hid (VS r s W v v L (.ok (123 :: l)) w1) := Lib.hid (VS.below ⟨HH.out, HOW.out, VK.refl _ _ _, fun k hk => Or.inl hk⟩ hb)
  clear hb c0 c1 c2 c3 f1
  obtain ⟨c0, c1, c2, c3⟩ := HR1.out.cells
  have f1 := HR1.out.frozen 1
  have HV2 : Hid (VS r s W v v L (.ok l) (w1.setCell ⟨r, 1, none⟩ (.int .i64 ((a + 1 : Nat) : Int)))) := Lib.hid (HV1.out.rk ⟨a + 1, hal2, hda2, HR1.out.at_ (a + 1)⟩ (RK.set r 1 _ _))
  go_wp2_with fail
  rw [show ((a : Int) + 1) = ((a + 1 : Nat) : Int) from by omega]
  generalize (w1.setCell ⟨r, 1, none⟩ (.int .i64 ((a + 1 : Nat) : Int))) = w2 at *
  refine (HFA.out 30 _ _ _ (by decide) HV2.out.st).mono ?_; rintro x w3 ⟨rfl, hst, hk⟩
  have HV3 := Lib.hid (HV2.out.rk hst hk)
  clear hst hk c0 c1 c2 c3 f1
  go_wp2_with fail
  refine (HBL.out _ _ _ HV3.out.st).mono ?_; rintro x wr ⟨rfl, hst, hk⟩
  have HV4 := Lib.hid (HV3.out.rk hst hk)
  have HSW : Hid (StE r s v (.error 30) wr) := Lib.hid HV4.out.st
  have HKW := Lib.hid HV4.out.vk
  clear hst hk
  go_wp2_with fail
  refine wp_loop_rounds 1 ?_; rw [rounds_succ]
  have c3 : wr.cell? ⟨r, 3, none⟩ = some (.int .i64 30) := HSW.out.c3.1
  have HC : (convert 59 9 (.slice (some ⟨wr.heap.size, 0, none⟩) 1 1)).run Tryz.prog (wr.alloc (.cells #[.int .u8 125] 5)) = .ok (.string ⟨#[125]⟩) (wr.alloc (.cells #[.int .u8 125] 5)) := run_convert_own (Own.fresh (k := 1) (l := [125]) (C := #[.int .u8 125]) rfl rfl (by decide) wr)
  have HSA := Lib.hid (HSW.out.below ((Below.refl wr.heap.size wr).alloc (Nat.le_refl _) (.cells #[.int .u8 125] 5)))
  have HKA := Lib.hid (HKW.out.rk (RK.of_below ((Below.refl wr.heap.size wr).alloc (Nat.le_refl _) (.cells #[.int .u8 125] 5)) HSW.out.lt))
  go_wp2_with fail
  refine (HTE.out _ _ _ HSA.out).mono ?_; rintro x w2 ⟨rfl, hst, hk⟩
  have HS2 := Lib.hid hst
  have HK2 := Lib.hid (HKA.out.rk hk)
  have c32 : w2.cell? ⟨r, 3, none⟩ = some (.int .i64 30) := HS2.out.c3.1
  clear hst hk c3 HC
  go_wp2_with fail
  first | go_end0 | refine bodyPost_ret (results_none rfl _ _ _) rfl ?_
  exact ⟨rfl, by decide, v, HS2.out, HK2.out⟩
set_option maxRecDepth 100000 in
set_option maxHeartbeats 8000000 in
theorem rmany_obj (d : Nat) (hval : ValSpec d) (r : Nat) (s : ByteArray) (k : Nat) (op : Int) (v : Value) (L : List Cel) (l : List UInt8) (W : World) (hop : op + ((d + 1 : Nat) : Int) = 16) (h0 : 0 ≤ op) (hs : s.size ≤ 20000) (hv : validD (123 :: l) = true) (h : StE r s v (.ok (123 :: l)) W) (hown : OwnC (r + 1) v L W) (hk : k < L.length) (hL : L.length ≤ 2048) :
    Calls Tryz.prog 50 #[.pointer (some ⟨r, 0, none⟩), .int .i64 (k : Int), .int .i64 op] W fun x w' => x = .returned (.tuple #[]) ∧ ValE r s v (manyJ (d + 1) true k l L) W w' := by
  have HH := Lib.hid h
  have HOW := Lib.hid hown
  have hlt := h.lt
  have hvl : validD l = true := by rw [valid_cons _ _ (by decide)] at hv; exact hv
  obtain ⟨a, hal, hda, hr⟩ := h
  have hal2 : a < s.size := by
    have := dl_len s a
    rw [hda] at this
    simp at this
    omega
  have hda2 : s.data.toList.drop (a + 1) = l := by
    rw [drop_at s a hal2] at hda
    injection hda
  have hca : s[a] = 123 := by
    rw [drop_at s a hal2] at hda
    injection hda
  obtain ⟨c0, c1, c2, c3⟩ := hr.cells
  have f1 := hr.frozen 1
  have HRR := Lib.hid hr
  have HLK : Hid (∀ v E W, StE r s v E W → Calls Tryz.prog 48 #[.pointer (some ⟨r, 0, none⟩)] W fun x w' => x = .returned (.int .u8 ((lkE E).toNat : Int)) ∧ Below W.heap.size W w') := Lib.hid fun v E W hW => e_look r s v E hs W hW
  have HBL : Hid (∀ v E W, StE r s v E W → Calls Tryz.prog 26 #[.pointer (some ⟨r, 0, none⟩)] W fun x w' => x = .returned (.tuple #[]) ∧ StE r s v (blE E) w' ∧ RK r W w') := Lib.hid fun v E W hW => e_blanks r s v E hs W hW
  have HFA : Hid (∀ (c : Int) v E W, c ≠ 0 → StE r s v E W → Calls Tryz.prog 27 #[.pointer (some ⟨r, 0, none⟩), .int .i64 c] W fun x w' => x = .returned (.tuple #[]) ∧ StE r s v (failE c E) w' ∧ RK r W w') := Lib.hid fun c v E W hc hW => e_fail r s v E c hc W hW
  have HTE : Hid (∀ v E W, StE r s v E W → Calls Tryz.prog 52 #[.pointer (some ⟨r, 0, none⟩), .string ⟨#[125]⟩] W fun x w' => x = .returned (.tuple #[]) ∧ StE r s v (tkE [125] E) w' ∧ RK r W w') := Lib.hid fun v E W hW => e_take r s v E ⟨#[125]⟩ hs (by decide) (by decide) (by decide) W hW
  have HTC : Hid (∀ v E W, StE r s v E W → Calls Tryz.prog 52 #[.pointer (some ⟨r, 0, none⟩), .string ⟨#[44]⟩] W fun x w' => x = .returned (.tuple #[]) ∧ StE r s v (tkE [44] E) w' ∧ RK r W w') := Lib.hid fun v E W hW => e_take r s v E ⟨#[44]⟩ hs (by decide) (by decide) (by decide) W hW
  have HVE : Hid (∀ (name : ByteArray) (op : Int) v e W, StE r s v (.error e) W → Calls Tryz.prog 25 #[.pointer (some ⟨r, 0, none⟩), .string name, .int .i64 op] W fun x w' => x = .returned (.tuple #[]) ∧ StE r s v (.error e) w' ∧ RK r W w') := Lib.hid fun name op v e W hW => rvalue_err r s name op v e hs W hW
  have HVA : Hid (∀ (name : ByteArray) (v : Value) (L : List Cel) (l : List UInt8) (W : World), validD l = true → StE r s v (.ok l) W → OwnC (r + 1) v L W → L.length ≤ 2048 → Calls Tryz.prog 25 #[.pointer (some ⟨r, 0, none⟩), .string name, .int .i64 (op + 1)] W fun x w' => x = .returned (.tuple #[]) ∧ ValE r s v (valJ d name.data.toList l L) W w') := Lib.hid fun name v L l W h1 h2 h3 h4 => hval r s name (op + 1) v L l W (by omega) (by omega) hs h1 h2 h3 h4
  have HTQ : Hid (∀ v E W, StE r s v E W → Calls Tryz.prog 52 #[.pointer (some ⟨r, 0, none⟩), .string ⟨#[58]⟩] W fun x w' => x = .returned (.tuple #[]) ∧ StE r s v (tkE [58] E) w' ∧ RK r W w') := Lib.hid fun v E W hW => e_take r s v E ⟨#[58]⟩ hs (by decide) (by decide) (by decide) W hW
  have HTX : Hid (∀ v E W, VaE E → StE r s v E W → Calls Tryz.prog 51 #[.pointer (some ⟨r, 0, none⟩)] W fun x w' => x = .returned (.string ⟨(nmE E).toArray⟩) ∧ StE r s v (txE E) w' ∧ RK r W w') := Lib.hid fun v E W hv hW => e_text r s v E hs hv W hW
  have HAM : Hid (∀ (l : List ByteArray) (v : Value) (s : ByteArray) (W : World), l.length ≤ 1000000 → StrSl4 v l W → Calls Tryz.prog 72 #[v, .string s] W fun e w' => e = .returned (.bool (amongS4 l s)) ∧ W = w') := Lib.hid fun l v s W h1 h2 => ramong04_any l v s W h1 h2
  have t0 : (op == 16) = false := beq_eq_false_iff_ne.2 (by omega)
  have hop15 : op ≤ 15 := by omega
  have hlen : l.length ≤ 20000 := by
    have := dl_len s (a + 1)
    rw [hda2] at this
    omega
  obtain ⟨R, hR⟩ : ∃ R, itemsJ (valJ d) true (l.length + 1) 0 [] (blJ l) L = R := ⟨_, rfl⟩
  have HR0 := Lib.hid hR
  have hmj : manyJ (d + 1) true k l L = finJ k R := by
    show finJ k _ = _
    rw [hR]
  rw [hmj]
  have HVL := Lib.hid hvl
  clear hr hop hmj hR hval
  go_enter Tryz.func50, Tryz.ntmps50
  go_wp2_with fail
  refine (HLK.out _ _ _ HH.out).mono ?_; rintro x w1 ⟨rfl, hb⟩
  rw [show ((lkE (.ok (123 :: l))).toNat : Int) = 123 from rfl]
  have HR1 := Lib.hid (HRR.out.below hb)
  have HV1 : Hid (VS r s W v v L (.ok (123 :: l)) w1) := Lib.hid (VS.below ⟨HH.out, HOW.out, VK.refl _ _ _, fun k hk => Or.inl hk⟩ hb)
  clear hb c0 c1 c2 c3 f1
  obtain ⟨c0, c1, c2, c3⟩ := HR1.out.cells
  have f1 := HR1.out.frozen 1
  have HV2 : Hid (VS r s W v v L (.ok l) (w1.setCell ⟨r, 1, none⟩ (.int .i64 ((a + 1 : Nat) : Int)))) := Lib.hid (HV1.out.rk ⟨a + 1, hal2, hda2, HR1.out.at_ (a + 1)⟩ (RK.set r 1 _ _))
  go_wp2_with fail
  rw [show ((a : Int) + 1) = ((a + 1 : Nat) : Int) from by omega]
  generalize (w1.setCell ⟨r, 1, none⟩ (.int .i64 ((a + 1 : Nat) : Int))) = w2 at *
  refine (HBL.out _ _ _ HV2.out.st).mono ?_; rintro x w3 ⟨rfl, hst, hk3⟩
  have HV3 := Lib.hid (HV2.out.rk hst hk3)
  have hblen := (cut_bl l).1
  have hvb : validD (blJ l) = true := (cut_bl l).2 HVL.out
  clear hst hk3 c0 c1 c2 c3 f1
  go_wp2_with fail
  go_loopg [8, 9] (l.length + 2) (fun gk nl ni wr => ∃ (n : Nat) (nv : Value), nv = nl ∧ ni = .int .i64 (n : Int) ∧
    ((∃ (v1 : Value) (e : Int), Hid (StE r s v1 (.error e) wr) ∧ Hid (VK r v W wr) ∧ e ≠ 0 ∧ Hid (.error e = R)) ∨
     (∃ (v1 : Value) (out : List Cel) (l1 : List UInt8) (f : Nat) (names : List ByteArray) (nm : List (List UInt8)), gk = f + 1 ∧ l1.length < f ∧ n + l1.length ≤ 20000 ∧ names.length ≤ n ∧ out.length ≤ 2048 ∧ L.length ≤ out.length ∧ Hid (names.map (·.data.toList) = nm.reverse) ∧ Hid (validD l1 = true) ∧ Hid (VS r s W v v1 out (.ok l1) wr) ∧ Hid (OwnS W.heap.size nv names wr) ∧ Hid (itemsJ (valJ d) true f n nm l1 out = R))))
  case atStart => exact ⟨0, _, rfl, rfl, Or.inr ⟨v, L, blJ l, l.length + 1, [], [], rfl, by omega, by omega, by simp, hL, Nat.le_refl _, Lib.hid rfl, Lib.hid hvb, HV3, Lib.hid (OwnS.nil _ _), HR0⟩⟩
  case round =>
    rename World => wr
    obtain ⟨n, nv, rfl, rfl, hh⟩ := hrel
    rcases hh with ⟨v1, e, HSW, HKW, he0, HZ⟩ | ⟨v1, out, l1, f, names, nm, hgf, hlf, hnl, hnn, hout, hLo, HNM, HVA1, HVS, HNS, HRT0⟩
    · have te0 : (e == 0) = false := beq_eq_false_iff_ne.2 he0
      have c3 : wr.cell? ⟨r, 3, none⟩ = some (.int .i64 e) := HSW.out.c3.1
      have HC : (convert 59 9 (.slice (some ⟨wr.heap.size, 0, none⟩) 1 1)).run Tryz.prog (wr.alloc (.cells #[.int .u8 125] 5)) = .ok (.string ⟨#[125]⟩) (wr.alloc (.cells #[.int .u8 125] 5)) := run_convert_own (Own.fresh (k := 1) (l := [125]) (C := #[.int .u8 125]) rfl rfl (by decide) wr)
      have HSA := Lib.hid (HSW.out.below ((Below.refl wr.heap.size wr).alloc (Nat.le_refl _) (.cells #[.int .u8 125] 5)))
      have HKA := Lib.hid (HKW.out.rk (RK.of_below ((Below.refl wr.heap.size wr).alloc (Nat.le_refl _) (.cells #[.int .u8 125] 5)) HSW.out.lt))
      go_wp2_with fail
      refine (HTE.out _ _ _ HSA.out).mono ?_; rintro x w2 ⟨rfl, hst, hk⟩
      have HS2 := Lib.hid hst
      have HK2 := Lib.hid (HKA.out.rk hk)
      have c32 : w2.cell? ⟨r, 3, none⟩ = some (.int .i64 e) := HS2.out.c3.1
      clear hst hk c3 HC
      go_wp2_with fail
      first | go_end0 | refine bodyPost_ret (results_none rfl _ _ _) rfl ?_
      rw [← HZ.out]
      exact ⟨rfl, he0, v1, HS2.out, HK2.out⟩
    have c3 : wr.cell? ⟨r, 3, none⟩ = some (.int .i64 0) := HVS.out.st.c3.1
    have hltw : r < W.heap.size := hlt
    have hn2 : n ≤ 20000 := by omega
    by_cases hq : l1.headD 0 = 125
    · obtain ⟨t, hl1, htk⟩ := (head_tk 125 (by decide) l1).1 hq
      have HRZ : Hid (.ok (n, t, out) = R) := Lib.hid (by
        have := HRT0.out
        obtain ⟨f1, rfl⟩ : ∃ f1, f = f1 + 1 := ⟨f - 1, by omega⟩
        rw [itemsJ] at this
        simp only [if_true, Bool.false_eq_true, if_false] at this
        rw [htk] at this
        exact this)
      have HTK := Lib.hid (tkE_some htk)
      have t1 : ((l1.headD 0).toNat : Int) = 125 := by rw [hq]; rfl
      have HLA : Hid (∀ W, StE r s v1 (.ok l1) W → Calls Tryz.prog 48 #[.pointer (some ⟨r, 0, none⟩)] W fun x w' => x = .returned (.int .u8 125) ∧ Below W.heap.size W w') := Lib.hid fun W hW => by
        have := HLK.out v1 (.ok l1) W hW
        rw [show ((lkE (.ok l1)).toNat : Int) = 125 from t1] at this
        exact this
      clear hq t1 hl1 htk
      go_wp2_with fail
      refine (HLA.out _ HVS.out.st).mono ?_; rintro x w4 ⟨rfl, hb⟩
      have HV4 := Lib.hid (HVS.out.below hb)
      have HV5 := Lib.hid (HV4.out.alloc (.cells #[.int .u8 125] 5))
      have HC : (convert 59 9 (.slice (some ⟨w4.heap.size, 0, none⟩) 1 1)).run Tryz.prog (w4.alloc (.cells #[.int .u8 125] 5)) = .ok (.string ⟨#[125]⟩) (w4.alloc (.cells #[.int .u8 125] 5)) := run_convert_own (Own.fresh (k := 1) (l := [125]) (C := #[.int .u8 125]) rfl rfl (by decide) w4)
      clear hb c3
      go_wp2_with fail
      refine (HTE.out _ _ _ HV5.out.st).mono ?_; rintro x w6 ⟨rfl, hst, hk6⟩
      rw [HTK.out] at hst
      have HV6 := Lib.hid (HV5.out.rk hst hk6)
      clear hst hk6 HC
      have c3 : w6.cell? ⟨r, 3, none⟩ = some (.int .i64 0) := HV6.out.st.c3.1
      obtain ⟨c32, c2, f2⟩ := HV6.out.st.c3
      have hko : k < out.length := by omega
      obtain ⟨g, cap, hvg, hBg, hgl, hfz, ck0, ck2, ck3, ck4⟩ := HV6.out.own.form k hko
      subst hvg
      have hfk := hfz (k * 5 + 4)
      have HV7 : Hid (VS r s W v _ (manyAt k n out) (.ok t) (w6.setCell ⟨g, k * 5 + 4, none⟩ (.int .i64 (n : Int)))) := Lib.hid (HV6.out.set rfl (by omega) (manyAt_len k n out) (celFlat_set4 out k (n : Int)))
      have ho2 : (manyAt k n out).length ≤ 2048 := by rw [manyAt_len]; exact hout
      go_wp2_with fail
      first | go_end0 | refine bodyPost_ret (results_none rfl _ _ _) rfl ?_
      rw [← HRZ.out]
      exact ⟨rfl, ho2, _, HV7.out⟩
    · have htk := (head_tk 125 (by decide) l1).2 hq
      obtain ⟨g, rfl⟩ : ∃ g, f = g + 1 := ⟨f - 1, by omega⟩
      have HRT1 : Hid (restR d true nm out g n (memE nm (headE n l1)) = R) := Lib.hid (by rw [← items_obj d g n nm l1 out htk]; exact HRT0.out)
      have t1 : (((l1.headD 0).toNat : Int) != 125) = true := bne_iff_ne.2 fun e => hq (UInt8.toNat_inj.1 (by show _ = 125; omega))
      have HLA : Hid (∀ W, StE r s v1 (.ok l1) W → Calls Tryz.prog 48 #[.pointer (some ⟨r, 0, none⟩)] W fun x w' => x = .returned (.int .u8 ((l1.headD 0).toNat : Int)) ∧ Below W.heap.size W w') := Lib.hid fun W hW => HLK.out v1 (.ok l1) W hW
      have HVH : Hid (VaE (headE n l1)) := Lib.hid (VaE.head HVA1.out)
      have HLH : Hid (∀ l2, headE n l1 = .ok l2 → l2.length ≤ l1.length) := Lib.hid (by
        intro l2 h2
        unfold headE at h2
        split at h2
        · injection h2 with h2; rw [h2]; exact Nat.le_refl _
        · cases hk : tkJ [44] l1 with
          | none => rw [tkE_none hk] at h2; cases h2
          | some t =>
            rw [tkE_some hk] at h2
            injection h2 with h2
            rw [← h2]
            have e1 := (cut_tk _ _ _ (by decide) hk).2
            have e2 := (cut_bl t).1
            omega)
      clear hq htk HRT0
      generalize ((l1.headD 0).toNat : Int) = ci at *
      by_cases hn0 : n = 0
      · have tn : decide ((0 : Int) < (n : Int)) = false := decide_eq_false (by omega)
        have hE : headE n l1 = .ok l1 := if_pos hn0
        rw [hE] at HRT1 HVH HLH
        clear hE
        go_wp2_with fail
        refine (HLA.out _ HVS.out.st).mono ?_; rintro x w4 ⟨rfl, hb⟩
        have HVQ : Hid (VS r s W v v1 out (.ok l1) w4) := Lib.hid (HVS.out.below hb)
        have HNQ := Lib.hid (HNS.out.below hb)
        clear hb c3
        generalize hEE : (Except.ok l1 : Ex) = EE at HRT1 HVH HLH HVQ
        clear hEE
        go_wp2_with fail
        refine (HTX.out _ _ _ HVH.out HVQ.out.st).mono ?_; rintro x w5 ⟨rfl, hst, hk⟩
        have HV5 := Lib.hid (HVQ.out.rk hst hk)
        have HN5 := Lib.hid (HNQ.out.rk hk hltw)
        clear hst hk
        obtain ⟨c35, _, _⟩ := HV5.out.st.c3
        rcases mem_cases nm EE with ⟨eT, hx, hm, hne⟩ | ⟨l3, hx, hm⟩
        · rw [hm] at HRT1
          rw [hx] at HV5 c35
          have HZ : Hid (.error eT = R) := Lib.hid HRT1.out
          have heT : eT ≠ 0 := HV5.out.st.1
          have te0 : (eT == 0) = false := beq_eq_false_iff_ne.2 heT
          have c35' : w5.cell? ⟨r, 3, none⟩ = some (.int .i64 eT) := c35
          rw [hne]
          clear hx hm heT c35
          go_wp2_with fail
          refine (HFA.out 8 _ _ _ (by decide) HV5.out.st).mono ?_; rintro x w5a ⟨rfl, hst, hk⟩
          have HVR : Hid (VS r s W v v1 out (.error eT) w5a) := Lib.hid (HV5.out.rk hst hk)
          have HNR := Lib.hid (HN5.out.rk hk hltw)
          clear hst hk c35'
          have HVP : Hid (VS r s W v v1 out (.error eT) (World.alloc _ (.cells #[.string ⟨#[]⟩] 9))) := Lib.hid (HVR.out.alloc _)
          have hszp := HVP.out.size
          go_wp2_with (at_builtin; refine wpList_pushS rfl _ _ rfl W.heap.size nv names rfl (HNR.out.alloc _) ⟨_, 0, none⟩ 1 ⟨#[]⟩ rfl (new_cell0 _ _ _) ?c1 ?c2 ?_)
          case c1 => omega
          case c2 => exact hszp
          intro nv' w6 hown' hgrow
          have HN6 := Lib.hid hown'
          have HV6 : Hid (VS r s W v v1 out (.error eT) w6) := Lib.hid (HVP.out.names (HNR.out.alloc _) hgrow hltw)
          clear hown' hgrow hszp
          go_wp2_with fail
          refine (HBL.out _ _ _ HV6.out.st).mono ?_; rintro x w7 ⟨rfl, hst, hk⟩
          have HV7 := Lib.hid (HV6.out.rk hst hk)
          have HN7 := Lib.hid (HN6.out.rk hk hltw)
          clear hst hk
          go_wp2_with fail
          refine (HTQ.out _ _ _ HV7.out.st).mono ?_; rintro x w7a ⟨rfl, hst, hk⟩
          have HVT0 := Lib.hid (HV7.out.rk hst hk)
          have HN7a := Lib.hid (HN7.out.rk hk hltw)
          clear hst hk
          go_wp2_with fail
          have HVT : Hid (VS r s W v v1 out (.error eT) w7a) := Lib.hid HVT0.out
          -- the value, of a failed reader
          refine (HVE.out _ _ _ _ _ HVT.out.st).mono ?_; rintro x w8 ⟨rfl, hst, hk⟩
          have HS8 := Lib.hid hst
          have HK8 := Lib.hid (HVT.out.vk.rk hk)
          clear hst hk
          go_wp2_with fail
          refine (HBL.out _ _ _ HS8.out).mono ?_; rintro x w9 ⟨rfl, hst, hk⟩
          have HS9 : Hid (StE r s v1 (.error eT) w9) := Lib.hid hst
          have HK9 := Lib.hid (HK8.out.rk hk)
          clear hst hk
          go_wp2_with fail
          go_roundg (gk - 1)
          case measure => omega
          case rel => exact ⟨n + 1, _, rfl, by go_num, Or.inl ⟨v1, eT, HS9, HK9, HS9.out.1, HZ⟩⟩
        rw [hx] at HV5 c35
        have c35' : w5.cell? ⟨r, 3, none⟩ = some (.int .i64 0) := c35
        have HAMN : Hid (∀ (B0 : Nat) (W0 : World), OwnS B0 nv names W0 → Calls Tryz.prog 72 #[nv, .string ⟨(nmE EE).toArray⟩] W0 fun e w' => e = .returned (.bool (nm.contains (nmE EE))) ∧ W0 = w') := Lib.hid fun B0 W0 hW => by
          have := HAM.out names nv ⟨(nmE EE).toArray⟩ W0 (by omega) hW.sl4
          rw [among_nm names nm HNM.out] at this
          exact this
        have hl3 : l3.length < l1.length := by
          cases hEE : EE with
          | error e => rw [hEE] at hx; cases hx
          | ok l2 =>
            have h1 := HLH.out l2 hEE
            rw [hEE] at hx
            have h2 := HVH.out
            rw [hEE] at h2
            cases hsj : strJ l2 with
            | none => rw [txE_none hsj] at hx; cases hx
            | some y =>
              obtain ⟨q, u⟩ := y
              rw [txE_some hsj] at hx
              injection hx with hx
              have := (cut_str l2 q u h2 hsj).2.1
              rw [hx] at this
              omega
        have hvl3 : validD l3 = true := by
          have := HVH.out.tx
          rw [hx] at this
          exact this
        clear hx c35
        rcases hm with ⟨hcn, hm⟩ | ⟨hcn, hne, hm⟩ | ⟨hcn, hne, hm⟩
        · rw [hm] at HRT1
          rw [hcn] at HAMN
          have HZ : Hid (.error 42 = R) := Lib.hid HRT1.out
          clear hm hcn hvl3
          obtain ⟨eT, heT⟩ : ∃ eT : Int, eT = 42 := ⟨_, rfl⟩
          by_cases hne : nmE EE = []
          · rw [hne] at HAMN ⊢
            go_wp2_with fail
            refine (HAMN.out _ _ HN5.out).mono ?_; rintro x w5a ⟨rfl, rfl⟩
            go_wp2_with fail
            refine (HFA.out 42 _ _ _ (by decide) HV5.out.st).mono ?_; rintro x w5b ⟨rfl, hst, hk⟩
            have HVR0 : Hid (VS r s W v v1 out (.error eT) w5b) := Lib.hid (by rw [heT]; exact HV5.out.rk hst hk)
            have HNR0 := Lib.hid (HN5.out.rk hk hltw)
            rw [← heT] at HZ
            clear hst hk c35'
            go_wp2_with fail
            refine (HFA.out 8 _ _ _ (by decide) HVR0.out.st).mono ?_; rintro x w5c ⟨rfl, hst, hk⟩
            have HVR : Hid (VS r s W v v1 out (.error eT) w5c) := Lib.hid (HVR0.out.rk hst hk)
            have HNR := Lib.hid (HNR0.out.rk hk hltw)
            clear hst hk
            have HVP : Hid (VS r s W v v1 out (.error eT) (World.alloc _ (.cells #[.string ⟨#[]⟩] 9))) := Lib.hid (HVR.out.alloc _)
            have hszp := HVP.out.size
            go_wp2_with (at_builtin; refine wpList_pushS rfl _ _ rfl W.heap.size nv names rfl (HNR.out.alloc _) ⟨_, 0, none⟩ 1 ⟨#[]⟩ rfl (new_cell0 _ _ _) ?c1 ?c2 ?_)
            case c1 => omega
            case c2 => exact hszp
            intro nv' w6 hown' hgrow
            have HN6 := Lib.hid hown'
            have HV6 : Hid (VS r s W v v1 out (.error eT) w6) := Lib.hid (HVP.out.names (HNR.out.alloc _) hgrow hltw)
            clear hown' hgrow hszp
            go_wp2_with fail
            refine (HBL.out _ _ _ HV6.out.st).mono ?_; rintro x w7 ⟨rfl, hst, hk⟩
            have HV7 := Lib.hid (HV6.out.rk hst hk)
            have HN7 := Lib.hid (HN6.out.rk hk hltw)
            clear hst hk
            go_wp2_with fail
            refine (HTQ.out _ _ _ HV7.out.st).mono ?_; rintro x w7a ⟨rfl, hst, hk⟩
            have HVT0 := Lib.hid (HV7.out.rk hst hk)
            have HN7a := Lib.hid (HN7.out.rk hk hltw)
            clear hst hk
            go_wp2_with fail
            have HVT : Hid (VS r s W v v1 out (.error eT) w7a) := Lib.hid HVT0.out
            -- the value, of a failed reader
            refine (HVE.out _ _ _ _ _ HVT.out.st).mono ?_; rintro x w8 ⟨rfl, hst, hk⟩
            have HS8 := Lib.hid hst
            have HK8 := Lib.hid (HVT.out.vk.rk hk)
            clear hst hk
            go_wp2_with fail
            refine (HBL.out _ _ _ HS8.out).mono ?_; rintro x w9 ⟨rfl, hst, hk⟩
            have HS9 : Hid (StE r s v1 (.error eT) w9) := Lib.hid hst
            have HK9 := Lib.hid (HK8.out.rk hk)
            clear hst hk
            go_wp2_with fail
            go_roundg (gk - 1)
            case measure => omega
            case rel => exact ⟨n + 1, _, rfl, by go_num, Or.inl ⟨v1, eT, HS9, HK9, HS9.out.1, HZ⟩⟩
          · have hn1 : ¬ (nmE EE) = [] := hne
            have hn2' : (nmE EE).isEmpty = false := by cases h : nmE EE with | nil => exact absurd h hne | cons a b => rfl
            go_wp2_with fail
            refine (HAMN.out _ _ HN5.out).mono ?_; rintro x w5a ⟨rfl, rfl⟩
            go_wp2_with fail
            refine (HFA.out 42 _ _ _ (by decide) HV5.out.st).mono ?_; rintro x w5b ⟨rfl, hst, hk⟩
            have HVR : Hid (VS r s W v v1 out (.error eT) w5b) := Lib.hid (by rw [heT]; exact HV5.out.rk hst hk)
            have HNR := Lib.hid (HN5.out.rk hk hltw)
            rw [← heT] at HZ
            clear hst hk c35'
            have HVP : Hid (VS r s W v v1 out (.error eT) (World.alloc _ (.cells #[.string ⟨(nmE EE).toArray⟩] 9))) := Lib.hid (HVR.out.alloc _)
            have hszp := HVP.out.size
            go_wp2_with (at_builtin; refine wpList_pushS rfl _ _ rfl W.heap.size nv names rfl (HNR.out.alloc _) ⟨_, 0, none⟩ 1 ⟨(nmE EE).toArray⟩ rfl (new_cell0 _ _ _) ?c1 ?c2 ?_)
            case c1 => omega
            case c2 => exact hszp
            intro nv' w6 hown' hgrow
            have HN6 := Lib.hid hown'
            have HV6 : Hid (VS r s W v v1 out (.error eT) w6) := Lib.hid (HVP.out.names (HNR.out.alloc _) hgrow hltw)
            clear hown' hgrow hszp
            go_wp2_with fail
            refine (HBL.out _ _ _ HV6.out.st).mono ?_; rintro x w7 ⟨rfl, hst, hk⟩
            have HV7 := Lib.hid (HV6.out.rk hst hk)
            have HN7 := Lib.hid (HN6.out.rk hk hltw)
            clear hst hk
            go_wp2_with fail
            refine (HTQ.out _ _ _ HV7.out.st).mono ?_; rintro x w7a ⟨rfl, hst, hk⟩
            have HVT0 := Lib.hid (HV7.out.rk hst hk)
            have HN7a := Lib.hid (HN7.out.rk hk hltw)
            clear hst hk
            go_wp2_with fail
            have HVT : Hid (VS r s W v v1 out (.error eT) w7a) := Lib.hid HVT0.out
            -- the value, of a failed reader
            refine (HVE.out _ _ _ _ _ HVT.out.st).mono ?_; rintro x w8 ⟨rfl, hst, hk⟩
            have HS8 := Lib.hid hst
            have HK8 := Lib.hid (HVT.out.vk.rk hk)
            clear hst hk
            go_wp2_with fail
            refine (HBL.out _ _ _ HS8.out).mono ?_; rintro x w9 ⟨rfl, hst, hk⟩
            have HS9 : Hid (StE r s v1 (.error eT) w9) := Lib.hid hst
            have HK9 := Lib.hid (HK8.out.rk hk)
            clear hst hk
            go_wp2_with fail
            go_roundg (gk - 1)
            case measure => omega
            case rel => exact ⟨n + 1, _, rfl, by go_num, Or.inl ⟨v1, eT, HS9, HK9, HS9.out.1, HZ⟩⟩
        · rw [hm] at HRT1
          rw [hcn] at HAMN
          have HZ : Hid (.error 8 = R) := Lib.hid HRT1.out
          clear hm hcn hvl3
          obtain ⟨eT, heT⟩ : ∃ eT : Int, eT = 8 := ⟨_, rfl⟩
          rw [hne] at HAMN ⊢
          go_wp2_with fail
          refine (HAMN.out _ _ HN5.out).mono ?_; rintro x w5a ⟨rfl, rfl⟩
          go_wp2_with fail
          refine (HFA.out 8 _ _ _ (by decide) HV5.out.st).mono ?_; rintro x w5b ⟨rfl, hst, hk⟩
          have HVR : Hid (VS r s W v v1 out (.error eT) w5b) := Lib.hid (by rw [heT]; exact HV5.out.rk hst hk)
          have HNR := Lib.hid (HN5.out.rk hk hltw)
          rw [← heT] at HZ
          clear hst hk c35'
          have HVP : Hid (VS r s W v v1 out (.error eT) (World.alloc _ (.cells #[.string ⟨#[]⟩] 9))) := Lib.hid (HVR.out.alloc _)
          have hszp := HVP.out.size
          go_wp2_with (at_builtin; refine wpList_pushS rfl _ _ rfl W.heap.size nv names rfl (HNR.out.alloc _) ⟨_, 0, none⟩ 1 ⟨#[]⟩ rfl (new_cell0 _ _ _) ?c1 ?c2 ?_)
          case c1 => omega
          case c2 => exact hszp
          intro nv' w6 hown' hgrow
          have HN6 := Lib.hid hown'
          have HV6 : Hid (VS r s W v v1 out (.error eT) w6) := Lib.hid (HVP.out.names (HNR.out.alloc _) hgrow hltw)
          clear hown' hgrow hszp
          go_wp2_with fail
          refine (HBL.out _ _ _ HV6.out.st).mono ?_; rintro x w7 ⟨rfl, hst, hk⟩
          have HV7 := Lib.hid (HV6.out.rk hst hk)
          have HN7 := Lib.hid (HN6.out.rk hk hltw)
          clear hst hk
          go_wp2_with fail
          refine (HTQ.out _ _ _ HV7.out.st).mono ?_; rintro x w7a ⟨rfl, hst, hk⟩
          have HVT0 := Lib.hid (HV7.out.rk hst hk)
          have HN7a := Lib.hid (HN7.out.rk hk hltw)
          clear hst hk
          go_wp2_with fail
          have HVT : Hid (VS r s W v v1 out (.error eT) w7a) := Lib.hid HVT0.out
          -- the value, of a failed reader
          refine (HVE.out _ _ _ _ _ HVT.out.st).mono ?_; rintro x w8 ⟨rfl, hst, hk⟩
          have HS8 := Lib.hid hst
          have HK8 := Lib.hid (HVT.out.vk.rk hk)
          clear hst hk
          go_wp2_with fail
          refine (HBL.out _ _ _ HS8.out).mono ?_; rintro x w9 ⟨rfl, hst, hk⟩
          have HS9 : Hid (StE r s v1 (.error eT) w9) := Lib.hid hst
          have HK9 := Lib.hid (HK8.out.rk hk)
          clear hst hk
          go_wp2_with fail
          go_roundg (gk - 1)
          case measure => omega
          case rel => exact ⟨n + 1, _, rfl, by go_num, Or.inl ⟨v1, eT, HS9, HK9, HS9.out.1, HZ⟩⟩
        · rw [hcn] at HAMN
          have hn1 : ¬ (nmE EE) = [] := hne
          have hn2' : (nmE EE).isEmpty = false := by cases h : nmE EE with | nil => exact absurd h hne | cons a b => rfl
          go_wp2_with fail
          refine (HAMN.out _ _ HN5.out).mono ?_; rintro x w5a ⟨rfl, rfl⟩
          have HVR : Hid (VS r s W v v1 out (.ok l3) w5) := HV5
          have HNR := HN5
          clear c35' hcn
          have HVP : Hid (VS r s W v v1 out (.ok l3) (World.alloc _ (.cells #[.string ⟨(nmE EE).toArray⟩] 9))) := Lib.hid (HVR.out.alloc _)
          have hszp := HVP.out.size
          go_wp2_with (at_builtin; refine wpList_pushS rfl _ _ rfl W.heap.size nv names rfl (HNR.out.alloc _) ⟨_, 0, none⟩ 1 ⟨(nmE EE).toArray⟩ rfl (new_cell0 _ _ _) ?c1 ?c2 ?_)
          case c1 => omega
          case c2 => exact hszp
          intro nv' w6 hown' hgrow
          have HN6 := Lib.hid hown'
          have HV6 : Hid (VS r s W v v1 out (.ok l3) w6) := Lib.hid (HVP.out.names (HNR.out.alloc _) hgrow hltw)
          clear hown' hgrow hszp
          go_wp2_with fail
          refine (HBL.out _ _ _ HV6.out.st).mono ?_; rintro x w7 ⟨rfl, hst, hk⟩
          have HV7 := Lib.hid (HV6.out.rk hst hk)
          have HN7 := Lib.hid (HN6.out.rk hk hltw)
          clear hst hk
          go_wp2_with fail
          refine (HTQ.out _ _ _ HV7.out.st).mono ?_; rintro x w7a ⟨rfl, hst, hk⟩
          have HVT0 := Lib.hid (HV7.out.rk hst hk)
          have HN7a := Lib.hid (HN7.out.rk hk hltw)
          clear hst hk
          go_wp2_with fail
          rcases hm with ⟨ht, hm⟩ | ⟨lT, ht, hm⟩
          · rw [hm] at HRT1
            have HZ : Hid (.error 40 = R) := Lib.hid HRT1.out
            obtain ⟨eT, heT⟩ : ∃ eT : Int, eT = 40 := ⟨_, rfl⟩
            have hE6 : tkE [58] (blE (.ok l3)) = .error eT := by rw [heT]; exact tkE_none ht
            rw [hE6] at HVT0
            rw [← heT] at HZ
            have HVT := HVT0
            clear hm ht hE6
            -- the value, of a failed reader
            refine (HVE.out _ _ _ _ _ HVT.out.st).mono ?_; rintro x w8 ⟨rfl, hst, hk⟩
            have HS8 := Lib.hid hst
            have HK8 := Lib.hid (HVT.out.vk.rk hk)
            clear hst hk
            go_wp2_with fail
            refine (HBL.out _ _ _ HS8.out).mono ?_; rintro x w9 ⟨rfl, hst, hk⟩
            have HS9 : Hid (StE r s v1 (.error eT) w9) := Lib.hid hst
            have HK9 := Lib.hid (HK8.out.rk hk)
            clear hst hk
            go_wp2_with fail
            go_roundg (gk - 1)
            case measure => omega
            case rel => exact ⟨n + 1, _, rfl, by go_num, Or.inl ⟨v1, eT, HS9, HK9, HS9.out.1, HZ⟩⟩
          · rw [hm] at HRT1
            have HRT : Hid (restR d true nm out g n (.ok (nmE EE, lT)) = R) := HRT1
            have hE6 : tkE [58] (blE (.ok l3)) = .ok lT := tkE_some ht
            rw [hE6] at HVT0
            have HVT := HVT0
            have hct := cut_tk _ _ _ (by decide) ht
            have hvT : validD lT = true := hct.1.2 ((cut_bl l3).2 hvl3)
            have hlT : lT.length < l1.length := by
              have h1 := (cut_bl l3).1
              have h2 := hct.2
              simp at h2
              omega
            clear hm ht hE6 hct
            -- the value
            refine (HVA.out _ _ _ _ _ hvT HVT.out.st HVT.out.own hout).mono ?_; rintro x w8 ⟨rfl, hve⟩
            have HN8pre := Lib.hid hve
            cases hvj : valJ d (nmE EE) lT out with
            | error eT =>
              rw [show ((⟨(nmE EE).toArray⟩ : ByteArray).data.toList) = (nmE EE) from rfl, hvj] at hve
              obtain ⟨he0, v8, hst8, hvk8⟩ := hve
              have HZ : Hid (.error eT = R) := Lib.hid (by have := HRT.out; simp only [restR, hvj] at this; exact this)
              have HS8 := Lib.hid hst8
              have HK8 : Hid (VK r v W w8) := Lib.hid (HVT.out.vk.trans hvk8 HVT.out.ob)
              clear hst8 hvk8 HN8pre hvj
              go_wp2_with fail
              refine (HBL.out _ _ _ HS8.out).mono ?_; rintro x w9 ⟨rfl, hst, hk⟩
              have HS9 : Hid (StE r s v8 (.error eT) w9) := Lib.hid hst
              have HK9 := Lib.hid (HK8.out.rk hk)
              clear hst hk
              go_wp2_with fail
              go_roundg (gk - 1)
              case measure => omega
              case rel => exact ⟨n + 1, _, rfl, by go_num, Or.inl ⟨v8, eT, HS9, HK9, HS9.out.1, HZ⟩⟩
            | ok y =>
              obtain ⟨l3', out2⟩ := y
              rw [show ((⟨(nmE EE).toArray⟩ : ByteArray).data.toList) = (nmE EE) from rfl, hvj] at hve
              obtain ⟨hl8, v8, hvs8⟩ := hve
              obtain ⟨k1, k2, new, hnew, _⟩ := cut_val d _ _ _ _ _ hvT hvj
              have hlo2 : L.length ≤ out2.length := by rw [hnew, List.length_append]; omega
              have HRN : Hid (itemsJ (valJ d) true g (n + 1) (nmE EE :: nm) (blJ l3') out2 = R) := Lib.hid (by have := HRT.out; simp only [restR, hvj] at this; exact this)
              have HV8 : Hid (VS r s W v v8 out2 (.ok l3') w8) := Lib.hid ⟨hvs8.st, hvs8.own, HVT.out.vk.trans hvs8.vk HVT.out.ob, fun k hk => by
                rcases hvs8.ob k hk with h | h
                · exact HVT.out.ob k h
                · exact Or.inr (Nat.le_trans HVT.out.size h)⟩
              have HN8 : Hid (OwnS W.heap.size nv' (names ++ [⟨(nmE EE).toArray⟩]) w8) := Lib.hid (HN7a.out.vk HVT.out.own hvs8.vk hltw)
              have hv3 : validD (blJ l3') = true := (cut_bl l3').2 (k1.2 hvT)
              have hbl := (cut_bl l3').1
              clear hvs8 HN8pre hvj k1
              go_wp2_with fail
              refine (HBL.out _ _ _ HV8.out.st).mono ?_; rintro x w9 ⟨rfl, hst, hk⟩
              have HV9 := Lib.hid (HV8.out.rk hst hk)
              have HN9 := Lib.hid (HN8.out.rk hk hltw)
              clear hst hk
              go_wp2_with fail
              go_roundg (gk - 1)
              case measure => omega
              case rel => exact ⟨n + 1, nv', rfl, by go_num, Or.inr ⟨v8, out2, blJ l3', g, names ++ [⟨(nmE EE).toArray⟩], nmE EE :: nm, by omega, by omega, by omega, by simp; omega, hl8, hlo2, Lib.hid (by rw [List.map_append, HNM.out, List.reverse_cons]; rfl), Lib.hid hv3, HV9, HN9, HRN⟩⟩
      · have tn : decide ((0 : Int) < (n : Int)) = true := decide_eq_true (by omega)
        have hE : headE n l1 = blE (tkE [44] (.ok l1)) := if_neg hn0
        rw [hE] at HRT1 HVH HLH
        clear hE
        go_wp2_with fail
        refine (HLA.out _ HVS.out.st).mono ?_; rintro x w4 ⟨rfl, hb⟩
        have HVQ0 := Lib.hid (HVS.out.below hb)
        have HNQ0 := Lib.hid (HNS.out.below hb)
        clear hb c3
        go_wp2_with fail
        refine (HTC.out _ _ _ HVQ0.out.st).mono ?_; rintro x w4a ⟨rfl, hst, hk⟩
        have HVQ1 := Lib.hid (HVQ0.out.rk hst hk)
        have HNQ1 := Lib.hid (HNQ0.out.rk hk hltw)
        clear hst hk
        go_wp2_with fail
        refine (HBL.out _ _ _ HVQ1.out.st).mono ?_; rintro x w4b ⟨rfl, hst, hk⟩
        have HVQ := Lib.hid (HVQ1.out.rk hst hk)
        have HNQ := Lib.hid (HNQ1.out.rk hk hltw)
        clear hst hk
        generalize hEE : blE (tkE [44] (.ok l1)) = EE at HRT1 HVH HLH HVQ
        clear hEE
        go_wp2_with fail
        refine (HTX.out _ _ _ HVH.out HVQ.out.st).mono ?_; rintro x w5 ⟨rfl, hst, hk⟩
        have HV5 := Lib.hid (HVQ.out.rk hst hk)
        have HN5 := Lib.hid (HNQ.out.rk hk hltw)
        clear hst hk
        obtain ⟨c35, _, _⟩ := HV5.out.st.c3
        rcases mem_cases nm EE with ⟨eT, hx, hm, hne⟩ | ⟨l3, hx, hm⟩
        · rw [hm] at HRT1
          rw [hx] at HV5 c35
          have HZ : Hid (.error eT = R) := Lib.hid HRT1.out
          have heT : eT ≠ 0 := HV5.out.st.1
          have te0 : (eT == 0) = false := beq_eq_false_iff_ne.2 heT
          have c35' : w5.cell? ⟨r, 3, none⟩ = some (.int .i64 eT) := c35
          rw [hne]
          clear hx hm heT c35
          go_wp2_with fail
          refine (HFA.out 8 _ _ _ (by decide) HV5.out.st).mono ?_; rintro x w5a ⟨rfl, hst, hk⟩
          have HVR : Hid (VS r s W v v1 out (.error eT) w5a) := Lib.hid (HV5.out.rk hst hk)
          have HNR := Lib.hid (HN5.out.rk hk hltw)
          clear hst hk c35'
          have HVP : Hid (VS r s W v v1 out (.error eT) (World.alloc _ (.cells #[.string ⟨#[]⟩] 9))) := Lib.hid (HVR.out.alloc _)
          have hszp := HVP.out.size
          go_wp2_with (at_builtin; refine wpList_pushS rfl _ _ rfl W.heap.size nv names rfl (HNR.out.alloc _) ⟨_, 0, none⟩ 1 ⟨#[]⟩ rfl (new_cell0 _ _ _) ?c1 ?c2 ?_)
          case c1 => omega
          case c2 => exact hszp
          intro nv' w6 hown' hgrow
          have HN6 := Lib.hid hown'
          have HV6 : Hid (VS r s W v v1 out (.error eT) w6) := Lib.hid (HVP.out.names (HNR.out.alloc _) hgrow hltw)
          clear hown' hgrow hszp
          go_wp2_with fail
          refine (HBL.out _ _ _ HV6.out.st).mono ?_; rintro x w7 ⟨rfl, hst, hk⟩
          have HV7 := Lib.hid (HV6.out.rk hst hk)
          have HN7 := Lib.hid (HN6.out.rk hk hltw)
          clear hst hk
          go_wp2_with fail
          refine (HTQ.out _ _ _ HV7.out.st).mono ?_; rintro x w7a ⟨rfl, hst, hk⟩
          have HVT0 := Lib.hid (HV7.out.rk hst hk)
          have HN7a := Lib.hid (HN7.out.rk hk hltw)
          clear hst hk
          go_wp2_with fail
          have HVT : Hid (VS r s W v v1 out (.error eT) w7a) := Lib.hid HVT0.out
          -- the value, of a failed reader
          refine (HVE.out _ _ _ _ _ HVT.out.st).mono ?_; rintro x w8 ⟨rfl, hst, hk⟩
          have HS8 := Lib.hid hst
          have HK8 := Lib.hid (HVT.out.vk.rk hk)
          clear hst hk
          go_wp2_with fail
          refine (HBL.out _ _ _ HS8.out).mono ?_; rintro x w9 ⟨rfl, hst, hk⟩
          have HS9 : Hid (StE r s v1 (.error eT) w9) := Lib.hid hst
          have HK9 := Lib.hid (HK8.out.rk hk)
          clear hst hk
          go_wp2_with fail
          go_roundg (gk - 1)
          case measure => omega
          case rel => exact ⟨n + 1, _, rfl, by go_num, Or.inl ⟨v1, eT, HS9, HK9, HS9.out.1, HZ⟩⟩
        rw [hx] at HV5 c35
        have c35' : w5.cell? ⟨r, 3, none⟩ = some (.int .i64 0) := c35
        have HAMN : Hid (∀ (B0 : Nat) (W0 : World), OwnS B0 nv names W0 → Calls Tryz.prog 72 #[nv, .string ⟨(nmE EE).toArray⟩] W0 fun e w' => e = .returned (.bool (nm.contains (nmE EE))) ∧ W0 = w') := Lib.hid fun B0 W0 hW => by
          have := HAM.out names nv ⟨(nmE EE).toArray⟩ W0 (by omega) hW.sl4
          rw [among_nm names nm HNM.out] at this
          exact this
        have hl3 : l3.length < l1.length := by
          cases hEE : EE with
          | error e => rw [hEE] at hx; cases hx
          | ok l2 =>
            have h1 := HLH.out l2 hEE
            rw [hEE] at hx
            have h2 := HVH.out
            rw [hEE] at h2
            cases hsj : strJ l2 with
            | none => rw [txE_none hsj] at hx; cases hx
            | some y =>
              obtain ⟨q, u⟩ := y
              rw [txE_some hsj] at hx
              injection hx with hx
              have := (cut_str l2 q u h2 hsj).2.1
              rw [hx] at this
              omega
        have hvl3 : validD l3 = true := by
          have := HVH.out.tx
          rw [hx] at this
          exact this
        clear hx c35
        rcases hm with ⟨hcn, hm⟩ | ⟨hcn, hne, hm⟩ | ⟨hcn, hne, hm⟩
        · rw [hm] at HRT1
          rw [hcn] at HAMN
          have HZ : Hid (.error 42 = R) := Lib.hid HRT1.out
          clear hm hcn hvl3
          obtain ⟨eT, heT⟩ : ∃ eT : Int, eT = 42 := ⟨_, rfl⟩
          by_cases hne : nmE EE = []
          · rw [hne] at HAMN ⊢
            go_wp2_with fail
            refine (HAMN.out _ _ HN5.out).mono ?_; rintro x w5a ⟨rfl, rfl⟩
            go_wp2_with fail
            refine (HFA.out 42 _ _ _ (by decide) HV5.out.st).mono ?_; rintro x w5b ⟨rfl, hst, hk⟩
            have HVR0 : Hid (VS r s W v v1 out (.error eT) w5b) := Lib.hid (by rw [heT]; exact HV5.out.rk hst hk)
            have HNR0 := Lib.hid (HN5.out.rk hk hltw)
            rw [← heT] at HZ
            clear hst hk c35'
            go_wp2_with fail
            refine (HFA.out 8 _ _ _ (by decide) HVR0.out.st).mono ?_; rintro x w5c ⟨rfl, hst, hk⟩
            have HVR : Hid (VS r s W v v1 out (.error eT) w5c) := Lib.hid (HVR0.out.rk hst hk)
            have HNR := Lib.hid (HNR0.out.rk hk hltw)
            clear hst hk
            have HVP : Hid (VS r s W v v1 out (.error eT) (World.alloc _ (.cells #[.string ⟨#[]⟩] 9))) := Lib.hid (HVR.out.alloc _)
            have hszp := HVP.out.size
            go_wp2_with (at_builtin; refine wpList_pushS rfl _ _ rfl W.heap.size nv names rfl (HNR.out.alloc _) ⟨_, 0, none⟩ 1 ⟨#[]⟩ rfl (new_cell0 _ _ _) ?c1 ?c2 ?_)
            case c1 => omega
            case c2 => exact hszp
            intro nv' w6 hown' hgrow
            have HN6 := Lib.hid hown'
            have HV6 : Hid (VS r s W v v1 out (.error eT) w6) := Lib.hid (HVP.out.names (HNR.out.alloc _) hgrow hltw)
            clear hown' hgrow hszp
            go_wp2_with fail
            refine (HBL.out _ _ _ HV6.out.st).mono ?_; rintro x w7 ⟨rfl, hst, hk⟩
            have HV7 := Lib.hid (HV6.out.rk hst hk)
            have HN7 := Lib.hid (HN6.out.rk hk hltw)
            clear hst hk
            go_wp2_with fail
            refine (HTQ.out _ _ _ HV7.out.st).mono ?_; rintro x w7a ⟨rfl, hst, hk⟩
            have HVT0 := Lib.hid (HV7.out.rk hst hk)
            have HN7a := Lib.hid (HN7.out.rk hk hltw)
            clear hst hk
            go_wp2_with fail
            have HVT : Hid (VS r s W v v1 out (.error eT) w7a) := Lib.hid HVT0.out
            -- the value, of a failed reader
            refine (HVE.out _ _ _ _ _ HVT.out.st).mono ?_; rintro x w8 ⟨rfl, hst, hk⟩
            have HS8 := Lib.hid hst
            have HK8 := Lib.hid (HVT.out.vk.rk hk)
            clear hst hk
            go_wp2_with fail
            refine (HBL.out _ _ _ HS8.out).mono ?_; rintro x w9 ⟨rfl, hst, hk⟩
            have HS9 : Hid (StE r s v1 (.error eT) w9) := Lib.hid hst
            have HK9 := Lib.hid (HK8.out.rk hk)
            clear hst hk
            go_wp2_with fail
            go_roundg (gk - 1)
            case measure => omega
            case rel => exact ⟨n + 1, _, rfl, by go_num, Or.inl ⟨v1, eT, HS9, HK9, HS9.out.1, HZ⟩⟩
          · have hn1 : ¬ (nmE EE) = [] := hne
            have hn2' : (nmE EE).isEmpty = false := by cases h : nmE EE with | nil => exact absurd h hne | cons a b => rfl
            go_wp2_with fail
            refine (HAMN.out _ _ HN5.out).mono ?_; rintro x w5a ⟨rfl, rfl⟩
            go_wp2_with fail
            refine (HFA.out 42 _ _ _ (by decide) HV5.out.st).mono ?_; rintro x w5b ⟨rfl, hst, hk⟩
            have HVR : Hid (VS r s W v v1 out (.error eT) w5b) := Lib.hid (by rw [heT]; exact HV5.out.rk hst hk)
            have HNR := Lib.hid (HN5.out.rk hk hltw)
            rw [← heT] at HZ
            clear hst hk c35'
            have HVP : Hid (VS r s W v v1 out (.error eT) (World.alloc _ (.cells #[.string ⟨(nmE EE).toArray⟩] 9))) := Lib.hid (HVR.out.alloc _)
            have hszp := HVP.out.size
            go_wp2_with (at_builtin; refine wpList_pushS rfl _ _ rfl W.heap.size nv names rfl (HNR.out.alloc _) ⟨_, 0, none⟩ 1 ⟨(nmE EE).toArray⟩ rfl (new_cell0 _ _ _) ?c1 ?c2 ?_)
            case c1 => omega
            case c2 => exact hszp
            intro nv' w6 hown' hgrow
            have HN6 := Lib.hid hown'
            have HV6 : Hid (VS r s W v v1 out (.error eT) w6) := Lib.hid (HVP.out.names (HNR.out.alloc _) hgrow hltw)
            clear hown' hgrow hszp
            go_wp2_with fail
            refine (HBL.out _ _ _ HV6.out.st).mono ?_; rintro x w7 ⟨rfl, hst, hk⟩
            have HV7 := Lib.hid (HV6.out.rk hst hk)
            have HN7 := Lib.hid (HN6.out.rk hk hltw)
            clear hst hk
            go_wp2_with fail
            refine (HTQ.out _ _ _ HV7.out.st).mono ?_; rintro x w7a ⟨rfl, hst, hk⟩
            have HVT0 := Lib.hid (HV7.out.rk hst hk)
            have HN7a := Lib.hid (HN7.out.rk hk hltw)
            clear hst hk
            go_wp2_with fail
            have HVT : Hid (VS r s W v v1 out (.error eT) w7a) := Lib.hid HVT0.out
            -- the value, of a failed reader
            refine (HVE.out _ _ _ _ _ HVT.out.st).mono ?_; rintro x w8 ⟨rfl, hst, hk⟩
            have HS8 := Lib.hid hst
            have HK8 := Lib.hid (HVT.out.vk.rk hk)
            clear hst hk
            go_wp2_with fail
            refine (HBL.out _ _ _ HS8.out).mono ?_; rintro x w9 ⟨rfl, hst, hk⟩
            have HS9 : Hid (StE r s v1 (.error eT) w9) := Lib.hid hst
            have HK9 := Lib.hid (HK8.out.rk hk)
            clear hst hk
            go_wp2_with fail
            go_roundg (gk - 1)
            case measure => omega
            case rel => exact ⟨n + 1, _, rfl, by go_num, Or.inl ⟨v1, eT, HS9, HK9, HS9.out.1, HZ⟩⟩
        · rw [hm] at HRT1
          rw [hcn] at HAMN
          have HZ : Hid (.error 8 = R) := Lib.hid HRT1.out
          clear hm hcn hvl3
          obtain ⟨eT, heT⟩ : ∃ eT : Int, eT = 8 := ⟨_, rfl⟩
          rw [hne] at HAMN ⊢
          go_wp2_with fail
          refine (HAMN.out _ _ HN5.out).mono ?_; rintro x w5a ⟨rfl, rfl⟩
          go_wp2_with fail
          refine (HFA.out 8 _ _ _ (by decide) HV5.out.st).mono ?_; rintro x w5b ⟨rfl, hst, hk⟩
          have HVR : Hid (VS r s W v v1 out (.error eT) w5b) := Lib.hid (by rw [heT]; exact HV5.out.rk hst hk)
          have HNR := Lib.hid (HN5.out.rk hk hltw)
          rw [← heT] at HZ
          clear hst hk c35'
          have HVP : Hid (VS r s W v v1 out (.error eT) (World.alloc _ (.cells #[.string ⟨#[]⟩] 9))) := Lib.hid (HVR.out.alloc _)
          have hszp := HVP.out.size
          go_wp2_with (at_builtin; refine wpList_pushS rfl _ _ rfl W.heap.size nv names rfl (HNR.out.alloc _) ⟨_, 0, none⟩ 1 ⟨#[]⟩ rfl (new_cell0 _ _ _) ?c1 ?c2 ?_)
          case c1 => omega
          case c2 => exact hszp
          intro nv' w6 hown' hgrow
          have HN6 := Lib.hid hown'
          have HV6 : Hid (VS r s W v v1 out (.error eT) w6) := Lib.hid (HVP.out.names (HNR.out.alloc _) hgrow hltw)
          clear hown' hgrow hszp
          go_wp2_with fail
          refine (HBL.out _ _ _ HV6.out.st).mono ?_; rintro x w7 ⟨rfl, hst, hk⟩
          have HV7 := Lib.hid (HV6.out.rk hst hk)
          have HN7 := Lib.hid (HN6.out.rk hk hltw)
          clear hst hk
          go_wp2_with fail
          refine (HTQ.out _ _ _ HV7.out.st).mono ?_; rintro x w7a ⟨rfl, hst, hk⟩
          have HVT0 := Lib.hid (HV7.out.rk hst hk)
          have HN7a := Lib.hid (HN7.out.rk hk hltw)
          clear hst hk
          go_wp2_with fail
          have HVT : Hid (VS r s W v v1 out (.error eT) w7a) := Lib.hid HVT0.out
          -- the value, of a failed reader
          refine (HVE.out _ _ _ _ _ HVT.out.st).mono ?_; rintro x w8 ⟨rfl, hst, hk⟩
          have HS8 := Lib.hid hst
          have HK8 := Lib.hid (HVT.out.vk.rk hk)
          clear hst hk
          go_wp2_with fail
          refine (HBL.out _ _ _ HS8.out).mono ?_; rintro x w9 ⟨rfl, hst, hk⟩
          have HS9 : Hid (StE r s v1 (.error eT) w9) := Lib.hid hst
          have HK9 := Lib.hid (HK8.out.rk hk)
          clear hst hk
          go_wp2_with fail
          go_roundg (gk - 1)
          case measure => omega
          case rel => exact ⟨n + 1, _, rfl, by go_num, Or.inl ⟨v1, eT, HS9, HK9, HS9.out.1, HZ⟩⟩
        · rw [hcn] at HAMN
          have hn1 : ¬ (nmE EE) = [] := hne
          have hn2' : (nmE EE).isEmpty = false := by cases h : nmE EE with | nil => exact absurd h hne | cons a b => rfl
          go_wp2_with fail
          refine (HAMN.out _ _ HN5.out).mono ?_; rintro x w5a ⟨rfl, rfl⟩
          have HVR : Hid (VS r s W v v1 out (.ok l3) w5) := HV5
          have HNR := HN5
          clear c35' hcn
          have HVP : Hid (VS r s W v v1 out (.ok l3) (World.alloc _ (.cells #[.string ⟨(nmE EE).toArray⟩] 9))) := Lib.hid (HVR.out.alloc _)
          have hszp := HVP.out.size
          go_wp2_with (at_builtin; refine wpList_pushS rfl _ _ rfl W.heap.size nv names rfl (HNR.out.alloc _) ⟨_, 0, none⟩ 1 ⟨(nmE EE).toArray⟩ rfl (new_cell0 _ _ _) ?c1 ?c2 ?_)
          case c1 => omega
          case c2 => exact hszp
          intro nv' w6 hown' hgrow
          have HN6 := Lib.hid hown'
          have HV6 : Hid (VS r s W v v1 out (.ok l3) w6) := Lib.hid (HVP.out.names (HNR.out.alloc _) hgrow hltw)
          clear hown' hgrow hszp
          go_wp2_with fail
          refine (HBL.out _ _ _ HV6.out.st).mono ?_; rintro x w7 ⟨rfl, hst, hk⟩
          have HV7 := Lib.hid (HV6.out.rk hst hk)
          have HN7 := Lib.hid (HN6.out.rk hk hltw)
          clear hst hk
          go_wp2_with fail
          refine (HTQ.out _ _ _ HV7.out.st).mono ?_; rintro x w7a ⟨rfl, hst, hk⟩
          have HVT0 := Lib.hid (HV7.out.rk hst hk)
          have HN7a := Lib.hid (HN7.out.rk hk hltw)
          clear hst hk
          go_wp2_with fail
          rcases hm with ⟨ht, hm⟩ | ⟨lT, ht, hm⟩
          · rw [hm] at HRT1
            have HZ : Hid (.error 40 = R) := Lib.hid HRT1.out
            obtain ⟨eT, heT⟩ : ∃ eT : Int, eT = 40 := ⟨_, rfl⟩
            have hE6 : tkE [58] (blE (.ok l3)) = .error eT := by rw [heT]; exact tkE_none ht
            rw [hE6] at HVT0
            rw [← heT] at HZ
            have HVT := HVT0
            clear hm ht hE6
            -- the value, of a failed reader
            refine (HVE.out _ _ _ _ _ HVT.out.st).mono ?_; rintro x w8 ⟨rfl, hst, hk⟩
            have HS8 := Lib.hid hst
            have HK8 := Lib.hid (HVT.out.vk.rk hk)
            clear hst hk
            go_wp2_with fail
            refine (HBL.out _ _ _ HS8.out).mono ?_; rintro x w9 ⟨rfl, hst, hk⟩
            have HS9 : Hid (StE r s v1 (.error eT) w9) := Lib.hid hst
            have HK9 := Lib.hid (HK8.out.rk hk)
            clear hst hk
            go_wp2_with fail
            go_roundg (gk - 1)
            case measure => omega
            case rel => exact ⟨n + 1, _, rfl, by go_num, Or.inl ⟨v1, eT, HS9, HK9, HS9.out.1, HZ⟩⟩
          · rw [hm] at HRT1
            have HRT : Hid (restR d true nm out g n (.ok (nmE EE, lT)) = R) := HRT1
            have hE6 : tkE [58] (blE (.ok l3)) = .ok lT := tkE_some ht
            rw [hE6] at HVT0
            have HVT := HVT0
            have hct := cut_tk _ _ _ (by decide) ht
            have hvT : validD lT = true := hct.1.2 ((cut_bl l3).2 hvl3)
            have hlT : lT.length < l1.length := by
              have h1 := (cut_bl l3).1
              have h2 := hct.2
              simp at h2
              omega
            clear hm ht hE6 hct
            -- the value
            refine (HVA.out _ _ _ _ _ hvT HVT.out.st HVT.out.own hout).mono ?_; rintro x w8 ⟨rfl, hve⟩
            have HN8pre := Lib.hid hve
            cases hvj : valJ d (nmE EE) lT out with
            | error eT =>
              rw [show ((⟨(nmE EE).toArray⟩ : ByteArray).data.toList) = (nmE EE) from rfl, hvj] at hve
              obtain ⟨he0, v8, hst8, hvk8⟩ := hve
              have HZ : Hid (.error eT = R) := Lib.hid (by have := HRT.out; simp only [restR, hvj] at this; exact this)
              have HS8 := Lib.hid hst8
              have HK8 : Hid (VK r v W w8) := Lib.hid (HVT.out.vk.trans hvk8 HVT.out.ob)
              clear hst8 hvk8 HN8pre hvj
              go_wp2_with fail
              refine (HBL.out _ _ _ HS8.out).mono ?_; rintro x w9 ⟨rfl, hst, hk⟩
              have HS9 : Hid (StE r s v8 (.error eT) w9) := Lib.hid hst
              have HK9 := Lib.hid (HK8.out.rk hk)
              clear hst hk
              go_wp2_with fail
              go_roundg (gk - 1)
              case measure => omega
              case rel => exact ⟨n + 1, _, rfl, by go_num, Or.inl ⟨v8, eT, HS9, HK9, HS9.out.1, HZ⟩⟩
            | ok y =>
              obtain ⟨l3', out2⟩ := y
              rw [show ((⟨(nmE EE).toArray⟩ : ByteArray).data.toList) = (nmE EE) from rfl, hvj] at hve
              obtain ⟨hl8, v8, hvs8⟩ := hve
              obtain ⟨k1, k2, new, hnew, _⟩ := cut_val d _ _ _ _ _ hvT hvj
              have hlo2 : L.length ≤ out2.length := by rw [hnew, List.length_append]; omega
              have HRN : Hid (itemsJ (valJ d) true g (n + 1) (nmE EE :: nm) (blJ l3') out2 = R) := Lib.hid (by have := HRT.out; simp only [restR, hvj] at this; exact this)
              have HV8 : Hid (VS r s W v v8 out2 (.ok l3') w8) := Lib.hid ⟨hvs8.st, hvs8.own, HVT.out.vk.trans hvs8.vk HVT.out.ob, fun k hk => by
                rcases hvs8.ob k hk with h | h
                · exact HVT.out.ob k h
                · exact Or.inr (Nat.le_trans HVT.out.size h)⟩
              have HN8 : Hid (OwnS W.heap.size nv' (names ++ [⟨(nmE EE).toArray⟩]) w8) := Lib.hid (HN7a.out.vk HVT.out.own hvs8.vk hltw)
              have hv3 : validD (blJ l3') = true := (cut_bl l3').2 (k1.2 hvT)
              have hbl := (cut_bl l3').1
              clear hvs8 HN8pre hvj k1
              go_wp2_with fail
              refine (HBL.out _ _ _ HV8.out.st).mono ?_; rintro x w9 ⟨rfl, hst, hk⟩
              have HV9 := Lib.hid (HV8.out.rk hst hk)
              have HN9 := Lib.hid (HN8.out.rk hk hltw)
              clear hst hk
              go_wp2_with fail
              go_roundg (gk - 1)
              case measure => omega
              case rel => exact ⟨n + 1, nv', rfl, by go_num, Or.inr ⟨v8, out2, blJ l3', g, names ++ [⟨(nmE EE).toArray⟩], nmE EE :: nm, by omega, by omega, by omega, by simp; omega, hl8, hlo2, Lib.hid (by rw [List.map_append, HNM.out, List.reverse_cons]; rfl), Lib.hid hv3, HV9, HN9, HRN⟩⟩
set_option maxRecDepth 100000 in
set_option maxHeartbeats 2000000 in
theorem rmany_list_0 (r : Nat) (s : ByteArray) (k : Nat) (op : Int) (v : Value) (L : List Cel) (l : List UInt8) (W : World) (hop : op + (0 : Int) = 16) (h0 : 0 ≤ op) (hs : s.size ≤ 20000) (hv : validD (91 :: l) = true) (h : StE r s v (.ok (91 :: l)) W) (hown : OwnC (r + 1) v L W) (hk : k < L.length) (hL : L.length ≤ 2048) :
    Calls Tryz.prog 50 #[.pointer (some ⟨r, 0, none⟩), .int .i64 (k : Int), .int .i64 op] W fun x w' => x = .returned (.tuple #[]) ∧ ValE r s v (.error 30) W w' := by
  have HH := Lib.hid h
  have HOW := Lib.hid hown
  have hlt := h.lt
  have hvl : validD l = true := by rw [valid_cons _ _ (by decide)] at hv; exact hv
  obtain ⟨a, hal, hda, hr⟩ := h
  have hal2 : a < s.size := by
    have := dl_len s a
    rw [hda] at this
    simp at this
    omega
  have hda2 : s.data.toList.drop (a + 1) = l := by
    rw [drop_at s a hal2] at hda
    injection hda
  have hca : s[a] = 91 := by
    rw [drop_at s a hal2] at hda
    injection hda
  obtain ⟨c0, c1, c2, c3⟩ := hr.cells
  have f1 := hr.frozen 1
  have HRR := Lib.hid hr
  have HLK : Hid (∀ v E W, StE r s v E W → Calls Tryz.prog 48 #[.pointer (some ⟨r, 0, none⟩)] W fun x w' => x = .returned (.int .u8 ((lkE E).toNat : Int)) ∧ Below W.heap.size W w') := Lib.hid fun v E W hW => e_look r s v E hs W hW
  have HBL : Hid (∀ v E W, StE r s v E W → Calls Tryz.prog 26 #[.pointer (some ⟨r, 0, none⟩)] W fun x w' => x = .returned (.tuple #[]) ∧ StE r s v (blE E) w' ∧ RK r W w') := Lib.hid fun v E W hW => e_blanks r s v E hs W hW
  have HFA : Hid (∀ (c : Int) v E W, c ≠ 0 → StE r s v E W → Calls Tryz.prog 27 #[.pointer (some ⟨r, 0, none⟩), .int .i64 c] W fun x w' => x = .returned (.tuple #[]) ∧ StE r s v (failE c E) w' ∧ RK r W w') := Lib.hid fun c v E W hc hW => e_fail r s v E c hc W hW
  have HTE : Hid (∀ v E W, StE r s v E W → Calls Tryz.prog 52 #[.pointer (some ⟨r, 0, none⟩), .string ⟨#[93]⟩] W fun x w' => x = .returned (.tuple #[]) ∧ StE r s v (tkE [93] E) w' ∧ RK r W w') := Lib.hid fun v E W hW => e_take r s v E ⟨#[93]⟩ hs (by decide) (by decide) (by decide) W hW
  have t0 : (op == 16) = true := beq_iff_eq.2 (by omega)
  clear hr h0 hop
  go_enter Tryz.func50, Tryz.ntmps50
  go_wp2_with fail
  refine (HLK.out _ _ _ HH.out).mono ?_; rintro x w1 ⟨rfl, hb⟩
  rw [show ((lkE (.ok (91 :: l))).toNat : Int) = 91 from rfl]
  have HR1 := Lib.hid (HRR.out.below hb)
  have HV1 : Hid (VS r s W v v L (.ok (91 :: l)) w1) := Lib.hid (VS.below ⟨HH.out, HOW.out, VK.refl _ _ _, fun k hk => Or.inl hk⟩ hb)
  clear hb c0 c1 c2 c3 f1
  obtain ⟨c0, c1, c2, c3⟩ := HR1.out.cells
  have f1 := HR1.out.frozen 1
  have HV2 : Hid (VS r s W v v L (.ok l) (w1.setCell ⟨r, 1, none⟩ (.int .i64 ((a + 1 : Nat) : Int)))) := Lib.hid (HV1.out.rk ⟨a + 1, hal2, hda2, HR1.out.at_ (a + 1)⟩ (RK.set r 1 _ _))
  go_wp2_with fail
  rw [show ((a : Int) + 1) = ((a + 1 : Nat) : Int) from by omega]
  generalize (w1.setCell ⟨r, 1, none⟩ (.int .i64 ((a + 1 : Nat) : Int))) = w2 at *
  refine (HFA.out 30 _ _ _ (by decide) HV2.out.st).mono ?_; rintro x w3 ⟨rfl, hst, hk⟩
  have HV3 := Lib.hid (HV2.out.rk hst hk)
  clear hst hk c0 c1 c2 c3 f1
  go_wp2_with fail
  refine (HBL.out _ _ _ HV3.out.st).mono ?_; rintro x wr ⟨rfl, hst, hk⟩
  have HV4 := Lib.hid (HV3.out.rk hst hk)
  have HSW : Hid (StE r s v (.error 30) wr) := Lib.hid HV4.out.st
  have HKW := Lib.hid HV4.out.vk
  clear hst hk
  go_wp2_with fail
  refine wp_loop_rounds 1 ?_; rw [rounds_succ]
  have c3 : wr.cell? ⟨r, 3, none⟩ = some (.int .i64 30) := HSW.out.c3.1
  have HC : (convert 59 9 (.slice (some ⟨wr.heap.size, 0, none⟩) 1 1)).run Tryz.prog (wr.alloc (.cells #[.int .u8 93] 5)) = .ok (.string ⟨#[93]⟩) (wr.alloc (.cells #[.int .u8 93] 5)) := run_convert_own (Own.fresh (k := 1) (l := [93]) (C := #[.int .u8 93]) rfl rfl (by decide) wr)
  have HSA := Lib.hid (HSW.out.below ((Below.refl wr.heap.size wr).alloc (Nat.le_refl _) (.cells #[.int .u8 93] 5)))
  have HKA := Lib.hid (HKW.out.rk (RK.of_below ((Below.refl wr.heap.size wr).alloc (Nat.le_refl _) (.cells #[.int .u8 93] 5)) HSW.out.lt))
  go_wp2_with fail
  refine (HTE.out _ _ _ HSA.out).mono ?_; rintro x w2 ⟨rfl, hst, hk⟩
  have HS2 := Lib.hid hst
  have HK2 := Lib.hid (HKA.out.rk hk)
  have c32 : w2.cell? ⟨r, 3, none⟩ = some (.int .i64 30) := HS2.out.c3.1
  clear hst hk c3 HC
  go_wp2_with fail
  first | go_end0 | refine bodyPost_ret (results_none rfl _ _ _) rfl ?_
  exact ⟨rfl, by decide, v, HS2.out, HK2.out⟩
set_option maxRecDepth 100000 in
set_option maxHeartbeats 8000000 in
theorem rmany_list (d : Nat) (hval : ValSpec d) (r : Nat) (s : ByteArray) (k : Nat) (op : Int) (v : Value) (L : List Cel) (l : List UInt8) (W : World) (hop : op + ((d + 1 : Nat) : Int) = 16) (h0 : 0 ≤ op) (hs : s.size ≤ 20000) (hv : validD (91 :: l) = true) (h : StE r s v (.ok (91 :: l)) W) (hown : OwnC (r + 1) v L W) (hk : k < L.length) (hL : L.length ≤ 2048) :
    Calls Tryz.prog 50 #[.pointer (some ⟨r, 0, none⟩), .int .i64 (k : Int), .int .i64 op] W fun x w' => x = .returned (.tuple #[]) ∧ ValE r s v (manyJ (d + 1) false k l L) W w' := by
  have HH := Lib.hid h
  have HOW := Lib.hid hown
  have hlt := h.lt
  have hvl : validD l = true := by rw [valid_cons _ _ (by decide)] at hv; exact hv
  obtain ⟨a, hal, hda, hr⟩ := h
  have hal2 : a < s.size := by
    have := dl_len s a
    rw [hda] at this
    simp at this
    omega
  have hda2 : s.data.toList.drop (a + 1) = l := by
    rw [drop_at s a hal2] at hda
    injection hda
  have hca : s[a] = 91 := by
    rw [drop_at s a hal2] at hda
    injection hda
  obtain ⟨c0, c1, c2, c3⟩ := hr.cells
  have f1 := hr.frozen 1
  have HRR := Lib.hid hr
  have HLK : Hid (∀ v E W, StE r s v E W → Calls Tryz.prog 48 #[.pointer (some ⟨r, 0, none⟩)] W fun x w' => x = .returned (.int .u8 ((lkE E).toNat : Int)) ∧ Below W.heap.size W w') := Lib.hid fun v E W hW => e_look r s v E hs W hW
  have HBL : Hid (∀ v E W, StE r s v E W → Calls Tryz.prog 26 #[.pointer (some ⟨r, 0, none⟩)] W fun x w' => x = .returned (.tuple #[]) ∧ StE r s v (blE E) w' ∧ RK r W w') := Lib.hid fun v E W hW => e_blanks r s v E hs W hW
  have HFA : Hid (∀ (c : Int) v E W, c ≠ 0 → StE r s v E W → Calls Tryz.prog 27 #[.pointer (some ⟨r, 0, none⟩), .int .i64 c] W fun x w' => x = .returned (.tuple #[]) ∧ StE r s v (failE c E) w' ∧ RK r W w') := Lib.hid fun c v E W hc hW => e_fail r s v E c hc W hW
  have HTE : Hid (∀ v E W, StE r s v E W → Calls Tryz.prog 52 #[.pointer (some ⟨r, 0, none⟩), .string ⟨#[93]⟩] W fun x w' => x = .returned (.tuple #[]) ∧ StE r s v (tkE [93] E) w' ∧ RK r W w') := Lib.hid fun v E W hW => e_take r s v E ⟨#[93]⟩ hs (by decide) (by decide) (by decide) W hW
  have HTC : Hid (∀ v E W, StE r s v E W → Calls Tryz.prog 52 #[.pointer (some ⟨r, 0, none⟩), .string ⟨#[44]⟩] W fun x w' => x = .returned (.tuple #[]) ∧ StE r s v (tkE [44] E) w' ∧ RK r W w') := Lib.hid fun v E W hW => e_take r s v E ⟨#[44]⟩ hs (by decide) (by decide) (by decide) W hW
  have HVE : Hid (∀ (name : ByteArray) (op : Int) v e W, StE r s v (.error e) W → Calls Tryz.prog 25 #[.pointer (some ⟨r, 0, none⟩), .string name, .int .i64 op] W fun x w' => x = .returned (.tuple #[]) ∧ StE r s v (.error e) w' ∧ RK r W w') := Lib.hid fun name op v e W hW => rvalue_err r s name op v e hs W hW
  have HVA : Hid (∀ (name : ByteArray) (v : Value) (L : List Cel) (l : List UInt8) (W : World), validD l = true → StE r s v (.ok l) W → OwnC (r + 1) v L W → L.length ≤ 2048 → Calls Tryz.prog 25 #[.pointer (some ⟨r, 0, none⟩), .string name, .int .i64 (op + 1)] W fun x w' => x = .returned (.tuple #[]) ∧ ValE r s v (valJ d name.data.toList l L) W w') := Lib.hid fun name v L l W h1 h2 h3 h4 => hval r s name (op + 1) v L l W (by omega) (by omega) hs h1 h2 h3 h4
  have t0 : (op == 16) = false := beq_eq_false_iff_ne.2 (by omega)
  have hop15 : op ≤ 15 := by omega
  have hlen : l.length ≤ 20000 := by
    have := dl_len s (a + 1)
    rw [hda2] at this
    omega
  obtain ⟨R, hR⟩ : ∃ R, itemsJ (valJ d) false (l.length + 1) 0 [] (blJ l) L = R := ⟨_, rfl⟩
  have HR0 := Lib.hid hR
  have hmj : manyJ (d + 1) false k l L = finJ k R := by
    show finJ k _ = _
    rw [hR]
  rw [hmj]
  have HVL := Lib.hid hvl
  clear hr hop hmj hR hval
  go_enter Tryz.func50, Tryz.ntmps50
  go_wp2_with fail
  refine (HLK.out _ _ _ HH.out).mono ?_; rintro x w1 ⟨rfl, hb⟩
  rw [show ((lkE (.ok (91 :: l))).toNat : Int) = 91 from rfl]
  have HR1 := Lib.hid (HRR.out.below hb)
  have HV1 : Hid (VS r s W v v L (.ok (91 :: l)) w1) := Lib.hid (VS.below ⟨HH.out, HOW.out, VK.refl _ _ _, fun k hk => Or.inl hk⟩ hb)
  clear hb c0 c1 c2 c3 f1
  obtain ⟨c0, c1, c2, c3⟩ := HR1.out.cells
  have f1 := HR1.out.frozen 1
  have HV2 : Hid (VS r s W v v L (.ok l) (w1.setCell ⟨r, 1, none⟩ (.int .i64 ((a + 1 : Nat) : Int)))) := Lib.hid (HV1.out.rk ⟨a + 1, hal2, hda2, HR1.out.at_ (a + 1)⟩ (RK.set r 1 _ _))
  go_wp2_with fail
  rw [show ((a : Int) + 1) = ((a + 1 : Nat) : Int) from by omega]
  generalize (w1.setCell ⟨r, 1, none⟩ (.int .i64 ((a + 1 : Nat) : Int))) = w2 at *
  refine (HBL.out _ _ _ HV2.out.st).mono ?_; rintro x w3 ⟨rfl, hst, hk3⟩
  have HV3 := Lib.hid (HV2.out.rk hst hk3)
  have hblen := (cut_bl l).1
  have hvb : validD (blJ l) = true := (cut_bl l).2 HVL.out
  clear hst hk3 c0 c1 c2 c3 f1
  go_wp2_with fail
  go_loopg [8, 9] (l.length + 2) (fun gk nl ni wr => ∃ (n : Nat) (nv : Value), nv = nl ∧ ni = .int .i64 (n : Int) ∧
    ((∃ (v1 : Value) (e : Int), Hid (StE r s v1 (.error e) wr) ∧ Hid (VK r v W wr) ∧ e ≠ 0 ∧ Hid (.error e = R)) ∨
     (∃ (v1 : Value) (out : List Cel) (l1 : List UInt8) (f : Nat) (names : List ByteArray) (nm : List (List UInt8)), gk = f + 1 ∧ l1.length < f ∧ n + l1.length ≤ 20000 ∧ names.length ≤ n ∧ out.length ≤ 2048 ∧ L.length ≤ out.length ∧ Hid (names.map (·.data.toList) = nm.reverse) ∧ Hid (validD l1 = true) ∧ Hid (VS r s W v v1 out (.ok l1) wr) ∧ Hid (OwnS W.heap.size nv names wr) ∧ Hid (itemsJ (valJ d) false f n nm l1 out = R))))
  case atStart => exact ⟨0, _, rfl, rfl, Or.inr ⟨v, L, blJ l, l.length + 1, [], [], rfl, by omega, by omega, by simp, hL, Nat.le_refl _, Lib.hid rfl, Lib.hid hvb, HV3, Lib.hid (OwnS.nil _ _), HR0⟩⟩
  case round =>
    rename World => wr
    obtain ⟨n, nv, rfl, rfl, hh⟩ := hrel
    rcases hh with ⟨v1, e, HSW, HKW, he0, HZ⟩ | ⟨v1, out, l1, f, names, nm, hgf, hlf, hnl, hnn, hout, hLo, HNM, HVA1, HVS, HNS, HRT0⟩
    · have te0 : (e == 0) = false := beq_eq_false_iff_ne.2 he0
      have c3 : wr.cell? ⟨r, 3, none⟩ = some (.int .i64 e) := HSW.out.c3.1
      have HC : (convert 59 9 (.slice (some ⟨wr.heap.size, 0, none⟩) 1 1)).run Tryz.prog (wr.alloc (.cells #[.int .u8 93] 5)) = .ok (.string ⟨#[93]⟩) (wr.alloc (.cells #[.int .u8 93] 5)) := run_convert_own (Own.fresh (k := 1) (l := [93]) (C := #[.int .u8 93]) rfl rfl (by decide) wr)
      have HSA := Lib.hid (HSW.out.below ((Below.refl wr.heap.size wr).alloc (Nat.le_refl _) (.cells #[.int .u8 93] 5)))
      have HKA := Lib.hid (HKW.out.rk (RK.of_below ((Below.refl wr.heap.size wr).alloc (Nat.le_refl _) (.cells #[.int .u8 93] 5)) HSW.out.lt))
      go_wp2_with fail
      refine (HTE.out _ _ _ HSA.out).mono ?_; rintro x w2 ⟨rfl, hst, hk⟩
      have HS2 := Lib.hid hst
      have HK2 := Lib.hid (HKA.out.rk hk)
      have c32 : w2.cell? ⟨r, 3, none⟩ = some (.int .i64 e) := HS2.out.c3.1
      clear hst hk c3 HC
      go_wp2_with fail
      first | go_end0 | refine bodyPost_ret (results_none rfl _ _ _) rfl ?_
      rw [← HZ.out]
      exact ⟨rfl, he0, v1, HS2.out, HK2.out⟩
    have c3 : wr.cell? ⟨r, 3, none⟩ = some (.int .i64 0) := HVS.out.st.c3.1
    have hltw : r < W.heap.size := hlt
    have hn2 : n ≤ 20000 := by omega
    by_cases hq : l1.headD 0 = 93
    · obtain ⟨t, hl1, htk⟩ := (head_tk 93 (by decide) l1).1 hq
      have HRZ : Hid (.ok (n, t, out) = R) := Lib.hid (by
        have := HRT0.out
        obtain ⟨f1, rfl⟩ : ∃ f1, f = f1 + 1 := ⟨f - 1, by omega⟩
        rw [itemsJ] at this
        simp only [if_true, Bool.false_eq_true, if_false] at this
        rw [htk] at this
        exact this)
      have HTK := Lib.hid (tkE_some htk)
      have t1 : ((l1.headD 0).toNat : Int) = 93 := by rw [hq]; rfl
      have HLA : Hid (∀ W, StE r s v1 (.ok l1) W → Calls Tryz.prog 48 #[.pointer (some ⟨r, 0, none⟩)] W fun x w' => x = .returned (.int .u8 93) ∧ Below W.heap.size W w') := Lib.hid fun W hW => by
        have := HLK.out v1 (.ok l1) W hW
        rw [show ((lkE (.ok l1)).toNat : Int) = 93 from t1] at this
        exact this
      clear hq t1 hl1 htk
      go_wp2_with fail
      refine (HLA.out _ HVS.out.st).mono ?_; rintro x w4 ⟨rfl, hb⟩
      have HV4 := Lib.hid (HVS.out.below hb)
      have HV5 := Lib.hid (HV4.out.alloc (.cells #[.int .u8 93] 5))
      have HC : (convert 59 9 (.slice (some ⟨w4.heap.size, 0, none⟩) 1 1)).run Tryz.prog (w4.alloc (.cells #[.int .u8 93] 5)) = .ok (.string ⟨#[93]⟩) (w4.alloc (.cells #[.int .u8 93] 5)) := run_convert_own (Own.fresh (k := 1) (l := [93]) (C := #[.int .u8 93]) rfl rfl (by decide) w4)
      clear hb c3
      go_wp2_with fail
      refine (HTE.out _ _ _ HV5.out.st).mono ?_; rintro x w6 ⟨rfl, hst, hk6⟩
      rw [HTK.out] at hst
      have HV6 := Lib.hid (HV5.out.rk hst hk6)
      clear hst hk6 HC
      have c3 : w6.cell? ⟨r, 3, none⟩ = some (.int .i64 0) := HV6.out.st.c3.1
      obtain ⟨c32, c2, f2⟩ := HV6.out.st.c3
      have hko : k < out.length := by omega
      obtain ⟨g, cap, hvg, hBg, hgl, hfz, ck0, ck2, ck3, ck4⟩ := HV6.out.own.form k hko
      subst hvg
      have hfk := hfz (k * 5 + 4)
      have HV7 : Hid (VS r s W v _ (manyAt k n out) (.ok t) (w6.setCell ⟨g, k * 5 + 4, none⟩ (.int .i64 (n : Int)))) := Lib.hid (HV6.out.set rfl (by omega) (manyAt_len k n out) (celFlat_set4 out k (n : Int)))
      have ho2 : (manyAt k n out).length ≤ 2048 := by rw [manyAt_len]; exact hout
      go_wp2_with fail
      first | go_end0 | refine bodyPost_ret (results_none rfl _ _ _) rfl ?_
      rw [← HRZ.out]
      exact ⟨rfl, ho2, _, HV7.out⟩
    · have htk := (head_tk 93 (by decide) l1).2 hq
      obtain ⟨g, rfl⟩ : ∃ g, f = g + 1 := ⟨f - 1, by omega⟩
      have HRT1 : Hid (restR d false nm out g n (listE (headE n l1)) = R) := Lib.hid (by rw [← items_list d g n nm l1 out htk]; exact HRT0.out)
      have t1 : (((l1.headD 0).toNat : Int) != 93) = true := bne_iff_ne.2 fun e => hq (UInt8.toNat_inj.1 (by show _ = 93; omega))
      have HLA : Hid (∀ W, StE r s v1 (.ok l1) W → Calls Tryz.prog 48 #[.pointer (some ⟨r, 0, none⟩)] W fun x w' => x = .returned (.int .u8 ((l1.headD 0).toNat : Int)) ∧ Below W.heap.size W w') := Lib.hid fun W hW => HLK.out v1 (.ok l1) W hW
      have HVH : Hid (VaE (headE n l1)) := Lib.hid (VaE.head HVA1.out)
      have HLH : Hid (∀ l2, headE n l1 = .ok l2 → l2.length ≤ l1.length) := Lib.hid (by
        intro l2 h2
        unfold headE at h2
        split at h2
        · injection h2 with h2; rw [h2]; exact Nat.le_refl _
        · cases hk : tkJ [44] l1 with
          | none => rw [tkE_none hk] at h2; cases h2
          | some t =>
            rw [tkE_some hk] at h2
            injection h2 with h2
            rw [← h2]
            have e1 := (cut_tk _ _ _ (by decide) hk).2
            have e2 := (cut_bl t).1
            omega)
      clear hq htk HRT0
      generalize ((l1.headD 0).toNat : Int) = ci at *
      by_cases hn0 : n = 0
      · have tn : decide ((0 : Int) < (n : Int)) = false := decide_eq_false (by omega)
        have hE : headE n l1 = .ok l1 := if_pos hn0
        rw [hE] at HRT1 HVH HLH
        clear hE
        go_wp2_with fail
        refine (HLA.out _ HVS.out.st).mono ?_; rintro x w4 ⟨rfl, hb⟩
        have HVQ : Hid (VS r s W v v1 out (.ok l1) w4) := Lib.hid (HVS.out.below hb)
        have HNQ := Lib.hid (HNS.out.below hb)
        clear hb c3
        generalize hEE : (Except.ok l1 : Ex) = EE at HRT1 HVH HLH HVQ
        clear hEE
        go_wp2_with fail
        cases EE with
        | error eT =>
          have HZ : Hid (.error eT = R) := Lib.hid HRT1.out
          have HVT := HVQ
          -- the value, of a failed reader
          refine (HVE.out _ _ _ _ _ HVT.out.st).mono ?_; rintro x w8 ⟨rfl, hst, hk⟩
          have HS8 := Lib.hid hst
          have HK8 := Lib.hid (HVT.out.vk.rk hk)
          clear hst hk
          go_wp2_with fail
          refine (HBL.out _ _ _ HS8.out).mono ?_; rintro x w9 ⟨rfl, hst, hk⟩
          have HS9 : Hid (StE r s v1 (.error eT) w9) := Lib.hid hst
          have HK9 := Lib.hid (HK8.out.rk hk)
          clear hst hk
          go_wp2_with fail
          go_roundg (gk - 1)
          case measure => omega
          case rel => exact ⟨n + 1, _, rfl, by go_num, Or.inl ⟨v1, eT, HS9, HK9, HS9.out.1, HZ⟩⟩
        | ok lT =>
          have HRT : Hid (restR d false nm out g n (.ok ([], lT)) = R) := HRT1
          have HVT := HVQ
          have hvT : validD lT = true := HVH.out
          have hlT : lT.length ≤ l1.length := HLH.out lT rfl
          -- the value
          refine (HVA.out _ _ _ _ _ hvT HVT.out.st HVT.out.own hout).mono ?_; rintro x w8 ⟨rfl, hve⟩
          have HN8pre := Lib.hid hve
          cases hvj : valJ d [] lT out with
          | error eT =>
            rw [show ((⟨#[]⟩ : ByteArray).data.toList) = [] from rfl, hvj] at hve
            obtain ⟨he0, v8, hst8, hvk8⟩ := hve
            have HZ : Hid (.error eT = R) := Lib.hid (by have := HRT.out; simp only [restR, hvj] at this; exact this)
            have HS8 := Lib.hid hst8
            have HK8 : Hid (VK r v W w8) := Lib.hid (HVT.out.vk.trans hvk8 HVT.out.ob)
            clear hst8 hvk8 HN8pre hvj
            go_wp2_with fail
            refine (HBL.out _ _ _ HS8.out).mono ?_; rintro x w9 ⟨rfl, hst, hk⟩
            have HS9 : Hid (StE r s v8 (.error eT) w9) := Lib.hid hst
            have HK9 := Lib.hid (HK8.out.rk hk)
            clear hst hk
            go_wp2_with fail
            go_roundg (gk - 1)
            case measure => omega
            case rel => exact ⟨n + 1, _, rfl, by go_num, Or.inl ⟨v8, eT, HS9, HK9, HS9.out.1, HZ⟩⟩
          | ok y =>
            obtain ⟨l3, out2⟩ := y
            rw [show ((⟨#[]⟩ : ByteArray).data.toList) = [] from rfl, hvj] at hve
            obtain ⟨hl8, v8, hvs8⟩ := hve
            obtain ⟨k1, k2, new, hnew, _⟩ := cut_val d _ _ _ _ _ hvT hvj
            have hlo2 : L.length ≤ out2.length := by rw [hnew, List.length_append]; omega
            have HRN : Hid (itemsJ (valJ d) false g (n + 1) nm (blJ l3) out2 = R) := Lib.hid (by have := HRT.out; simp only [restR, hvj] at this; exact this)
            have HV8 : Hid (VS r s W v v8 out2 (.ok l3) w8) := Lib.hid ⟨hvs8.st, hvs8.own, HVT.out.vk.trans hvs8.vk HVT.out.ob, fun k hk => by
              rcases hvs8.ob k hk with h | h
              · exact HVT.out.ob k h
              · exact Or.inr (Nat.le_trans HVT.out.size h)⟩
            have HN8 := Lib.hid (HNQ.out.vk HVT.out.own hvs8.vk hltw)
            have hv3 : validD (blJ l3) = true := (cut_bl l3).2 (k1.2 hvT)
            have hbl := (cut_bl l3).1
            clear hvs8 HN8pre hvj k1
            go_wp2_with fail
            refine (HBL.out _ _ _ HV8.out.st).mono ?_; rintro x w9 ⟨rfl, hst, hk⟩
            have HV9 := Lib.hid (HV8.out.rk hst hk)
            have HN9 := Lib.hid (HN8.out.rk hk hltw)
            clear hst hk
            go_wp2_with fail
            go_roundg (gk - 1)
            case measure => omega
            case rel => exact ⟨n + 1, nv, rfl, by go_num, Or.inr ⟨v8, out2, blJ l3, g, names, nm, by omega, by omega, by omega, by omega, hl8, hlo2, HNM, Lib.hid hv3, HV9, HN9, HRN⟩⟩
      · have tn : decide ((0 : Int) < (n : Int)) = true := decide_eq_true (by omega)
        have hE : headE n l1 = blE (tkE [44] (.ok l1)) := if_neg hn0
        rw [hE] at HRT1 HVH HLH
        clear hE
        go_wp2_with fail
        refine (HLA.out _ HVS.out.st).mono ?_; rintro x w4 ⟨rfl, hb⟩
        have HVQ0 := Lib.hid (HVS.out.below hb)
        have HNQ0 := Lib.hid (HNS.out.below hb)
        clear hb c3
        go_wp2_with fail
        refine (HTC.out _ _ _ HVQ0.out.st).mono ?_; rintro x w4a ⟨rfl, hst, hk⟩
        have HVQ1 := Lib.hid (HVQ0.out.rk hst hk)
        have HNQ1 := Lib.hid (HNQ0.out.rk hk hltw)
        clear hst hk
        go_wp2_with fail
        refine (HBL.out _ _ _ HVQ1.out.st).mono ?_; rintro x w4b ⟨rfl, hst, hk⟩
        have HVQ := Lib.hid (HVQ1.out.rk hst hk)
        have HNQ := Lib.hid (HNQ1.out.rk hk hltw)
        clear hst hk
        generalize hEE : blE (tkE [44] (.ok l1)) = EE at HRT1 HVH HLH HVQ
        clear hEE
        go_wp2_with fail
        cases EE with
        | error eT =>
          have HZ : Hid (.error eT = R) := Lib.hid HRT1.out
          have HVT := HVQ
          -- the value, of a failed reader
          refine (HVE.out _ _ _ _ _ HVT.out.st).mono ?_; rintro x w8 ⟨rfl, hst, hk⟩
          have HS8 := Lib.hid hst
          have HK8 := Lib.hid (HVT.out.vk.rk hk)
          clear hst hk
          go_wp2_with fail
          refine (HBL.out _ _ _ HS8.out).mono ?_; rintro x w9 ⟨rfl, hst, hk⟩
          have HS9 : Hid (StE r s v1 (.error eT) w9) := Lib.hid hst
          have HK9 := Lib.hid (HK8.out.rk hk)
          clear hst hk
          go_wp2_with fail
          go_roundg (gk - 1)
          case measure => omega
          case rel => exact ⟨n + 1, _, rfl, by go_num, Or.inl ⟨v1, eT, HS9, HK9, HS9.out.1, HZ⟩⟩
        | ok lT =>
          have HRT : Hid (restR d false nm out g n (.ok ([], lT)) = R) := HRT1
          have HVT := HVQ
          have hvT : validD lT = true := HVH.out
          have hlT : lT.length ≤ l1.length := HLH.out lT rfl
          -- the value
          refine (HVA.out _ _ _ _ _ hvT HVT.out.st HVT.out.own hout).mono ?_; rintro x w8 ⟨rfl, hve⟩
          have HN8pre := Lib.hid hve
          cases hvj : valJ d [] lT out with
          | error eT =>
            rw [show ((⟨#[]⟩ : ByteArray).data.toList) = [] from rfl, hvj] at hve
            obtain ⟨he0, v8, hst8, hvk8⟩ := hve
            have HZ : Hid (.error eT = R) := Lib.hid (by have := HRT.out; simp only [restR, hvj] at this; exact this)
            have HS8 := Lib.hid hst8
            have HK8 : Hid (VK r v W w8) := Lib.hid (HVT.out.vk.trans hvk8 HVT.out.ob)
            clear hst8 hvk8 HN8pre hvj
            go_wp2_with fail
            refine (HBL.out _ _ _ HS8.out).mono ?_; rintro x w9 ⟨rfl, hst, hk⟩
            have HS9 : Hid (StE r s v8 (.error eT) w9) := Lib.hid hst
            have HK9 := Lib.hid (HK8.out.rk hk)
            clear hst hk
            go_wp2_with fail
            go_roundg (gk - 1)
            case measure => omega
            case rel => exact ⟨n + 1, _, rfl, by go_num, Or.inl ⟨v8, eT, HS9, HK9, HS9.out.1, HZ⟩⟩
          | ok y =>
            obtain ⟨l3, out2⟩ := y
            rw [show ((⟨#[]⟩ : ByteArray).data.toList) = [] from rfl, hvj] at hve
            obtain ⟨hl8, v8, hvs8⟩ := hve
            obtain ⟨k1, k2, new, hnew, _⟩ := cut_val d _ _ _ _ _ hvT hvj
            have hlo2 : L.length ≤ out2.length := by rw [hnew, List.length_append]; omega
            have HRN : Hid (itemsJ (valJ d) false g (n + 1) nm (blJ l3) out2 = R) := Lib.hid (by have := HRT.out; simp only [restR, hvj] at this; exact this)
            have HV8 : Hid (VS r s W v v8 out2 (.ok l3) w8) := Lib.hid ⟨hvs8.st, hvs8.own, HVT.out.vk.trans hvs8.vk HVT.out.ob, fun k hk => by
              rcases hvs8.ob k hk with h | h
              · exact HVT.out.ob k h
              · exact Or.inr (Nat.le_trans HVT.out.size h)⟩
            have HN8 := Lib.hid (HNQ.out.vk HVT.out.own hvs8.vk hltw)
            have hv3 : validD (blJ l3) = true := (cut_bl l3).2 (k1.2 hvT)
            have hbl := (cut_bl l3).1
            clear hvs8 HN8pre hvj k1
            go_wp2_with fail
            refine (HBL.out _ _ _ HV8.out.st).mono ?_; rintro x w9 ⟨rfl, hst, hk⟩
            have HV9 := Lib.hid (HV8.out.rk hst hk)
            have HN9 := Lib.hid (HN8.out.rk hk hltw)
            clear hst hk
            go_wp2_with fail
            go_roundg (gk - 1)
            case measure => omega
            case rel => exact ⟨n + 1, nv, rfl, by go_num, Or.inr ⟨v8, out2, blJ l3, g, names, nm, by omega, by omega, by omega, by omega, hl8, hlo2, HNM, Lib.hid hv3, HV9, HN9, HRN⟩⟩
theorem rmany_any (d : Nat) (hval : ∀ e, d = e + 1 → ValSpec e) : ManySpec d := by
  intro r s k op v L c l W hop h0 hs hc hv h hown hk hL
  cases d with
  | zero =>
    rcases hc with rfl | rfl
    · exact rmany_obj_0 r s k op v L l W hop h0 hs hv h hown hk hL
    · exact rmany_list_0 r s k op v L l W hop h0 hs hv h hown hk hL
  | succ d =>
    rcases hc with rfl | rfl
    · exact rmany_obj d (hval d rfl) r s k op v L l W hop h0 hs hv h hown hk hL
    · exact rmany_list d (hval d rfl) r s k op v L l W hop h0 hs hv h hown hk hL
end Go.Proofs.YtglhanblbojkhaaGreatDoor
