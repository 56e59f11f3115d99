/- The program's JSON reader (json): what it holds; no, is, must, blanks. -/
import Derived.Test.YtglhanblbojkhaaGreatDoorNx
import Derived.Test.YtglhanblbojkhaaGreatDoorTc
import Derived.Test.YtglhanblbojkhaaGreatDoorShelf
import Derived.Shelf.Strings.SlTrimAscii
set_option linter.unusedSimpArgs false
set_option linter.unusedVariables false
namespace Go.Proofs.YtglhanblbojkhaaGreatDoor
open Go.RowKit Go.Lib
/-- The program's reader. -/
def RdP (p : Nat) (b : ByteArray) (v : Value) (op : Int) (W : World) : Prop := W.heap[p]? = some (.cells #[.string b, v, .int .i64 op] 48 (0, 0))
theorem RdP.cells {p : Nat} {b : ByteArray} {v : Value} {op : Int} {W : World} (h : RdP p b v op W) :
    W.cell? ⟨p, 0, none⟩ = some (.string b) ∧ W.cell? ⟨p, 1, none⟩ = some v ∧ W.cell? ⟨p, 2, none⟩ = some (.int .i64 op) := by
  unfold RdP at h
  refine ⟨?_, ?_, ?_⟩
  all_goals (rw [Lib.cell_of_heap h]; rfl)
theorem RdP.below {p : Nat} {b : ByteArray} {v : Value} {op : Int} {W W' : World} (h : RdP p b v op W) (hb : Below W.heap.size W W') : RdP p b v op W' := (hb.block p (heap_lt h)).trans h
theorem RdP.lt {p : Nat} {b : ByteArray} {v : Value} {op : Int} {W : World} (h : RdP p b v op W) : p < W.heap.size := heap_lt h
theorem RdP.frozen {p : Nat} {b : ByteArray} {v : Value} {op : Int} {W : World} (h : RdP p b v op W) (i : Nat) : W.frozen? ⟨p, i, none⟩ = false := Lib.frozen_of_heap h i
theorem RdP.str {p : Nat} {b : ByteArray} {v : Value} {op : Int} {W : World} (h : RdP p b v op W) (b' : ByteArray) : RdP p b' v op (W.setCell ⟨p, 0, none⟩ (.string b')) := pset h _ rfl
theorem RdP.out_ {p : Nat} {b : ByteArray} {v : Value} {op : Int} {W : World} (h : RdP p b v op W) (v' : Value) : RdP p b v' op (W.setCell ⟨p, 1, none⟩ v') := pset h _ rfl
theorem RdP.open_ {p : Nat} {b : ByteArray} {v : Value} {op : Int} {W : World} (h : RdP p b v op W) (a : Int) : RdP p b v a (W.setCell ⟨p, 2, none⟩ (.int .i64 a)) := pset h _ rfl
/-- It stands at what is left. -/
def PS (p : Nat) (l : List UInt8) (v : Value) (op : Int) (W : World) : Prop := ∃ b : ByteArray, b.data.toList = l ∧ RdP p b v op W
theorem PS.below {p : Nat} {l : List UInt8} {v : Value} {op : Int} {W W' : World} (h : PS p l v op W) (hb : Below W.heap.size W W') : PS p l v op W' := by
  obtain ⟨b, h1, h2⟩ := h; exact ⟨b, h1, h2.below hb⟩
theorem PS.lt {p : Nat} {l : List UInt8} {v : Value} {op : Int} {W : World} (h : PS p l v op W) : p < W.heap.size := by
  obtain ⟨b, h1, h2⟩ := h; exact h2.lt
theorem PS.same {p : Nat} {l : List UInt8} {v : Value} {op : Int} {W W' : World} (h : PS p l v op W) (hb : W'.heap[p]? = W.heap[p]?) : PS p l v op W' := by
  obtain ⟨b, h1, h2⟩ := h; exact ⟨b, h1, hb.trans h2⟩
/-- An error on its way out. -/
def stopL (e : Int) : List PanicEntry := [{ v := .iface 45 (.agg #[.int .i64 e]), recovered := false }]
/-- A result and what is left, or an error on its way out. -/
def PV (p : Nat) (v : Value) (op : Int) (o : Except Int (Value × List UInt8)) (W0 : World) (x : Ending) (W : World) : Prop := match o with
  | .error e => x = .panicked (stopL e) ∧ Below p W0 W
  | .ok (u, t) => x = .returned u ∧ PS p t v op W ∧ RK p W0 W
def noV (E : Ex) : Except Int (Value × List UInt8) := match E with
  | .error e => .error e
  | .ok t => .ok (.tuple #[], t)
theorem bsz (b : ByteArray) : b.data.toList.length = b.size := by rw [Array.length_toList]; rfl
set_option maxRecDepth 100000 in
theorem p_no (e : Int) (w : World) : Calls Tryz.prog 23 #[.int .i64 e] w fun x w' => x = .panicked (stopL e) ∧ w = w' := by
  go_enter Tryz.func23, Tryz.ntmps23
  go_wp2_with fail
  exact ⟨rfl, rfl, rfl⟩
theorem cut_any (b what : ByteArray) (w : World) :
    Calls Tryz.prog 83 #[.string b, .string what] w fun e w' => (∃ b' : ByteArray, e = .returned (.tuple #[.string b', .bool (tkJ what.data.toList b.data.toList).isSome]) ∧ b'.data.toList = (tkJ what.data.toList b.data.toList).getD b.data.toList) ∧ w = w' :=
  (Tryz.strings_CutPrefix b what w).mono fun e w' ⟨he, hw⟩ => by
    refine ⟨⟨⟨(Lib.trimPrefix b.data.toList what.data.toList).toArray⟩, ?_, ?_⟩, hw.symm⟩
    · rw [he]
      congr 5
      unfold tkJ Lib.hasPrefix
      split <;> rename_i hp <;> simp [hp]
    · show Lib.trimPrefix b.data.toList what.data.toList = _
      unfold Lib.trimPrefix Lib.hasPrefix tkJ
      split <;> rfl
set_option maxRecDepth 100000 in
theorem p_is (p : Nat) (l : List UInt8) (what : ByteArray) (v : Value) (op : Int) (w : World) (h : PS p l v op w) :
    Calls Tryz.prog 60 #[.pointer (some ⟨p, 0, none⟩), .string what] w fun x w' => x = .returned (.bool (tkJ what.data.toList l).isSome) ∧ PS p ((tkJ what.data.toList l).getD l) v op w' ∧ RK p w w' := by
  obtain ⟨b, rfl, hr⟩ := h
  have HC := Lib.hid (fun W => cut_any b what W)
  generalize (tkJ what.data.toList b.data.toList).isSome = bl at *
  generalize (tkJ what.data.toList b.data.toList).getD b.data.toList = t at *
  obtain ⟨c0, c1, c2⟩ := hr.cells
  have f0 := hr.frozen 0
  have HR := Lib.hid hr
  clear hr
  go_enter Tryz.func60, Tryz.ntmps60
  go_wp2_with fail
  refine (HC.out _).mono ?_; rintro x w1 ⟨⟨b', rfl, hb'⟩, rfl⟩
  have HB := Lib.hid hb'
  clear hb'
  go_wp2_with fail
  go_ret
  exact ⟨rfl, ⟨b', HB.out, HR.out.str b'⟩, RK.set p 0 _ _⟩
set_option maxRecDepth 100000 in
theorem p_must (p : Nat) (l : List UInt8) (what : ByteArray) (v : Value) (op : Int) (w : World) (h : PS p l v op w) :
    Calls Tryz.prog 44 #[.pointer (some ⟨p, 0, none⟩), .string what] w (PV p v op (noV (tkE what.data.toList (.ok l))) w) := by
  have HI := Lib.hid (p_is p l what v op w h)
  have HN := Lib.hid (fun W => p_no 40 W)
  clear h
  cases ht : tkJ what.data.toList l with
  | none =>
    rw [tkE_none ht]
    rw [ht] at HI
    clear ht
    go_enter Tryz.func44, Tryz.ntmps44
    go_wp2_with fail
    refine HI.out.mono ?_; rintro x w1 ⟨rfl, hr, hk⟩
    have HK := Lib.hid hk
    clear hr hk
    go_wp2_with fail
    refine (HN.out _).mono ?_; rintro x w2 ⟨rfl, rfl⟩
    go_wp2_with fail
    exact ⟨rfl, rfl, HK.out.1⟩
  | some t =>
    rw [tkE_some ht]
    rw [ht] at HI
    clear ht
    go_enter Tryz.func44, Tryz.ntmps44
    go_wp2_with fail
    refine HI.out.mono ?_; rintro x w1 ⟨rfl, hr, hk⟩
    have HR := Lib.hid hr
    have HK := Lib.hid hk
    clear hr hk
    go_wp2_with fail
    go_end0
    exact ⟨rfl, HR.out, HK.out⟩
theorem trim_left (b cs : ByteArray) (hcs : cs.size ≤ 100) (hascii : ∀ c ∈ cs.data.toList, c.toNat < 128) (w : World) :
    Calls Tryz.prog 46 #[.string b, .string cs] w fun e w' => (∃ b' : ByteArray, e = .returned (.string b') ∧ b'.data.toList = b.data.toList.dropWhile (cs.data.toList.contains ·)) ∧ Below w.heap.size w w' :=
  (Any.strings_TrimLeft_ascii Tryz.lays161 (fun w => by kernel_rfl) (by kernel_rfl) b cs w (by omega) (fun j x hx => hascii x (List.mem_of_getElem? hx))).mono fun e w' ⟨he, hw⟩ => ⟨⟨_, he, rfl⟩, hw⟩
theorem blank_set (l : List UInt8) : l.dropWhile (([32, 9, 13, 10] : List UInt8).contains ·) = blJ l := by
  unfold blJ
  congr 1
  funext c
  unfold blankJ
  simp only [List.contains, List.elem, Bool.or_assoc]
  cases c == 32 <;> cases c == 9 <;> cases c == 13 <;> cases c == 10 <;> rfl
theorem digit_set (l : List UInt8) : l.dropWhile (([48, 49, 50, 51, 52, 53, 54, 55, 56, 57] : List UInt8).contains ·) = l.dropWhile isDig := by
  congr 1
  funext c
  have := (by decide +kernel : ∀ i : Fin 256, ([48, 49, 50, 51, 52, 53, 54, 55, 56, 57] : List UInt8).contains (UInt8.ofNat i.val) = isDig (UInt8.ofNat i.val)) ⟨c.toNat, UInt8.toNat_lt c⟩
  simpa only [UInt8.ofNat_toNat] using this
set_option maxRecDepth 100000 in
theorem p_blanks (p : Nat) (l : List UInt8) (v : Value) (op : Int) (w : World) (h : PS p l v op w) :
    Calls Tryz.prog 22 #[.pointer (some ⟨p, 0, none⟩)] w fun x w' => x = .returned (.tuple #[]) ∧ PS p (blJ l) v op w' ∧ RK p w w' := by
  obtain ⟨b, rfl, hr⟩ := h
  have HC := Lib.hid (fun W => trim_left b ⟨#[32, 9, 13, 10]⟩ (by decide) (by decide) W)
  obtain ⟨c0, c1, c2⟩ := hr.cells
  have HR := Lib.hid hr
  have hlt := hr.lt
  clear hr
  go_enter Tryz.func22, Tryz.ntmps22
  go_wp2_with fail
  refine (HC.out _).mono ?_; rintro x w1 ⟨⟨b', rfl, hb'⟩, hb⟩
  have HB := Lib.hid hb'
  have HR1 := Lib.hid (HR.out.below hb)
  have HK1 := Lib.hid (RK.of_below hb hlt)
  clear hb' hb c0 c1 c2
  obtain ⟨c0, c1, c2⟩ := HR1.out.cells
  have f0 := HR1.out.frozen 0
  go_wp2_with fail
  go_end0
  refine ⟨rfl, ⟨b', ?_, HR1.out.str b'⟩, HK1.out.trans (RK.set p 0 _ _)⟩
  rw [HB.out, ← blank_set]
set_option maxRecDepth 100000 in
theorem p_digits (p : Nat) (l : List UInt8) (v : Value) (op : Int) (hl : l.length ≤ 100000) (w : World) (h : PS p l v op w) :
    Calls Tryz.prog 64 #[.pointer (some ⟨p, 0, none⟩)] w fun x w' => (∃ d : ByteArray, x = .returned (.string d) ∧ d.data.toList = l.takeWhile isDig) ∧ PS p (l.dropWhile isDig) v op w' ∧ RK p w w' := by
  obtain ⟨b, rfl, hr⟩ := h
  have HC := Lib.hid (fun W => trim_left b ⟨#[48, 49, 50, 51, 52, 53, 54, 55, 56, 57]⟩ (by decide) (by decide) W)
  obtain ⟨c0, c1, c2⟩ := hr.cells
  have HR := Lib.hid hr
  have hlt := hr.lt
  rw [bsz] at hl
  clear hr
  go_enter Tryz.func64, Tryz.ntmps64
  go_wp2_with fail
  refine (HC.out _).mono ?_; rintro x w1 ⟨⟨b', rfl, hb'⟩, hb⟩
  have hdd : b'.data.toList = b.data.toList.dropWhile isDig := by rw [hb', ← digit_set]
  have HB := Lib.hid hdd
  have hsz : b'.size ≤ b.size := by
    rw [← bsz, ← bsz, hdd]
    have := (cut_while isDig dig_ascii b.data.toList).1
    exact this
  have HR1 := Lib.hid (HR.out.below hb)
  have HK1 := Lib.hid (RK.of_below hb hlt)
  clear hb' hb c0 c1 c2 hdd
  obtain ⟨c0, c1, c2⟩ := HR1.out.cells
  have f0 := HR1.out.frozen 0
  obtain ⟨n, hn⟩ : ∃ n : Nat, b.size = n + b'.size := ⟨b.size - b'.size, by omega⟩
  have h1 : (b.size : Int) - (b'.size : Int) = (n : Int) := by omega
  have h2 : (0 : Int) ≤ (n : Int) := by omega
  have h3 : (n : Int).toNat = n := by omega
  have h4 : n ≤ b.size := by omega
  have HN : Hid (b.size = n + b'.size) := Lib.hid hn
  go_wp2_with fail
  go_quiet (fail)
  go_wp2_with fail
  go_ret
  refine ⟨⟨_, rfl, ?_⟩, ⟨b', HB.out, ?_⟩, ?_⟩
  · have h5 := ext_list b 0 n
    rw [Nat.zero_add, List.drop_zero, ByteArray.toList_eq] at h5
    rw [h5]
    have h6 := List.takeWhile_append_dropWhile (p := isDig) (l := b.data.toList)
    have h7 : (b.data.toList.takeWhile isDig).length = n := by
      have := congrArg List.length h6
      rw [List.length_append, ← HB.out, bsz, bsz, HN.out] at this
      omega
    conv => lhs; arg 2; rw [← h6]
    rw [← h7]
    exact List.take_left
  · exact (HR1.out.below (below_dN _ (Below.refl _ _))).str b'
  · exact (HK1.out.trans (RK.of_below (below_dN _ (Below.refl _ _)) HR1.out.lt)).trans (RK.set p 0 _ _)
end Go.Proofs.YtglhanblbojkhaaGreatDoor
