/- The reference's JSON reader (provostref04): its states, an error kept; begins, among. -/
import Derived.Test.YtglhanblbojkhaaGreatDoorNv
import Derived.Test.YtglhanblbojkhaaGreatDoorOw
set_option linter.unusedSimpArgs false
set_option linter.unusedVariables false
namespace Go.Proofs.YtglhanblbojkhaaGreatDoor
open Go.RowKit Go.Lib
abbrev Ex := Except Int (List UInt8)
def errOf (E : Ex) : Int := match E with | .error e => e | .ok _ => 0
/-- The reader stands at what is left; or it has failed. -/
def StE (r : Nat) (s : ByteArray) (v : Value) (E : Ex) (W : World) : Prop := match E with
  | .error e => e ≠ 0 ∧ ∃ a, a ≤ s.size ∧ RdR r s a v e W
  | .ok l => ∃ a, a ≤ s.size ∧ s.data.toList.drop a = l ∧ RdR r s a v 0 W
def tkE (what : List UInt8) (E : Ex) : Ex := match E with
  | .error e => .error e
  | .ok l => match tkJ what l with | none => .error 40 | some t => .ok t
def blE (E : Ex) : Ex := match E with | .error e => .error e | .ok l => .ok (blJ l)
def failE (c : Int) (E : Ex) : Ex := match E with | .error e => .error e | .ok _ => .error c
def txE (E : Ex) : Ex := match E with | .error e => .error e | .ok l => match strJ l with | none => .error 40 | some (_, t) => .ok t
def nmE (E : Ex) : List UInt8 := match E with | .error _ => [] | .ok l => match strJ l with | none => [] | some (n, _) => n
def lkE (E : Ex) : UInt8 := match E with | .error _ => 0 | .ok l => l.headD 0
theorem tkE_none {what l : List UInt8} (h : tkJ what l = none) : tkE what (.ok l) = .error 40 := by simp [tkE, h]
theorem tkE_some {what l t : List UInt8} (h : tkJ what l = some t) : tkE what (.ok l) = .ok t := by simp [tkE, h]
theorem txE_none {l : List UInt8} (h : strJ l = none) : txE (.ok l) = .error 40 := by simp [txE, h]
theorem txE_some {l n t : List UInt8} (h : strJ l = some (n, t)) : txE (.ok l) = .ok t := by simp [txE, h]
theorem nmE_none {l : List UInt8} (h : strJ l = none) : nmE (.ok l) = [] := by simp [nmE, h]
theorem nmE_some {l n t : List UInt8} (h : strJ l = some (n, t)) : nmE (.ok l) = n := by simp [nmE, h]
/-- What is left is a text. -/
def VaE (E : Ex) : Prop := match E with | .error _ => True | .ok l => validD l = true
theorem VaE.tk {what : List UInt8} {E : Ex} (h : VaE E) (hw : ∀ c ∈ what, c.toNat < 128) : VaE (tkE what E) := by
  cases E with
  | error e => trivial
  | ok l =>
    cases ht : tkJ what l with
    | none => rw [tkE_none ht]; trivial
    | some t => rw [tkE_some ht]; exact (cut_tk what l t hw ht).1.2 h
theorem VaE.bl {E : Ex} (h : VaE E) : VaE (blE E) := by
  cases E with
  | error e => trivial
  | ok l => exact (cut_bl l).2 h
theorem VaE.tx {E : Ex} (h : VaE E) : VaE (txE E) := by
  cases E with
  | error e => trivial
  | ok l =>
    cases ht : strJ l with
    | none => rw [txE_none ht]; trivial
    | some x => obtain ⟨n, t⟩ := x; rw [txE_some ht]; exact (cut_str l n t h ht).1.2 h
theorem StE.lt {r : Nat} {s : ByteArray} {v : Value} {E : Ex} {W : World} (h : StE r s v E W) : r < W.heap.size := by
  cases E with
  | error e => obtain ⟨_, a, _, h⟩ := h; exact h.lt
  | ok l => obtain ⟨a, _, _, h⟩ := h; exact h.lt
theorem StE.below {r : Nat} {s : ByteArray} {v : Value} {E : Ex} {W W' : World} (h : StE r s v E W) (hb : Below W.heap.size W W') : StE r s v E W' := by
  cases E with
  | error e => obtain ⟨h0, a, h1, h⟩ := h; exact ⟨h0, a, h1, h.below hb⟩
  | ok l => obtain ⟨a, h0, h1, h⟩ := h; exact ⟨a, h0, h1, h.below hb⟩
theorem StE.same {r : Nat} {s : ByteArray} {v : Value} {E : Ex} {W W' : World} (h : StE r s v E W) (hb : W'.heap[r]? = W.heap[r]?) : StE r s v E W' := by
  cases E with
  | error e => obtain ⟨h0, a, h1, h⟩ := h; exact ⟨h0, a, h1, hb.trans h⟩
  | ok l => obtain ⟨a, h0, h1, h⟩ := h; exact ⟨a, h0, h1, hb.trans h⟩
theorem StE.c3 {r : Nat} {s : ByteArray} {v : Value} {E : Ex} {W : World} (h : StE r s v E W) : W.cell? ⟨r, 3, none⟩ = some (.int .i64 (errOf E)) ∧ W.cell? ⟨r, 2, none⟩ = some v ∧ W.frozen? ⟨r, 2, none⟩ = false := by
  cases E with
  | error e => obtain ⟨h0, a, h1, h⟩ := h; exact ⟨h.cells.2.2.2, h.cells.2.2.1, h.frozen 2⟩
  | ok l => obtain ⟨a, h0, h1, h⟩ := h; exact ⟨h.cells.2.2.2, h.cells.2.2.1, h.frozen 2⟩
theorem e_look (r : Nat) (s : ByteArray) (v : Value) (E : Ex) (hs : s.size ≤ 20000) (w : World) (h : StE r s v E w) :
    Calls Tryz.prog 48 #[.pointer (some ⟨r, 0, none⟩)] w fun x w' => x = .returned (.int .u8 ((lkE E).toNat : Int)) ∧ Below w.heap.size w w' := by
  cases E with
  | error e =>
    obtain ⟨h0, a, h1, h⟩ := h
    exact rlook_err r s a v e h0 w h
  | ok l =>
    obtain ⟨a, h0, h1, h⟩ := h
    have := rlook_any r s a v 0 h0 (by omega) w h
    rw [h1] at this
    unfold lookJ at this
    rw [if_neg (by simp)] at this
    exact this
theorem e_take (r : Nat) (s : ByteArray) (v : Value) (E : Ex) (what : ByteArray) (hs : s.size ≤ 20000) (hw : what.size ≤ 10) (hp : 0 < what.size) (h0 : ∀ c ∈ what.data.toList, c ≠ 0) (w : World) (h : StE r s v E w) :
    Calls Tryz.prog 52 #[.pointer (some ⟨r, 0, none⟩), .string what] w fun x w' => x = .returned (.tuple #[]) ∧ StE r s v (tkE what.data.toList E) w' ∧ RK r w w' := by
  cases E with
  | error e =>
    obtain ⟨he, a, h1, h⟩ := h
    refine (rtake_err r s what a v e he h1 (by omega) hw hp (h0 _ (Array.getElem_mem_toList ..)) w h).mono ?_
    rintro x w' ⟨rfl, hr, hk⟩
    exact ⟨rfl, ⟨he, a, h1, hr⟩, hk⟩
  | ok l =>
    obtain ⟨a, h1, h2, h⟩ := h
    refine (rtake_go r s what a v h1 (by omega) hw h0 w h).mono ?_
    rintro x w' ⟨rfl, hr, hk⟩
    rw [h2] at hr
    refine ⟨rfl, ?_, hk⟩
    cases ht : tkJ what.data.toList l with
    | none =>
      rw [tkE_none ht]
      rw [ht] at hr
      obtain ⟨a', h1', hr'⟩ := hr
      exact ⟨by decide, a', h1', hr'⟩
    | some t =>
      rw [tkE_some ht]
      rw [ht] at hr
      exact hr
theorem e_blanks (r : Nat) (s : ByteArray) (v : Value) (E : Ex) (hs : s.size ≤ 20000) (w : World) (h : StE r s v E w) :
    Calls Tryz.prog 26 #[.pointer (some ⟨r, 0, none⟩)] w fun x w' => x = .returned (.tuple #[]) ∧ StE r s v (blE E) w' ∧ RK r w w' := by
  cases E with
  | error e =>
    obtain ⟨he, a, h1, h⟩ := h
    refine (rblanks_any r s a v e h1 (by omega) w h).mono ?_
    rintro x w' ⟨rfl, ⟨a', h1', _, hr⟩, hk⟩
    exact ⟨rfl, ⟨he, a', h1', hr⟩, hk⟩
  | ok l =>
    obtain ⟨a, h1, h2, h⟩ := h
    refine (rblanks_any r s a v 0 h1 (by omega) w h).mono ?_
    rintro x w' ⟨rfl, ⟨a', h1', h2', hr⟩, hk⟩
    refine ⟨rfl, ⟨a', h1', ?_, hr⟩, hk⟩
    rw [h2' rfl, h2]
theorem e_fail (r : Nat) (s : ByteArray) (v : Value) (E : Ex) (c : Int) (hc : c ≠ 0) (w : World) (h : StE r s v E w) :
    Calls Tryz.prog 27 #[.pointer (some ⟨r, 0, none⟩), .int .i64 c] w fun x w' => x = .returned (.tuple #[]) ∧ StE r s v (failE c E) w' ∧ RK r w w' := by
  cases E with
  | error e =>
    obtain ⟨he, a, h1, h⟩ := h
    refine (rfail_any r s a v e c w h).mono ?_
    rintro x w' ⟨rfl, hr, hk⟩
    rw [if_neg he] at hr
    exact ⟨rfl, ⟨he, a, h1, hr⟩, hk⟩
  | ok l =>
    obtain ⟨a, h1, h2, h⟩ := h
    refine (rfail_any r s a v 0 c w h).mono ?_
    rintro x w' ⟨rfl, hr, hk⟩
    rw [if_pos rfl] at hr
    exact ⟨rfl, ⟨hc, a, h1, hr⟩, hk⟩
theorem e_text (r : Nat) (s : ByteArray) (v : Value) (E : Ex) (hs : s.size ≤ 20000) (hv : VaE E) (w : World) (h : StE r s v E w) :
    Calls Tryz.prog 51 #[.pointer (some ⟨r, 0, none⟩)] w fun x w' => x = .returned (.string ⟨(nmE E).toArray⟩) ∧ StE r s v (txE E) w' ∧ RK r w w' := by
  cases E with
  | error e =>
    obtain ⟨he, a, h1, h⟩ := h
    refine (rtext_err r s a v e he h1 (by omega) w h).mono ?_
    rintro x w' ⟨rfl, hr, hk⟩
    exact ⟨rfl, ⟨he, a, h1, hr⟩, hk⟩
  | ok l =>
    obtain ⟨a, h1, h2, h⟩ := h
    refine (rtext_go r s a v h1 hs (by rw [h2]; exact hv) w h).mono ?_
    rintro x w' ⟨hr, hk⟩
    rw [h2] at hr
    cases ht : strJ l with
    | none =>
      rw [txE_none ht, nmE_none ht]
      rw [ht] at hr
      obtain ⟨rfl, a', h1', hr'⟩ := hr
      rw [if_pos rfl] at hr'
      exact ⟨rfl, ⟨by decide, a', h1', hr'⟩, hk⟩
    | some y =>
      obtain ⟨n, t⟩ := y
      rw [txE_some ht, nmE_some ht]
      rw [ht] at hr
      exact ⟨hr.1, hr.2, hk⟩
set_option maxRecDepth 100000 in
theorem rbegins_any (c : UInt8) (w : World) :
    Calls Tryz.prog 49 #[.int .u8 (c.toNat : Int)] w fun x w' => x = .returned (.bool (begJ c)) ∧ w = w' := by
  obtain ⟨b, hb⟩ : ∃ b, begJ c = b := ⟨_, rfl⟩
  rw [hb]
  by_cases e0 : c = UInt8.ofNat 123
  · subst e0
    have HF : Hid (true = b) := Lib.hid (by rw [← hb]; rfl)
    clear hb
    rw [show (((UInt8.ofNat 123).toNat : Nat) : Int) = 123 from rfl]
    go_enter Tryz.func49, Tryz.ntmps49
    go_wp2_with fail
    go_ret
    exact ⟨ret_b HF.out, rfl⟩
  have t0 : ((c.toNat : Int) == 123) = false := byte_ne (n := 123) (by decide) e0
  by_cases e1 : c = UInt8.ofNat 91
  · subst e1
    have HF : Hid (true = b) := Lib.hid (by rw [← hb]; rfl)
    clear hb
    rw [show (((UInt8.ofNat 91).toNat : Nat) : Int) = 91 from rfl]
    go_enter Tryz.func49, Tryz.ntmps49
    go_wp2_with fail
    go_ret
    exact ⟨ret_b HF.out, rfl⟩
  have t1 : ((c.toNat : Int) == 91) = false := byte_ne (n := 91) (by decide) e1
  by_cases e2 : c = UInt8.ofNat 34
  · subst e2
    have HF : Hid (true = b) := Lib.hid (by rw [← hb]; rfl)
    clear hb
    rw [show (((UInt8.ofNat 34).toNat : Nat) : Int) = 34 from rfl]
    go_enter Tryz.func49, Tryz.ntmps49
    go_wp2_with fail
    go_ret
    exact ⟨ret_b HF.out, rfl⟩
  have t2 : ((c.toNat : Int) == 34) = false := byte_ne (n := 34) (by decide) e2
  by_cases e3 : c = UInt8.ofNat 116
  · subst e3
    have HF : Hid (true = b) := Lib.hid (by rw [← hb]; rfl)
    clear hb
    rw [show (((UInt8.ofNat 116).toNat : Nat) : Int) = 116 from rfl]
    go_enter Tryz.func49, Tryz.ntmps49
    go_wp2_with fail
    go_ret
    exact ⟨ret_b HF.out, rfl⟩
  have t3 : ((c.toNat : Int) == 116) = false := byte_ne (n := 116) (by decide) e3
  by_cases e4 : c = UInt8.ofNat 102
  · subst e4
    have HF : Hid (true = b) := Lib.hid (by rw [← hb]; rfl)
    clear hb
    rw [show (((UInt8.ofNat 102).toNat : Nat) : Int) = 102 from rfl]
    go_enter Tryz.func49, Tryz.ntmps49
    go_wp2_with fail
    go_ret
    exact ⟨ret_b HF.out, rfl⟩
  have t4 : ((c.toNat : Int) == 102) = false := byte_ne (n := 102) (by decide) e4
  by_cases e5 : c = UInt8.ofNat 110
  · subst e5
    have HF : Hid (true = b) := Lib.hid (by rw [← hb]; rfl)
    clear hb
    rw [show (((UInt8.ofNat 110).toNat : Nat) : Int) = 110 from rfl]
    go_enter Tryz.func49, Tryz.ntmps49
    go_wp2_with fail
    go_ret
    exact ⟨ret_b HF.out, rfl⟩
  have t5 : ((c.toNat : Int) == 110) = false := byte_ne (n := 110) (by decide) e5
  by_cases e6 : c = UInt8.ofNat 45
  · subst e6
    have HF : Hid (true = b) := Lib.hid (by rw [← hb]; rfl)
    clear hb
    rw [show (((UInt8.ofNat 45).toNat : Nat) : Int) = 45 from rfl]
    go_enter Tryz.func49, Tryz.ntmps49
    go_wp2_with fail
    go_ret
    exact ⟨ret_b HF.out, rfl⟩
  have t6 : ((c.toNat : Int) == 45) = false := byte_ne (n := 45) (by decide) e6
  have hd : begJ c = isDig c := by
    unfold begJ
    rw [show (c == 123) = false from beq_eq_false_iff_ne.2 e0, show (c == 91) = false from beq_eq_false_iff_ne.2 e1, show (c == 34) = false from beq_eq_false_iff_ne.2 e2, show (c == 116) = false from beq_eq_false_iff_ne.2 e3, show (c == 102) = false from beq_eq_false_iff_ne.2 e4, show (c == 110) = false from beq_eq_false_iff_ne.2 e5, show (c == 45) = false from beq_eq_false_iff_ne.2 e6]
    rfl
  rw [hd] at hb
  clear hd
  by_cases h1 : 48 ≤ c.toNat
  · have u1 : decide ((48 : Int) ≤ (c.toNat : Int)) = true := decide_eq_true (by omega)
    by_cases h2 : c.toNat ≤ 57
    · have u2 : decide ((c.toNat : Int) ≤ 57) = true := decide_eq_true (by omega)
      have HF : Hid (true = b) := Lib.hid (by rw [← hb]; unfold isDig; rw [decide_eq_true ⟨h1, h2⟩])
      clear hb h1 h2 e0 e1 e2 e3 e4 e5 e6
      generalize (c.toNat : Int) = ci at *
      go_enter Tryz.func49, Tryz.ntmps49
      go_wp2_with fail
      go_ret
      exact ⟨ret_b HF.out, rfl⟩
    · have u2 : decide ((c.toNat : Int) ≤ 57) = false := decide_eq_false (by omega)
      have HF : Hid (false = b) := Lib.hid (by rw [← hb]; unfold isDig; rw [decide_eq_false (by omega)])
      clear hb h1 h2 e0 e1 e2 e3 e4 e5 e6
      generalize (c.toNat : Int) = ci at *
      go_enter Tryz.func49, Tryz.ntmps49
      go_wp2_with fail
      go_ret
      exact ⟨ret_b HF.out, rfl⟩
  · have u1 : decide ((48 : Int) ≤ (c.toNat : Int)) = false := decide_eq_false (by omega)
    have HF : Hid (false = b) := Lib.hid (by rw [← hb]; unfold isDig; rw [decide_eq_false (by omega)])
    clear hb h1 e0 e1 e2 e3 e4 e5 e6
    generalize (c.toNat : Int) = ci at *
    go_enter Tryz.func49, Tryz.ntmps49
    go_wp2_with fail
    go_ret
    exact ⟨ret_b HF.out, rfl⟩
/-- A slice that reads as texts. -/
def StrSl4 (v : Value) (l : List ByteArray) (W : World) : Prop := (∃ a cap, v = .slice a 0 cap ∧ l = []) ∨ ∃ b off cap, v = .slice (some ⟨b, off, none⟩) l.length cap ∧ ∀ (j : Nat) x, l[j]? = some x → W.cell? ⟨b, off + j, none⟩ = some (.string x)
theorem OwnS.sl4 {B : Nat} {v : Value} {l : List ByteArray} {w : World} (h : OwnS B v l w) : StrSl4 v l w := by
  rcases h.cells with ⟨h1, h2⟩ | ⟨g, cap, h1, h2, h3, h4⟩
  · exact Or.inl ⟨_, _, h1, h2⟩
  · exact Or.inr ⟨g, 0, cap, h1, h4⟩
def amongS4 (l : List ByteArray) (s : ByteArray) : Bool := l.any fun x => x.toList == s.toList
set_option maxRecDepth 100000 in
theorem ramong04_any (l : List ByteArray) (v : Value) (s : ByteArray) (w : World) (hl : l.length ≤ 1000000) (hv : StrSl4 v l w) :
    Calls Tryz.prog 72 #[v, .string s] w fun e w' => e = .returned (.bool (amongS4 l s)) ∧ w = w' := by
  rcases hv with ⟨a, cap, rfl, rfl⟩ | ⟨b, off, cap, rfl, hc⟩
  · go_enter Tryz.func72, Tryz.ntmps72
    go_wp2_with fail
    refine wp_loop_rounds 1 ?_; rw [rounds_succ]
    go_wp2_with fail
    go_ret
    exact ⟨rfl, rfl⟩
  · obtain ⟨r, hr⟩ : ∃ r, amongS4 l s = r := ⟨_, rfl⟩
    have HR : Hid (amongS4 (l.drop 0) s = r) := Lib.hid hr
    have HC := Lib.hid hc
    rw [hr]
    clear hr hc
    go_enter Tryz.func72, Tryz.ntmps72
    go_wp2_with fail
    go_loop [5] (fun i => ∃ k : Nat, k ≤ l.length ∧ i = .int .i64 k ∧ Hid (amongS4 (l.drop k) s = r)) (fun i => l.length - (intOf i).toNat)
    case atStart => exact ⟨0, Nat.zero_le _, rfl, HR⟩
    case round =>
      obtain ⟨k, hk, rfl, HS⟩ := hrel
      by_cases hlt : k < l.length
      · have c0 := HC.out k l[k] (List.getElem?_eq_getElem hlt)
        have hstep := HS.out
        rw [List.drop_eq_getElem_cons hlt] at hstep
        unfold amongS4 at hstep
        rw [List.any_cons] at hstep
        generalize l[k] = x at *
        cases hx : (x.toList == s.toList) with
        | true =>
          rw [hx, Bool.true_or] at hstep
          have HF := Lib.hid hstep
          clear hstep HS
          go_wp2_with fail
          go_ret
          exact ⟨ret_b HF.out, rfl⟩
        | false =>
          rw [hx, Bool.false_or] at hstep
          have HF : Hid (amongS4 (l.drop (k + 1)) s = r) := Lib.hid hstep
          clear hstep HS
          go_wp2_with fail
          go_round
          case rel => exact ⟨k + 1, by omega, by go_num, HF⟩
          case measure => simp [intOf]; omega
      · have HF : Hid (false = r) := Lib.hid (by rw [← HS.out, List.drop_of_length_le (by omega)]; rfl)
        clear HS
        go_wp2_with fail
        go_ret
        exact ⟨ret_b HF.out, rfl⟩
end Go.Proofs.YtglhanblbojkhaaGreatDoor
