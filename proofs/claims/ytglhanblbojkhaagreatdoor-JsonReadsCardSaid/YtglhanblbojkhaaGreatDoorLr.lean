/- The walk through the law JsonReads; the reference's Quote (provostref04). -/
import Derived.Test.YtglhanblbojkhaaGreatDoorQd
import Derived.Test.YtglhanblbojkhaaGreatDoorQf
import Derived.Test.YtglhanblbojkhaaGreatDoorQb
set_option linter.unusedSimpArgs false
set_option linter.unusedVariables false
namespace Go.Proofs.YtglhanblbojkhaaGreatDoor
open Go.RowKit
def rdErr (o : Except Int (List Cel)) : Int := match o with | .error e => e | .ok _ => 0
def rdOut (o : Except Int (List Cel)) : List Cel := match o with | .error _ => [] | .ok l => l
theorem CelSl.nil (W : World) : CelSl (.slice none 0 0) [] W := (OwnC.nil 0 W).sl
theorem PReadE.sl {B : Nat} {o : Except Int (List Cel)} {x : Ending} {W : World} (h : PReadE B o x W) : (rdOut o).length ≤ 2048 ∧ ∃ u, x = .returned (.tuple #[u, .int .i64 (rdErr o)]) ∧ CelSl u (rdOut o) W := by
  cases o with
  | error e => exact ⟨by simp [rdOut], _, h, CelSl.nil W⟩
  | ok out => obtain ⟨h1, u, h2, h3⟩ := h; exact ⟨h1, u, h2, h3.sl⟩
theorem ReadE.sl {B : Nat} {o : Except Int (List Cel)} {x : Ending} {W : World} (h : ReadE B o x W) : ∃ u, x = .returned (.tuple #[u, .int .i64 (rdErr o)]) ∧ CelSl u (rdOut o) W := by
  cases o with
  | error e => exact ⟨_, h.2, CelSl.nil W⟩
  | ok out => obtain ⟨h1, u, h2, h3⟩ := h; exact ⟨u, h2, h3.sl⟩
theorem pread_sl (s : ByteArray) (hs : s.size ≤ 17000) (w : World) (hE : EnvU w) (hE2 : Env w) :
    Calls Tryz.prog 8 #[.string s] w fun x w' => (∃ u, x = .returned (.tuple #[u, .int .i64 (rdErr (rdJ s.data.toList))]) ∧ CelSl u (rdOut (rdJ s.data.toList)) w') ∧ Below w.heap.size w w' :=
  (pread_any s hs w hE hE2).mono fun x w' ⟨h1, h2⟩ => ⟨h1.sl.2, h2⟩
/-- What is read has 2048 cells at most. -/
theorem items_small (val : List UInt8 → List UInt8 → List Cel → Except Int (List UInt8 × List Cel)) (hv : ∀ name l out t o2, out.length ≤ 2048 → val name l out = .ok (t, o2) → o2.length ≤ 2048) (isO : Bool) : ∀ (f n : Nat) (nm : List (List UInt8)) (l : List UInt8) (out : List Cel) (k : Nat) (t : List UInt8) (o2 : List Cel), out.length ≤ 2048 → itemsJ val isO f n nm l out = .ok (k, t, o2) → o2.length ≤ 2048
  | 0, n, nm, l, out, k, t, o2, ho, h => by rw [itemsJ] at h; cases h
  | f + 1, n, nm, l, out, k, t, o2, ho, h => by
    rw [itemsJ] at h
    cases ht : tkJ [if isO then 125 else 93] l with
    | some r =>
      rw [ht] at h
      injection h with h; injection h with h1 h2; injection h2 with h2 h3
      subst h3; exact ho
    | none =>
      rw [ht] at h
      simp only at h
      cases hc : (if n = 0 then some l else (tkJ [44] l).map blJ) with
      | none => rw [hc] at h; cases h
      | some l1 =>
        rw [hc] at h
        simp only at h
        cases hm : (if isO then memJ nm l1 else .ok ([], l1)) with
        | error e => rw [hm] at h; cases h
        | ok x =>
          obtain ⟨s, l2⟩ := x
          rw [hm] at h
          simp only at h
          cases hx : val s l2 out with
          | error e => rw [hx] at h; cases h
          | ok y =>
            obtain ⟨l3, out2⟩ := y
            rw [hx] at h
            simp only at h
            exact items_small val hv isO f _ _ _ out2 k t o2 (hv _ _ _ _ _ ho hx) h
theorem val_small_step (d : Nat) (ih : ∀ e, d = e + 1 → ∀ name l out t o2, out.length ≤ 2048 → valJ e name l out = .ok (t, o2) → o2.length ≤ 2048) (name l : List UInt8) (out : List Cel) (t : List UInt8) (o2 : List Cel) (ho : out.length ≤ 2048) (h : valJ d name l out = .ok (t, o2)) : o2.length ≤ 2048 := by
  unfold valJ at h
  cases hb : blJ l with
  | nil => rw [hb] at h; simp at h
  | cons c r =>
    rw [hb] at h
    simp only at h
    split at h
    · cases h
    · split at h
      · cases h
      · rename_i hf
        split at h
        · cases d with
          | zero => simp at h
          | succ d =>
            simp only at h
            cases hi : itemsJ (valJ d) (c == 123) (r.length + 1) 0 [] (blJ r) (out ++ [⟨if c = 123 then 7 else 6, name, [], 0, 0⟩]) with
            | error e => rw [hi] at h; cases h
            | ok y =>
              obtain ⟨n, u, o3⟩ := y
              rw [hi] at h
              injection h with h; injection h with h1 h2
              subst h2
              rw [manyAt_len]
              exact items_small _ (ih d rfl) _ _ _ _ _ _ _ _ _ (by simp; omega) hi
        · have : ∃ x : Cel, o2 = out ++ [x] := by
            unfold leafJ at h
            repeat' split at h
            all_goals first
              | (cases h; done)
              | (injection h with h; injection h with h1 h2; exact ⟨_, h2.symm⟩)
          obtain ⟨x, rfl⟩ := this
          simp; omega
theorem val_small : ∀ (d : Nat) (name l : List UInt8) (out : List Cel) (t : List UInt8) (o2 : List Cel), out.length ≤ 2048 → valJ d name l out = .ok (t, o2) → o2.length ≤ 2048
  | 0 => val_small_step 0 fun e h => by omega
  | d + 1 => val_small_step (d + 1) fun e h => by
    have : e = d := by omega
    subst this
    exact val_small e
theorem rdJ_small (l : List UInt8) : (rdOut (rdJ l)).length ≤ 2048 := by
  unfold rdJ
  split
  · unfold readJ
    cases hv : valJ 16 [] l [] with
    | error e => simp [rdOut]
    | ok y =>
      obtain ⟨t, out⟩ := y
      have := val_small 16 [] l [] t out (by simp) hv
      simp only
      split
      · exact this
      · simp [rdOut]
  · simp [rdOut]
set_option maxRecDepth 100000 in
theorem rjquote04_any (x : ByteArray) (hx : x.size ≤ 100000) (w : World) :
    Calls Tryz.prog 11 #[.string x] w fun e w' => e = .returned (if chkE x.data.toList = 0 then .tuple #[.string ⟨(quoteL x.data.toList).toArray⟩, .int .i64 0] else .tuple #[.string ⟨#[]⟩, .int .i64 (chkE x.data.toList)]) ∧ Below w.heap.size w w' := by
  have H1 := Lib.hid (rcheck01_any x (by omega) w)
  have H2 := Lib.hid (fun w => rquoted_any x hx w)
  have hc : chkE x.data.toList = 0 ∨ chkE x.data.toList = 4 ∨ chkE x.data.toList = 10 := by
    unfold chkE
    by_cases q : 16384 < x.data.toList.length
    · rw [if_pos q]; right; left; rfl
    · rw [if_neg q]
      cases Lib.validD x.data.toList
      · right; right; rfl
      · left; rfl
  generalize chkE x.data.toList = c at *
  generalize (⟨(quoteL x.data.toList).toArray⟩ : ByteArray) = q at *
  rcases hc with rfl | rfl | rfl
  · go_enter Tryz.func11, Tryz.ntmps11
    go_wp2_with fail
    refine H1.out.mono ?_; rintro e w1 ⟨rfl, hb⟩
    have HW := Lib.hid hb
    have hsz := hb.size
    clear hb
    go_wp2_with fail
    refine (H2.out _).mono ?_; rintro e w2 ⟨rfl, hb⟩
    have HW2 := Lib.hid (HW.out.trans (hb.mono hsz))
    clear hb
    go_wp2_with fail
    go_ret2
    exact ⟨rfl, HW2.out⟩
  all_goals
    go_enter Tryz.func11, Tryz.ntmps11
    go_wp2_with fail
    refine H1.out.mono ?_; rintro e w1 ⟨rfl, hb⟩
    have HW := Lib.hid hb
    clear hb
    go_wp2_with fail
    go_ret2
    exact ⟨rfl, HW.out⟩
theorem quote_form (l : List UInt8) : ∃ (q : ByteArray) (e : Int), (if chkE l = 0 then (.tuple #[.string ⟨(quoteL l).toArray⟩, .int .i64 0] : Value) else .tuple #[.string ⟨#[]⟩, .int .i64 (chkE l)]) = .tuple #[.string q, .int .i64 e] := by
  by_cases h : chkE l = 0
  · rw [if_pos h]; exact ⟨_, _, rfl⟩
  · rw [if_neg h]; exact ⟨_, _, rfl⟩
set_option maxRecDepth 100000 in
theorem jsonr_out (s : ByteArray) (h1 : (3000 < s.size ∧ s.size ≤ 16384) ∨ 17000 < s.size) (w : World) :
    Calls Tryz.prog 3 #[.string s] w fun e w' => e = .returned (.bool true) ∧ Below w.heap.size w w' := by
  rcases h1 with ⟨h1, h2⟩ | h1
  · have t1 : decide ((3000 : Int) < (s.size : Int)) = true := decide_eq_true (by omega)
    have t2 : decide ((s.size : Int) ≤ 16384) = true := decide_eq_true (by omega)
    clear h1 h2
    go_enter Tryz.func3, Tryz.ntmps3
    go_wp2_with fail
    go_ret
    exact ⟨rfl, Below.refl _ _⟩
  · have t1 : decide ((3000 : Int) < (s.size : Int)) = true := decide_eq_true (by omega)
    have t2 : decide ((s.size : Int) ≤ 16384) = false := decide_eq_false (by omega)
    have t3 : decide ((17000 : Int) < (s.size : Int)) = true := decide_eq_true (by omega)
    clear h1
    go_enter Tryz.func3, Tryz.ntmps3
    go_wp2_with fail
    go_ret
    exact ⟨rfl, Below.refl _ _⟩
set_option maxRecDepth 100000 in
set_option maxHeartbeats 1000000 in
theorem jsonr_in (s : ByteArray) (h1 : s.size ≤ 3000 ∨ (16384 < s.size ∧ s.size ≤ 17000)) (w : World) (hU : EnvU w) (hE : Env w) :
    Calls Tryz.prog 3 #[.string s] w fun e w' => e = .returned (.bool true) ∧ Below w.heap.size w w' := by
  have hs : s.size ≤ 17000 := by omega
  have hlen := rdJ_small s.data.toList
  have HRD : Hid (∀ (x : ByteArray) (W : World), x.size ≤ maxLen → Calls Tryz.prog 77 #[.string x] W fun e w' => e = .returned (.tuple #[.int .i64 (rdV x.data.toList), .int .i64 (rdE x.data.toList)]) ∧ W = w') := Lib.hid fun x W hx => rread_any x W hx
  have HP : Hid (Calls Tryz.prog 8 #[.string s] w fun x w' => (∃ u, x = .returned (.tuple #[u, .int .i64 (rdErr (rdJ s.data.toList))]) ∧ CelSl u (rdOut (rdJ s.data.toList)) w') ∧ Below w.heap.size w w') := Lib.hid (pread_sl s hs w hU hE)
  have HQ : Hid (∀ W, Calls Tryz.prog 9 #[.string s] W fun x w' => (∃ u, x = .returned (.tuple #[u, .int .i64 (rdErr (rdJ s.data.toList))]) ∧ CelSl u (rdOut (rdJ s.data.toList)) w') ∧ Below W.heap.size W w') := Lib.hid fun W => (rread04_any s hs HRD W).mono fun x w' ⟨h1, h2⟩ => ⟨h1.sl, h2⟩
  obtain ⟨q, qe, hq⟩ := quote_form s.data.toList
  have HA : Hid (∀ W, Below w.heap.size w W → Calls Tryz.prog 10 #[.string s] W fun x w' => x = .returned (.tuple #[.string q, .int .i64 qe]) ∧ Below W.heap.size W w') := Lib.hid fun W hW => by
    have := jquote_any s (by omega) W (hU.below hW)
    rw [hq] at this; exact this
  have HB : Hid (∀ W, Calls Tryz.prog 11 #[.string s] W fun x w' => x = .returned (.tuple #[.string q, .int .i64 qe]) ∧ Below W.heap.size W w') := Lib.hid fun W => by
    have := rjquote04_any s (by omega) W
    rw [hq] at this; exact this
  have HS : Hid (∀ u v W, CelSl u (rdOut (rdJ s.data.toList)) W → CelSl v (rdOut (rdJ s.data.toList)) W → Calls Tryz.prog 12 #[u, v] W fun e w' => e = .returned (.bool true) ∧ Below W.heap.size W w') := Lib.hid fun u v W h1 h2 => by
    have := rsame03_any _ _ u v (by omega) (by omega) W h1 h2
    rw [(sameV_iff _ _).2 rfl] at this
    exact this
  obtain ⟨E, hEE⟩ : ∃ E, rdErr (rdJ s.data.toList) = E := ⟨_, rfl⟩
  rw [hEE] at HP HQ
  generalize rdOut (rdJ s.data.toList) = L at *
  clear hlen hEE hq HRD hU hE
  rcases h1 with h1 | ⟨h1, h2⟩
  · have t1 : decide ((3000 : Int) < (s.size : Int)) = false := decide_eq_false (by omega)
    have t3 : decide ((17000 : Int) < (s.size : Int)) = false := decide_eq_false (by omega)
    clear h1
    go_enter Tryz.func3, Tryz.ntmps3
    go_wp2_with fail
    refine HP.out.mono ?_; rintro e w1 ⟨⟨u, rfl, hsl⟩, hb⟩
    have HSL1 := Lib.hid hsl
    have HB1 := Lib.hid hb
    clear hsl hb
    go_wp2_with fail
    refine (HQ.out _).mono ?_; rintro e w2 ⟨⟨v, rfl, hsl⟩, hb⟩
    have HSV2 := Lib.hid hsl
    have HSL2 := Lib.hid (HSL1.out.below hb)
    have HB2 := Lib.hid (HB1.out.trans (hb.mono HB1.out.size))
    clear hsl hb
    go_wp2_with fail
    refine (HA.out _ HB2.out).mono ?_; rintro e w3 ⟨rfl, hb⟩
    have HSV3 := Lib.hid (HSV2.out.below hb)
    have HSL3 := Lib.hid (HSL2.out.below hb)
    have HB3 := Lib.hid (HB2.out.trans (hb.mono HB2.out.size))
    clear hb
    go_wp2_with fail
    refine (HB.out _).mono ?_; rintro e w4 ⟨rfl, hb⟩
    have HSV4 := Lib.hid (HSV3.out.below hb)
    have HSL4 := Lib.hid (HSL3.out.below hb)
    have HB4 := Lib.hid (HB3.out.trans (hb.mono HB3.out.size))
    clear hb
    go_wp2_with fail
    refine (HS.out u v _ HSL4.out HSV4.out).mono ?_; rintro e w5 ⟨rfl, hb⟩
    have HB5 := Lib.hid (HB4.out.trans (hb.mono HB4.out.size))
    clear hb
    go_wp2_with fail
    go_ret
    exact ⟨rfl, HB5.out⟩
  · have t1 : decide ((3000 : Int) < (s.size : Int)) = true := decide_eq_true (by omega)
    have t2 : decide ((s.size : Int) ≤ 16384) = false := decide_eq_false (by omega)
    have t3 : decide ((17000 : Int) < (s.size : Int)) = false := decide_eq_false (by omega)
    clear h1 h2
    go_enter Tryz.func3, Tryz.ntmps3
    go_wp2_with fail
    refine HP.out.mono ?_; rintro e w1 ⟨⟨u, rfl, hsl⟩, hb⟩
    have HSL1 := Lib.hid hsl
    have HB1 := Lib.hid hb
    clear hsl hb
    go_wp2_with fail
    refine (HQ.out _).mono ?_; rintro e w2 ⟨⟨v, rfl, hsl⟩, hb⟩
    have HSV2 := Lib.hid hsl
    have HSL2 := Lib.hid (HSL1.out.below hb)
    have HB2 := Lib.hid (HB1.out.trans (hb.mono HB1.out.size))
    clear hsl hb
    go_wp2_with fail
    refine (HA.out _ HB2.out).mono ?_; rintro e w3 ⟨rfl, hb⟩
    have HSV3 := Lib.hid (HSV2.out.below hb)
    have HSL3 := Lib.hid (HSL2.out.below hb)
    have HB3 := Lib.hid (HB2.out.trans (hb.mono HB2.out.size))
    clear hb
    go_wp2_with fail
    refine (HB.out _).mono ?_; rintro e w4 ⟨rfl, hb⟩
    have HSV4 := Lib.hid (HSV3.out.below hb)
    have HSL4 := Lib.hid (HSL3.out.below hb)
    have HB4 := Lib.hid (HB3.out.trans (hb.mono HB3.out.size))
    clear hb
    go_wp2_with fail
    refine (HS.out u v _ HSL4.out HSV4.out).mono ?_; rintro e w5 ⟨rfl, hb⟩
    have HB5 := Lib.hid (HB4.out.trans (hb.mono HB4.out.size))
    clear hb
    go_wp2_with fail
    go_ret
    exact ⟨rfl, HB5.out⟩
theorem jsonr_walk (s : ByteArray) (w : World) (he : EnvU w ∧ Env w) :
    Calls Tryz.prog 3 #[.string s] w fun e w' => e = .returned (.bool true) ∧ Below w.heap.size w w' := by
  by_cases h1 : (3000 < s.size ∧ s.size ≤ 16384) ∨ 17000 < s.size
  · exact jsonr_out s h1 w
  · exact jsonr_in s (by omega) w he.1 he.2
end Go.Proofs.YtglhanblbojkhaaGreatDoor
