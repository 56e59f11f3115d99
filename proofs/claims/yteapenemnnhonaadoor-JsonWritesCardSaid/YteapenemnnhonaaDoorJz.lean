/- The walk through the program's Write (json): the whole. -/
import Derived.Test.YteapenemnnhonaaDoorJx
set_option linter.unusedSimpArgs false
set_option linter.unusedVariables false
namespace Go.Proofs.YteapenemnnhonaaDoor
open Go.RowKit
/-- What Write answers. -/
def jsonE (V : List Cel) : Value := if plainB V then .tuple #[.string ⟨(textJ 16 V).toArray⟩, .int .i64 0] else .tuple #[.string ⟨#[]⟩, .int .i64 8]
theorem jsonE_no {V : List Cel} (h : plainB V = false) : Ending.returned (.tuple #[.string ⟨#[]⟩, .int .i64 8]) = Ending.returned (jsonE V) := by unfold jsonE; rw [h]; rfl
theorem jsonE_yes {V : List Cel} (h : plainB V = true) : Ending.returned (.tuple #[.string ⟨(textJ 16 V).toArray⟩, .int .i64 0]) = Ending.returned (jsonE V) := by unfold jsonE; rw [h]; rfl
theorem jsonE_form (V : List Cel) : ∃ (js : ByteArray) (je : Int), jsonE V = .tuple #[.string js, .int .i64 je] := by
  unfold jsonE
  cases plainB V
  · exact ⟨_, _, rfl⟩
  · exact ⟨_, _, rfl⟩
theorem ShortV.small {V : List Cel} (h : ShortV V) (hl : V.length ≤ 100000) : SmallV V := ⟨hl, fun c hc => by
  obtain ⟨h1, h2, h3, h4⟩ := h c hc
  exact ⟨by omega, by omega, h3, h4⟩⟩
theorem plain_parts {V : List Cel} (h : plainB V = true) : 0 < V.length ∧ V.length ≤ 2048 ∧ valN 16 V = some V.length ∧ V.any evC = false := by
  unfold plainB mayB at h
  rw [plain_any'] at h
  simp only [Bool.and_eq_true, decide_eq_true_eq, beq_iff_eq, Bool.not_eq_true'] at h
  exact ⟨h.1.1.1.1, h.1.1.1.2, h.1.2, h.2⟩
set_option maxRecDepth 100000 in
theorem jwrite_no (V : List Cel) (v : Value) (w : World) (hv : ∃ a n c, v = .slice a n c) (H : Hid (∀ W, Below w.heap.size w W → Calls Tryd.prog 9 #[v] W fun e w' => e = .returned (.bool false) ∧ Below W.heap.size W w')) :
    Calls Tryd.prog 6 #[v] w fun e w' => e = .returned (.tuple #[.string ⟨#[]⟩, .int .i64 8]) ∧ Below w.heap.size w w' := by
  obtain ⟨a, n, c, rfl⟩ := hv
  go_enter Tryd.func6, Tryd.ntmps6
  go_wp2_with fail
  refine (H.out _ ((Below.refl _ _).alloc (Nat.le_refl _) _)).mono ?_; rintro e w1 ⟨rfl, hb⟩
  have HW : Below w.heap.size w w1 := ((Below.refl _ _).alloc (Nat.le_refl _) _).trans (hb.mono (by simp))
  clear hb
  go_wp2_with fail
  go_ret2
  exact ⟨rfl, HW⟩
set_option maxRecDepth 100000 in
set_option maxHeartbeats 1000000 in
theorem jwrite_yes (V : List Cel) (b off cap : Nat) (w : World) (hrow : CelRow b off V w) (hpos : 0 < V.length) (hl : V.length ≤ 2048) (hs : ShortV V) (hE : EnvT w) (hval : valN 16 V = some V.length) (hev : V.any evC = false)
    (H : Hid (∀ W, Below w.heap.size w W → Calls Tryd.prog 9 #[.slice (some ⟨b, off, none⟩) V.length cap] W fun e w' => e = .returned (.bool true) ∧ Below W.heap.size W w')) (hroom : 20000 * (V.length + 1) ≤ 80000000) :
    Calls Tryd.prog 6 #[.slice (some ⟨b, off, none⟩) V.length cap] w fun e w' => e = .returned (.tuple #[.string ⟨(textJ 16 V).toArray⟩, .int .i64 0]) ∧ Below w.heap.size w w' := by
  have hbl := hrow.lt hpos
  have HROW := Lib.hid hrow
  have HS := Lib.hid hs
  have HEE := Lib.hid hE
  have HV := Lib.hid hval
  have HEV := Lib.hid hev
  have HRM := Lib.hid hroom
  have hmf : ∀ (fn : Fn) (first cp : Array Value) (w : World), (Instr.makeFunc fn first cp).run Tryd.prog w = .ok (.func fn first cp) w := fun _ _ _ _ => rfl
  obtain ⟨js, hjs⟩ : ∃ js : ByteArray, (⟨(textJ 16 V).toArray⟩ : ByteArray) = js := ⟨_, rfl⟩
  have HJS := Lib.hid hjs
  rw [hjs]
  clear hrow hs hE hval hev hroom hjs
  go_enter Tryd.func6, Tryd.ntmps6
  go_wp2_with fail
  refine (H.out _ ((Below.refl _ _).alloc (Nat.le_refl _) _)).mono ?_; rintro e w1 ⟨rfl, hb⟩
  have hb1 : Below w.heap.size w w1 := ((Below.refl _ _).alloc (Nat.le_refl _) _).trans (hb.mono (by simp))
  have hv1 : w1.heap[w.heap.size]? = some (.cells #[.slice (some ⟨b, off, none⟩) V.length cap] 22 (0, 0)) := (hb.block _ (by simp)).trans (heap_alloc_new w _)
  have hz1 : w.heap.size < w1.heap.size := heap_lt hv1
  have HB1 := Lib.hid hb1
  have HV1 := Lib.hid hv1
  clear hb hb1 hv1
  go_wp2_with fail
  obtain ⟨w2, hw2⟩ : ∃ w2, (w1.alloc (.cells #[.pointer none, .slice none 0 0] 37)).alloc (.cells #[.func (.func 10) #[] #[.pointer (some ⟨w.heap.size, 0, none⟩), .pointer (some ⟨w1.heap.size, 0, none⟩), .pointer (some ⟨w1.heap.size + 1, 0, none⟩)]] 38) = w2 := ⟨_, rfl⟩
  have hb2 : Below w1.heap.size w1 w2 := by rw [← hw2]; exact ((Below.refl _ _).alloc (Nat.le_refl _) _).alloc (by simp) _
  have hbj : BJ w V b off cap w.heap.size w1.heap.size (w1.heap.size + 1) [] w2 :=
    { hv := (hb2.block _ hz1).trans HV1.out
      hn := by rw [← hw2]; exact heap_new _ _ _ (by simp)
      hb := Or.inl ⟨by omega, .slice none 0 0, by rw [← hw2]; exact heap_old (heap_new _ _ _ rfl), World.ownsRow_nil _ _ _ _, by simp [Value.ownBlock]⟩
      bel := HB1.out.trans (hb2.mono HB1.out.size)
      lv := Nat.le_refl _
      lb := by omega
      ln := by omega
      nv := by omega
      nn := by omega }
  have HC : Hid (Calls Tryd.prog 10 #[.int .i64 0, .pointer (some ⟨w.heap.size, 0, none⟩), .pointer (some ⟨w1.heap.size, 0, none⟩), .pointer (some ⟨w1.heap.size + 1, 0, none⟩)] w2 fun e w' => JEnd w V b off cap w.heap.size w1.heap.size (w1.heap.size + 1) (textJ 16 V) (V.length : Int) w2 e w') := Lib.hid (by
    have := jwalk w V b off cap _ _ _ HROW.out hbl HS.out hl HEE.out HEV.out 16 w2 [] 0 V.length hpos (by rw [List.drop_zero]; exact HV.out) (by have := HRM.out; simp; omega) hbj
    rw [List.drop_zero, List.nil_append, Nat.zero_add] at this
    exact this)
  clear hb2 hbj hmf
  rw [hw2]
  clear hw2
  refine HC.out.mono ?_; rintro e w3 ⟨rfl, hB3, hJ3⟩
  have HD : Hid (Calls Tryd.prog 15 #[.pointer (some ⟨w1.heap.size, 0, none⟩)] w3 fun e w' => e = .returned (.string js) ∧ Below w.heap.size w3 w') := Lib.hid (by rw [← HJS.out]; exact wdone w.heap.size _ _ w3 hB3.hb hB3.bel.size)
  have HB3 := Lib.hid hB3.bel
  clear hB3 hJ3
  go_wp2_with fail
  refine HD.out.mono ?_; rintro e w4 ⟨rfl, hb4⟩
  have HB4 := Lib.hid (HB3.out.trans hb4)
  clear hb4
  go_wp2_with fail
  go_ret2
  exact ⟨rfl, HB4.out⟩
theorem jwrite_any (V : List Cel) (v : Value) (w : World) (hv : CelSl v V w) (hs : ShortV V) (hl : V.length ≤ 2000) (hE : EnvU w) (hT : EnvT w) :
    Calls Tryd.prog 6 #[v] w fun e w' => e = .returned (jsonE V) ∧ Below w.heap.size w w' := by
  have H : Hid (∀ W, Below w.heap.size w W → Calls Tryd.prog 9 #[v] W fun e w' => e = .returned (.bool (plainB V)) ∧ Below W.heap.size W w') := Lib.hid fun W hW => cplain_any V v W (hv.below hW) (hs.small (by omega)) (hE.below hW)
  cases hp : plainB V with
  | false =>
    rw [hp] at H
    refine (jwrite_no V v w ?_ H).mono fun e w' ⟨h1, h2⟩ => ⟨h1.trans (jsonE_no hp), h2⟩
    rcases hv with ⟨a, c, rfl, _⟩ | ⟨b, off, cap, rfl, _⟩
    · exact ⟨_, _, _, rfl⟩
    · exact ⟨_, _, _, rfl⟩
  | true =>
    rw [hp] at H
    obtain ⟨p1, p2, p3, p4⟩ := plain_parts hp
    rcases hv with ⟨a, c, rfl, rfl, _⟩ | ⟨b, off, cap, rfl, hrow, hpos⟩
    · simp at p1
    · exact (jwrite_yes V b off cap w hrow hpos p2 hs hT p3 p4 H (by omega)).mono fun e w' ⟨h1, h2⟩ => ⟨h1.trans (jsonE_yes hp), h2⟩
end Go.Proofs.YteapenemnnhonaaDoor
