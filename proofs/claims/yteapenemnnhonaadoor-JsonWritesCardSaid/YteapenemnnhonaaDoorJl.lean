/- The walk through the law JsonWrites. -/
import Derived.Test.YteapenemnnhonaaDoorJn
import Derived.Test.YteapenemnnhonaaDoorJo
set_option linter.unusedSimpArgs false
set_option linter.unusedVariables false
namespace Go.Proofs.YteapenemnnhonaaDoor
open Go.RowKit
set_option maxRecDepth 100000 in
theorem jsonw_great (u : Value) (w : World) (HG : Hid (Calls Tryd.prog 4 #[u, .int .i64 200] w fun e w' => e = .returned (.bool true) ∧ w = w')) :
    Calls Tryd.prog 3 #[u] w fun e w' => e = .returned (.bool true) ∧ Below w.heap.size w w' := by
  go_enter Tryd.func3, Tryd.ntmps3
  go_wp2_with fail
  refine HG.out.mono ?_; rintro e w1 ⟨rfl, rfl⟩
  go_wp2_with fail
  go_ret
  exact ⟨rfl, Below.refl _ _⟩
set_option maxRecDepth 100000 in
set_option maxHeartbeats 1000000 in
theorem jsonw_small (V : List Cel) (u : Value) (w : World) (hv : CelSl u V w) (hs : ShortV V) (hl : V.length ≤ 200) (hU : EnvU w) (hT : EnvT w)
    (HG : Hid (Calls Tryd.prog 4 #[u, .int .i64 200] w fun e w' => e = .returned (.bool false) ∧ w = w')) :
    Calls Tryd.prog 3 #[u] w fun e w' => e = .returned (.bool true) ∧ Below w.heap.size w w' := by
  obtain ⟨js, je, hje⟩ := jsonE_form V
  have HTW : Hid (∀ W, Below w.heap.size w W → Calls Tryd.prog 5 #[u] W fun e w' => ∃ v, e = .returned v ∧ CelSl v V w' ∧ Below W.heap.size W w') := Lib.hid fun W hW => rtwin03_any V u W (hv.below hW) (by omega)
  have HJ : Hid (∀ v W, Below w.heap.size w W → CelSl v V W → Calls Tryd.prog 6 #[v] W fun e w' => e = .returned (.tuple #[.string js, .int .i64 je]) ∧ Below W.heap.size W w') := Lib.hid fun v W hW hv => by
    rw [← hje]; exact jwrite_any V v W hv hs (by omega) (hU.below hW) (hT.stays hW)
  have HK : Hid (∀ W, Below w.heap.size w W → Calls Tryd.prog 7 #[u] W fun e w' => e = .returned (.tuple #[.string js, .int .i64 je]) ∧ Below W.heap.size W w') := Lib.hid fun W hW => by
    rw [← hje]; exact rjwrite_any V u W (hv.below hW) hs (by omega)
  have HS : Hid (∀ v W, Below w.heap.size w W → CelSl v V W → Calls Tryd.prog 8 #[v, u] W fun e w' => e = .returned (.bool true) ∧ Below W.heap.size W w') := Lib.hid fun v W hW hvv => by
    have := rsame03_any V V v u (by omega) (by omega) W hvv (hv.below hW)
    rw [(sameV_iff V V).2 rfl] at this
    exact this
  clear hje hv hs hU hT
  go_enter Tryd.func3, Tryd.ntmps3
  go_wp2_with fail
  refine HG.out.mono ?_; rintro e w1 ⟨rfl, rfl⟩
  go_wp2_with fail
  refine (HTW.out _ (Below.refl _ _)).mono ?_; rintro e w1 ⟨v, rfl, hsl, hb1⟩
  have HSL := Lib.hid hsl
  have HB1 := Lib.hid hb1
  clear hsl hb1
  go_wp2_with fail
  refine (HJ.out _ _ HB1.out HSL.out).mono ?_; rintro e w2 ⟨rfl, hb2⟩
  have HB2 : Hid (Below w.heap.size w w2) := Lib.hid (HB1.out.trans (hb2.mono HB1.out.size))
  have HSL2 := Lib.hid (HSL.out.below hb2)
  clear hb2
  go_wp2_with fail
  refine (HK.out _ HB2.out).mono ?_; rintro e w3 ⟨rfl, hb3⟩
  have HB3 : Hid (Below w.heap.size w w3) := Lib.hid (HB2.out.trans (hb3.mono HB2.out.size))
  have HSL3 := Lib.hid (HSL2.out.below hb3)
  clear hb3
  go_wp2_with fail
  refine (HS.out _ _ HB3.out HSL3.out).mono ?_; rintro e w4 ⟨rfl, hb4⟩
  have HB4 : Hid (Below w.heap.size w w4) := Lib.hid (HB3.out.trans (hb4.mono HB3.out.size))
  clear hb4
  go_wp2_with fail
  go_ret
  exact ⟨rfl, HB4.out⟩
theorem short_of_great (V : List Cel) (h : greatV V 200 = false) (hn : ∀ c ∈ V, R c.num ∧ R c.many) : V.length ≤ 200 ∧ ShortV V := by
  unfold greatV at h
  rw [Bool.or_eq_false_iff] at h
  have hl : V.length ≤ 200 := by have := of_decide_eq_false h.2; omega
  refine ⟨hl, fun c hc => ?_⟩
  have h1 := h.1
  rw [List.take_of_length_le hl] at h1
  have := List.any_eq_false.1 h1 c hc
  simp only [Bool.or_eq_true, decide_eq_true_eq, not_or] at this
  obtain ⟨r1, r2⟩ := hn c hc
  exact ⟨by omega, by omega, r1, r2⟩
theorem jsonw_walk (V : List Cel) (u : Value) (hl : V.length ≤ maxLen) (hz : ∀ c ∈ V, c.name.length ≤ maxLen ∧ c.text.length ≤ maxLen ∧ R c.num ∧ R c.many) (w : World) (h1 : CelSl u V w) (hE : EnvU w ∧ EnvT w) :
    Calls Tryd.prog 3 #[u] w fun e w' => e = .returned (.bool true) ∧ Below w.heap.size w w' := by
  have HG := Lib.hid (rgreat03_any V u 200 hl (by decide) w h1 (fun c hc => ⟨(hz c hc).1, (hz c hc).2.1⟩))
  cases hg : greatV V 200 with
  | true => rw [hg] at HG; exact jsonw_great u w HG
  | false =>
    rw [hg] at HG
    obtain ⟨s1, s2⟩ := short_of_great V hg (fun c hc => (hz c hc).2.2)
    exact jsonw_small V u w h1 s2 s1 hE.1 hE.2 HG
end Go.Proofs.YteapenemnnhonaaDoor
