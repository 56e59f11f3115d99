/- An Address among a law's parameters: opened, and shut again. -/
import Derived.Test.YtcocjmbhbddgiaaGreatDoorRows
import Derived.ProofKit
import Derived.OpenShut
import Derived.Lib.SmallJoins
set_option linter.unusedVariables false
namespace Go.Proofs.YtcocjmbhbddgiaaGreatDoor
open Go.RowKit Go.WideShapes Go.ChangeShapes Go.Joins Go.Deep
open Go.ChangeMaps (open_string shut_string)
theorem cells_addr : Tryz.prog.cellsOf 23 = 8 := by kernel_rfl
section
variable {H : Type} {enc : TypeId × Value → H} {P : Program} {w : World} {base : Nat} {spare : Nat → Bool} {held : Bool}
theorem open_agg8 {r : Reach} {b0 : Nat} {t : TypeId} {f0 f1 f2 f3 f4 f5 f6 f7 : Field} {v : Value} {d : DataW H} {p : List MemPlace} (hs : P.underlying t = some (.struct #[f0, f1, f2, f3, f4, f5, f6, f7])) (hone : oneCellFields P #[f0, f1, f2, f3, f4, f5, f6, f7] = true) (hC : P.cellsOf t = 8)
    (hv : Value.okWide P w r b0 t v) (h : DataW.Trod enc P w base spare held t v d p) :
    ∃ (v0 v1 v2 v3 v4 v5 v6 v7 : Value) (y0 y1 y2 y3 y4 y5 y6 y7 : DataW H × List MemPlace) (n : Nat), v = .agg #[v0, v1, v2, v3, v4, v5, v6, v7] ∧ d = .agg [y0.1, y1.1, y2.1, y3.1, y4.1, y5.1, y6.1, y7.1] ∧ p = y0.2 ++ (y1.2 ++ (y2.2 ++ (y3.2 ++ (y4.2 ++ (y5.2 ++ (y6.2 ++ (y7.2))))))) ∧
      DataW.trod enc P w base spare held n f0.type [v0] = some y0 ∧ DataW.trod enc P w base spare held n f1.type [v1] = some y1 ∧ DataW.trod enc P w base spare held n f2.type [v2] = some y2 ∧ DataW.trod enc P w base spare held n f3.type [v3] = some y3 ∧ DataW.trod enc P w base spare held n f4.type [v4] = some y4 ∧ DataW.trod enc P w base spare held n f5.type [v5] = some y5 ∧ DataW.trod enc P w base spare held n f6.type [v6] = some y6 ∧ DataW.trod enc P w base spare held n f7.type [v7] = some y7 := by
  obtain ⟨cs, rfl, hsz⟩ := okWide_struct hs hv
  obtain ⟨l⟩ := cs
  match l, hsz.trans hC with
  | [c0, c1, c2, c3, c4, c5, c6, c7], _ =>
    obtain ⟨fuel, hf⟩ := h
    obtain ⟨xs, n, _, hx, _, hlen, hg⟩ := DataW.trod_struct hs hf
    obtain ⟨o0, k0⟩ := hone_of hone 0 f0 rfl
    obtain ⟨o1, k1⟩ := hone_of hone 1 f1 rfl
    obtain ⟨o2, k2⟩ := hone_of hone 2 f2 rfl
    obtain ⟨o3, k3⟩ := hone_of hone 3 f3 rfl
    obtain ⟨o4, k4⟩ := hone_of hone 4 f4 rfl
    obtain ⟨o5, k5⟩ := hone_of hone 5 f5 rfl
    obtain ⟨o6, k6⟩ := hone_of hone 6 f6 rfl
    obtain ⟨o7, k7⟩ := hone_of hone 7 f7 rfl
    match xs, hlen with
    | [y0, y1, y2, y3, y4, y5, y6, y7], _ =>
      simp only [Prod.mk.injEq] at hx
      exact ⟨c0, c1, c2, c3, c4, c5, c6, c7, y0, y1, y2, y3, y4, y5, y6, y7, n, rfl, by simpa using hx.1, by simpa using hx.2, by simpa [Value.cells, o0, k0] using hg 0 f0 rfl, by simpa [Value.cells, o1, k1] using hg 1 f1 rfl, by simpa [Value.cells, o2, k2] using hg 2 f2 rfl, by simpa [Value.cells, o3, k3] using hg 3 f3 rfl, by simpa [Value.cells, o4, k4] using hg 4 f4 rfl, by simpa [Value.cells, o5, k5] using hg 5 f5 rfl, by simpa [Value.cells, o6, k6] using hg 6 f6 rfl, by simpa [Value.cells, o7, k7] using hg 7 f7 rfl⟩
theorem shut_agg8 {t : TypeId} {f0 f1 f2 f3 f4 f5 f6 f7 : Field} {v0 v1 v2 v3 v4 v5 v6 v7 : Value} {y0 y1 y2 y3 y4 y5 y6 y7 : DataW H × List MemPlace} {n : Nat} (hs : P.underlying t = some (.struct #[f0, f1, f2, f3, f4, f5, f6, f7])) (hone : oneCellFields P #[f0, f1, f2, f3, f4, f5, f6, f7] = true) (hC : P.cellsOf t = 8)
    (t0 : DataW.trod enc P w base spare held n f0.type [v0] = some y0) (t1 : DataW.trod enc P w base spare held n f1.type [v1] = some y1) (t2 : DataW.trod enc P w base spare held n f2.type [v2] = some y2) (t3 : DataW.trod enc P w base spare held n f3.type [v3] = some y3) (t4 : DataW.trod enc P w base spare held n f4.type [v4] = some y4) (t5 : DataW.trod enc P w base spare held n f5.type [v5] = some y5) (t6 : DataW.trod enc P w base spare held n f6.type [v6] = some y6) (t7 : DataW.trod enc P w base spare held n f7.type [v7] = some y7) :
    DataW.Trod enc P w base spare held t (.agg #[v0, v1, v2, v3, v4, v5, v6, v7]) (.agg [y0.1, y1.1, y2.1, y3.1, y4.1, y5.1, y6.1, y7.1]) (y0.2 ++ (y1.2 ++ (y2.2 ++ (y3.2 ++ (y4.2 ++ (y5.2 ++ (y6.2 ++ (y7.2)))))))) := by
  obtain ⟨o0, k0⟩ := hone_of hone 0 f0 rfl
  obtain ⟨o1, k1⟩ := hone_of hone 1 f1 rfl
  obtain ⟨o2, k2⟩ := hone_of hone 2 f2 rfl
  obtain ⟨o3, k3⟩ := hone_of hone 3 f3 rfl
  obtain ⟨o4, k4⟩ := hone_of hone 4 f4 rfl
  obtain ⟨o5, k5⟩ := hone_of hone 5 f5 rfl
  obtain ⟨o6, k6⟩ := hone_of hone 6 f6 rfl
  obtain ⟨o7, k7⟩ := hone_of hone 7 f7 rfl
  have ts := trod_struct_mk (enc := enc) (w := w) (base := base) (spare := spare) (held := held) (n := n) (cs := [v0, v1, v2, v3, v4, v5, v6, v7]) (xs := [y0, y1, y2, y3, y4, y5, y6, y7]) hs (by simp [hC]) (by simp [o0, k0, t0, o1, k1, t1, o2, k2, t2, o3, k3, t3, o4, k4, t4, o5, k5, t5, o6, k6, t6, o7, k7, t7])
  exact ⟨_, by simpa [Value.cells] using ts⟩
end
section
variable {H : Type} {enc : TypeId × Value → H} {w : World} {base : Nat} {spare : Nat → Bool} {held : Bool}
set_option maxRecDepth 100000 in
theorem open_addr {r : Reach} {b0 : Nat} {v : Value} {d : DataW H} {p : List MemPlace}
    (hv : Value.okWide Tryz.prog w r b0 23 v) (h : DataW.Trod enc Tryz.prog w base spare held 23 v d p) :
    ∃ (sc us ho po pa qu : ByteArray) (hu hq : Bool), v = .agg #[.string sc, .string us, .string ho, .string po, .string pa, .string qu, .bool hu, .bool hq] ∧ d = .agg [.lit (.string sc.data.toList), .lit (.string us.data.toList), .lit (.string ho.data.toList), .lit (.string po.data.toList), .lit (.string pa.data.toList), .lit (.string qu.data.toList), .lit (.bool hu), .lit (.bool hq)] ∧ p = [] ∧ sc.size ≤ maxLen ∧ us.size ≤ maxLen ∧ ho.size ≤ maxLen ∧ po.size ≤ maxLen ∧ pa.size ≤ maxLen ∧ qu.size ≤ maxLen := by
  obtain ⟨c0, c1, c2, c3, c4, c5, c6, c7, y0, y1, y2, y3, y4, y5, y6, y7, n, rfl, rfl, rfl, q0, q1, q2, q3, q4, q5, q6, q7⟩ := open_agg8 Tryz.underlying23 (by kernel_rfl) cells_addr hv h
  obtain ⟨sc, e0, rfl, z0⟩ := DataW.trod_string Tryz.underlying9 q0
  obtain ⟨us, e1, rfl, z1⟩ := DataW.trod_string Tryz.underlying9 q1
  obtain ⟨ho, e2, rfl, z2⟩ := DataW.trod_string Tryz.underlying9 q2
  obtain ⟨po, e3, rfl, z3⟩ := DataW.trod_string Tryz.underlying9 q3
  obtain ⟨pa, e4, rfl, z4⟩ := DataW.trod_string Tryz.underlying9 q4
  obtain ⟨qu, e5, rfl, z5⟩ := DataW.trod_string Tryz.underlying9 q5
  obtain ⟨hu, e6, rfl⟩ := DataW.trod_bool Tryz.underlying4 q6
  obtain ⟨hq, e7, rfl⟩ := DataW.trod_bool Tryz.underlying4 q7
  simp only [List.cons.injEq, and_true] at e0 e1 e2 e3 e4 e5 e6 e7
  subst e0 e1 e2 e3 e4 e5 e6 e7
  exact ⟨sc, us, ho, po, pa, qu, hu, hq, rfl, rfl, rfl, z0, z1, z2, z3, z4, z5⟩
set_option maxRecDepth 100000 in
theorem shut_addr {sc us ho po pa qu : ByteArray} {hu hq : Bool} (z0 : sc.size ≤ maxLen) (z1 : us.size ≤ maxLen) (z2 : ho.size ≤ maxLen) (z3 : po.size ≤ maxLen) (z4 : pa.size ≤ maxLen) (z5 : qu.size ≤ maxLen) :
    DataW.Trod enc Tryz.prog w base spare held 23 (.agg #[.string sc, .string us, .string ho, .string po, .string pa, .string qu, .bool hu, .bool hq]) (.agg [.lit (.string sc.data.toList), .lit (.string us.data.toList), .lit (.string ho.data.toList), .lit (.string po.data.toList), .lit (.string pa.data.toList), .lit (.string qu.data.toList), .lit (.bool hu), .lit (.bool hq)]) [] :=
  shut_agg8 (y0 := (.lit (.string sc.data.toList), [])) (y1 := (.lit (.string us.data.toList), [])) (y2 := (.lit (.string ho.data.toList), [])) (y3 := (.lit (.string po.data.toList), [])) (y4 := (.lit (.string pa.data.toList), [])) (y5 := (.lit (.string qu.data.toList), [])) (y6 := (.lit (.bool hu), [])) (y7 := (.lit (.bool hq), [])) (n := 1) Tryz.underlying23 (by kernel_rfl) cells_addr
    (by simp [DataW.trod, Tryz.underlying9, z0]) (by simp [DataW.trod, Tryz.underlying9, z1]) (by simp [DataW.trod, Tryz.underlying9, z2]) (by simp [DataW.trod, Tryz.underlying9, z3]) (by simp [DataW.trod, Tryz.underlying9, z4]) (by simp [DataW.trod, Tryz.underlying9, z5]) (by simp [DataW.trod, Tryz.underlying4]) (by simp [DataW.trod, Tryz.underlying4])
end
end Go.Proofs.YtcocjmbhbddgiaaGreatDoor
