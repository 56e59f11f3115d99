/- The walks through the reference's JSON reader (provostref04): value. -/
import Derived.Test.YtglhanblbojkhaaGreatDoorNy
set_option linter.unusedSimpArgs false
set_option linter.unusedVariables false
namespace Go.Proofs.YtglhanblbojkhaaGreatDoor
open Go.RowKit Go.Lib
theorem modify_end (out : List Cel) (x : Cel) (f : Cel → Cel) : (out ++ [x]).modify out.length f = out ++ [f x] := by
  induction out with
  | nil => rfl
  | cons y out ih => rw [List.cons_append, List.length_cons, List.modify_succ_cons, ih]; rfl
theorem modify_end' (out : List Cel) (x : Cel) (f : Cel → Cel) (k : Nat) (hk : k = out.length) : (out ++ [x]).modify k f = out ++ [f x] := by
  rw [hk]; exact modify_end out x f
theorem OwnC.at_ {B g m cap : Nat} {v : Value} {L : List Cel} {W : World} (h : OwnC B v L W) (hv : v = .slice (some ⟨g, 0, none⟩) m cap) (k : Nat) (hk : k < L.length) : (∀ i, W.frozen? ⟨g, i, none⟩ = false) ∧
    W.cell? ⟨g, k * 5, none⟩ = some (.int .u8 (L[k].kind.toNat : Int)) ∧ W.cell? ⟨g, k * 5 + 2, none⟩ = some (.string ⟨L[k].text.toArray⟩) ∧ W.cell? ⟨g, k * 5 + 3, none⟩ = some (.int .i64 L[k].num) := by
  obtain ⟨g', cap', hv', _, _, h1, h2, h3, h4, _⟩ := h.form k hk
  have e : g' = g := by rw [hv] at hv'; injection hv' with hv'; injection hv' with hv'; injection hv' with hv'; exact hv'.symm
  subst e
  exact ⟨h1, h2, h3, h4⟩
/-- How it ends, as a value. -/
def endE (E : Ex) (o : List Cel) : Except Int (List UInt8 × List Cel) := match E with
  | .error e => .error e
  | .ok t => .ok (t, o)
theorem VS.toE {r : Nat} {s : ByteArray} {w W : World} {v v' : Value} {out : List Cel} {E : Ex} (h : VS r s w v v' out E W) (hl : out.length ≤ 2048) : ValE r s v (endE E out) w W := by
  cases E with
  | error e => exact ⟨h.st.1, v', h.st, h.vk⟩
  | ok t => exact ⟨hl, v', h⟩
theorem VS.join {r : Nat} {s : ByteArray} {w W W' : World} {v v' : Value} {out : List Cel} {E : Ex} {o : Except Int (List UInt8 × List Cel)} (h : VS r s w v v' out E W) (h2 : ValE r s v' o W W') : ValE r s v o w W' := by
  cases o with
  | error e => obtain ⟨h0, v2, h1, h3⟩ := h2; exact ⟨h0, v2, h1, h.vk.trans h3 h.ob⟩
  | ok y =>
    obtain ⟨t, o⟩ := y
    obtain ⟨h0, v2, h1⟩ := h2
    exact ⟨h0, v2, h1.st, h1.own, h.vk.trans h1.vk h.ob, fun k hk => by
      rcases h1.ob k hk with h4 | h4
      · exact h.ob k h4
      · exact Or.inr (Nat.le_trans h.size h4)⟩
theorem e_number (r : Nat) (s : ByteArray) (v : Value) (l : List UInt8) (hs : s.size ≤ 20000) (w : World) (h : StE r s v (.ok l) w)
    (HRD : Hid (∀ (x : ByteArray) (W : World), x.size ≤ maxLen → Calls Tryz.prog 77 #[.string x] W fun e w' => e = .returned (.tuple #[.int .i64 (rdV x.data.toList), .int .i64 (rdE x.data.toList)]) ∧ W = w')) :
    Calls Tryz.prog 53 #[.pointer (some ⟨r, 0, none⟩)] w fun x w' => (∃ (n : Int) (E : Ex), x = .returned (.int .i64 n) ∧ StE r s v E w' ∧ ((∃ e, e ≠ 0 ∧ numJ l = .error e ∧ E = .error e) ∨ ∃ t, numJ l = .ok (n, t) ∧ E = .ok t)) ∧ RK r w w' := by
  obtain ⟨a, h1, h2, h⟩ := h
  refine (rnumber_any r s a v h1 (by omega) w h HRD).mono ?_
  rintro x w' ⟨hr, hk⟩
  rw [h2] at hr
  refine ⟨?_, hk⟩
  have hne : ∀ e, numJ l = .error e → e ≠ 0 := by
    intro e he
    unfold numJ at he
    simp only at he
    split at he
    · injection he with he; rw [← he]; decide
    · rename_i hd
      by_cases hb : ((pointJ ((body l).drop (wholeJ (body l)).length)).isSome || (powerJ ((pointJ ((body l).drop (wholeJ (body l)).length)).getD ((body l).drop (wholeJ (body l)).length))).isSome || rdE ((if below l then [45] else []) ++ wholeJ (body l)) != 0) = true
      · rw [if_pos hb] at he
        injection he with he; rw [← he]; decide
      · rw [if_neg hb] at he
        cases he
  cases hn : numJ l with
  | error e =>
    rw [hn] at hr
    obtain ⟨n, a', rfl, h1', hr'⟩ := hr
    exact ⟨n, .error e, rfl, ⟨hne e hn, a', h1', hr'⟩, Or.inl ⟨e, hne e hn, rfl, rfl⟩⟩
  | ok y =>
    obtain ⟨n, t⟩ := y
    rw [hn] at hr
    obtain ⟨rfl, a', h1', h2', hr'⟩ := hr
    exact ⟨n, .ok t, rfl, ⟨a', h1', h2', hr'⟩, Or.inr ⟨t, rfl, rfl⟩⟩
/-! ### plain laws -/
theorem valJ_end (d : Nat) (name l : List UInt8) (out : List Cel) (h : begJ ((blJ l).headD 0) = false) : valJ d name l out = .error 40 := by
  unfold valJ
  cases hb : blJ l with
  | nil => rfl
  | cons c r => rw [hb, List.headD_cons] at h; simp [h]
theorem valJ_full (d : Nat) (name l : List UInt8) (out : List Cel) (h : begJ ((blJ l).headD 0) = true) (hf : out.length = 2048) : valJ d name l out = .error 4 := by
  unfold valJ
  cases hb : blJ l with
  | nil => rw [hb] at h; exact absurd h (by decide)
  | cons c r => rw [hb, List.headD_cons] at h; simp [h, hf]
theorem valJ_nest (d : Nat) (name l : List UInt8) (out : List Cel) (c : UInt8) (r : List UInt8) (hb : blJ l = c :: r) (hf : out.length ≠ 2048) (hc : c = 123 ∨ c = 91) : valJ d name l out = manyJ d (c == 123) out.length r (out ++ [⟨if c = 123 then 7 else 6, name, [], 0, 0⟩]) := by
  unfold valJ
  rw [hb]
  have h1 : begJ c = true := by rcases hc with rfl | rfl <;> decide
  simp only [h1, Bool.not_true, Bool.false_eq_true, if_false, if_neg hf, if_pos hc]
  unfold manyJ
  cases d with
  | zero => rfl
  | succ d =>
    simp only
    unfold finJ
    cases itemsJ (valJ d) (c == 123) (r.length + 1) 0 [] (blJ r) (out ++ [⟨if c = 123 then 7 else 6, name, [], 0, 0⟩]) with
    | error e => rfl
    | ok y => rfl
theorem valJ_leaf (d : Nat) (name l : List UInt8) (out : List Cel) (c : UInt8) (r : List UInt8) (hb : blJ l = c :: r) (hf : out.length ≠ 2048) (h1 : begJ c = true) (hc : ¬ (c = 123 ∨ c = 91)) : valJ d name l out = leafJ name c (c :: r) out := by
  unfold valJ
  rw [hb]
  simp only [h1, Bool.not_true, Bool.false_eq_true, if_false, if_neg hf, if_neg hc]
end Go.Proofs.YtglhanblbojkhaaGreatDoor
