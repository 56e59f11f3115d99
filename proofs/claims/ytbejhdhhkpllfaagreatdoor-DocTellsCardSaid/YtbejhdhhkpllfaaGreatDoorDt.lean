/- Operations of a drawn region that yield Bools by looking, or are not wanted: taken in one go. -/
import Derived.Test.YtbejhdhhkpllfaaGreatDoorDc
set_option linter.unusedVariables false
set_option linter.unusedSimpArgs false
namespace Go.Proofs.YtbejhdhhkpllfaaGreatDoor
open Go.RowKit
def boolOf : Value → Option Bool
  | .bool b => some b
  | _ => none
theorem boolOf_some {v : Value} {b : Bool} (h : boolOf v = some b) : v = .bool b := by
  cases v with
  | bool c => injection h with h; rw [h]
  | _ => cases h
def pureB (a : Act) (o : Oper) : Option Bool :=
  match o.op with
  | .move x => boolOf (a.eval x)
  | .assign x => boolOf (a.eval x)
  | .pick c x y => match a.eval c with
    | .bool true => boolOf (a.eval x)
    | .bool false => boolOf (a.eval y)
    | _ => none
  | .unOp .not _ x => match a.eval x with
    | .bool b => some (!b)
    | _ => none
  | _ => none
theorem pureB_run {P : Program} {a : Act} {o : Oper} {b : Bool} (h : pureB a o = some b) (w : World) : (execOp a.eval o).run P w = .ok (.value (.bool b)) w := by
  unfold pureB at h
  split at h
  · rename_i x hx
    unfold execOp; rw [hx]; simp only [boolOf_some h]; rfl
  · rename_i x hx
    unfold execOp; rw [hx]; simp only [boolOf_some h]; rfl
  · rename_i c x y hx
    split at h
    · rename_i hc
      unfold execOp; rw [hx]; simp only [hc, boolOf_some h]; rfl
    · rename_i hc
      unfold execOp; rw [hx]; simp only [hc, boolOf_some h]; rfl
    · cases h
  · rename_i t x hx
    split at h
    · rename_i c hc
      injection h with h
      unfold execOp; rw [hx]; simp only [hc, ← h]; rfl
    · cases h
  · cases h
def vOf : Option Bool → Value
  | none => undef
  | some b => .bool b
def chk1 (md : Region.Mode) (ops : Array Oper) (listed : Array Bool) (a : Act) (i : Nat) (d : Option Tmp) (ov : Option Bool) : Bool :=
  match ops.toList[i]? with
  | none => false
  | some o => decide (o.dst = d) && (Region.noSelect ops && Region.free md ops listed i && (Region.ready md ops listed).contains i) && (match ov with
    | none => !Region.wanted o (yielded ops a.tmps)
    | some b => Region.wanted o (yielded ops a.tmps) && (pureB a o == some b))
def chks (md : Region.Mode) (ops : Array Oper) : List (Nat × Option Tmp × Option Bool) → Array Bool → Act → Bool
  | [], _, _ => true
  | (i, d, ov) :: r, listed, a => chk1 md ops listed a i d ov && chks md ops r (listed.setIfInBounds i true) (a.put d (vOf ov))
def lstBy : List (Nat × Option Tmp × Option Bool) → Array Bool → Array Bool
  | [], listed => listed
  | (i, _, _) :: r, listed => lstBy r (listed.setIfInBounds i true)
def actBy : List (Nat × Option Tmp × Option Bool) → Act → Act
  | [], a => a
  | (_, d, ov) :: r, a => actBy r (a.put d (vOf ov))
theorem tks {P : Program} {ops : Array Oper} {Q : Exit → Act → World → Prop} {md : Region.Mode} {S : World → Prop} (hQ : ∀ c d v a w, Q (.panic c) (a.put d v) w → Q (.panic c) a w) {w : World} (hS : S w) :
    ∀ (l : List (Nat × Option Tmp × Option Bool)) {fuel : Nat} (f : Nat) {listed : Array Bool} {a : Act}, chks md ops l listed a = true → fuel = f + l.length → wpAnyH P md ops Q S f (lstBy l listed) (actBy l a) w → wpAnyH P md ops Q S fuel listed a w
  | [], fuel, f, listed, a, _, hf, h => by rw [hf]; exact h
  | (i, d, ov) :: r, fuel, f, listed, a, hc, hf, h => by
    rw [chks, Bool.and_eq_true] at hc
    obtain ⟨h1, h2⟩ := hc
    have ih := tks (P := P) (Q := Q) hQ hS r f (fuel := f + r.length) h2 rfl h
    have hf2 : fuel = (f + r.length) + 1 := by rw [hf, List.length_cons]; omega
    rw [hf2]
    unfold chk1 at h1
    cases ho : ops.toList[i]? with
    | none => rw [ho] at h1; cases h1
    | some o =>
      rw [ho] at h1
      simp only [Bool.and_eq_true, decide_eq_true_eq] at h1
      obtain ⟨⟨hd, hk⟩, hv⟩ := h1
      cases ov with
      | none => exact tkn i d ho (by simpa only [Bool.and_eq_true] using hk) (by simpa using hv) hd (fun c a w h => hQ c d _ a w h) hS ih
      | some b =>
        simp only [Bool.and_eq_true, beq_iff_eq] at hv
        exact tky i d ho (by simpa only [Bool.and_eq_true] using hk) hv.1 hd (fun c a w h => hQ c d _ a w h) (fun w _ => pureB_run hv.2 w) hS ih
end Go.Proofs.YtbejhdhhkpllfaaGreatDoor
