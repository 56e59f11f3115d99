/- The scalars 1, 2, 3, 4, 7: what 'of' gives, by what it does. -/
import Derived.Test.YtpkkejcndmcbiaaGreatDoorIl
import Derived.Test.YtpkkejcndmcbiaaGreatDoorIj
import Derived.Test.YtpkkejcndmcbiaaGreatDoorMn
import Derived.Test.YtpkkejcndmcbiaaGreatDoorMh
set_option linter.unusedSimpArgs false
set_option linter.unusedVariables false
namespace Go.Proofs.YtpkkejcndmcbiaaGreatDoor
open Go.RowKit Go.Shelf
theorem ent_number : ∀ args w, (callFunc 29 args).run Tryz.prog w = .ok (.enter 29 args) w := enters_of Tryz.func29 (by kernel_rfl) rfl
theorem ent_told : ∀ args w, (callFunc 52 args).run Tryz.prog w = .ok (.enter 52 args) w := enters_of Tryz.func52 (by kernel_rfl) rfl
theorem ent_digs : ∀ args w, (callFunc 53 args).run Tryz.prog w = .ok (.enter 53 args) w := enters_of Tryz.func53 (by kernel_rfl) rfl
theorem ent_some : ∀ args w, (callFunc 37 args).run Tryz.prog w = .ok (.enter 37 args) w := enters_of Tryz.func37 (by kernel_rfl) rfl
theorem ent_dec : ∀ args w, (callFunc 41 args).run Tryz.prog w = .ok (.enter 41 args) w := enters_of Tryz.func41 (by kernel_rfl) rfl
theorem ent_same : ∀ args w, (callFunc 34 args).run Tryz.prog w = .ok (.enter 34 args) w := enters_of Tryz.func34 (by kernel_rfl) rfl
theorem ent_bool : ∀ args w, (callFunc 35 args).run Tryz.prog w = .ok (.enter 35 args) w := enters_of Tryz.func35 (by kernel_rfl) rfl
theorem ent_moneys : ∀ args w, (callFunc 42 args).run Tryz.prog w = .ok (.enter 42 args) w := enters_of Tryz.func42 (by kernel_rfl) rfl
theorem ent_sums : ∀ args w, (callFunc 43 args).run Tryz.prog w = .ok (.enter 43 args) w := enters_of Tryz.func43 (by kernel_rfl) rfl
theorem ent_ints : ∀ args w, (callFunc 32 args).run Tryz.prog w = .ok (.enter 32 args) w := enters_of Tryz.func32 (by kernel_rfl) rfl
theorem ent_bytes : ∀ args w, (callFunc 27 args).run Tryz.prog w = .ok (.enter 27 args) w := enters_of Tryz.func27 (by kernel_rfl) rfl
theorem ent_cmpi : ∀ args w, (callFunc 30 args).run Tryz.prog w = .ok (.enter 30 args) w := enters_of Tryz.func30 (by kernel_rfl) rfl
theorem ent_days : ∀ args w, (callFunc 39 args).run Tryz.prog w = .ok (.enter 39 args) w := enters_of Tryz.func39 (by kernel_rfl) rfl
/-- What the library's variables hold, for the scalars. -/
structure EnvS (w : World) : Prop where
  u : EnvU w
  r : Env w
theorem EnvS.below {w w' : World} (h : EnvS w) (hb : Below w.heap.size w w') : EnvS w' := ⟨h.u.below hb, h.r.stays hb⟩
def sameC : ByteArray → ByteArray × Int := fun s => (s, 0)
def someC : ByteArray → ByteArray × Int := fun s => if s.toList = [] then (⟨#[]⟩, 160) else (s, 0)
def decC : ByteArray → ByteArray × Int := fun s => if pE s.data.toList = 0 then (⟨(tx (pM s.data.toList) (pS s.data.toList)).toArray⟩, chk (pM s.data.toList) (pS s.data.toList)) else (⟨#[]⟩, pE s.data.toList)
theorem pM_Rs (l : List UInt8) : R (pM l) ∧ R (pS l) := by
  cases h : parseOk l with
  | false =>
    obtain ⟨e1, e2, _⟩ := p_bad l h
    rw [e1, e2]; unfold R; omega
  | true =>
    obtain ⟨h1, h2, _⟩ := parse_may l h
    have := may_bd h1
    exact ⟨h2, by unfold R; omega⟩
theorem same_c (w : World) : CanC w 34 #[] sameC := fun s _ W _ => by rw [app_nil]; exact same_any s W
theorem some_c (w : World) : CanC w 37 #[] someC := fun s _ W _ => by
  rw [app_nil]; unfold someC
  by_cases h : s.toList = []
  · rw [if_pos h]
    obtain rfl : s = ⟨#[]⟩ := by
      rw [ByteArray.toList_eq] at h
      have : s.data = #[] := Array.toList_inj.1 (by rw [h])
      cases s; simp_all
    exact some_no W
  · rw [if_neg h]
    exact some_yes s (by simpa using h) h W
theorem mparse_d (s : ByteArray) (hs : s.size ≤ 1000000) (w : World) (he : Env w) : DoesU w 60 #[.string s] (.tuple #[.agg #[.int .i64 (pM s.data.toList), .int .i64 (pS s.data.toList)], .int .i64 (pE s.data.toList)]) := fun W hW => mparse_any s hs W (he.stays hW)
theorem mtext_d (m s : Int) (hm : R m) (hs : R s) (w : World) (he : Env w) : DoesU w 61 #[.agg #[.int .i64 m, .int .i64 s]] (.tuple #[.string ⟨(tx m s).toArray⟩, .int .i64 (chk m s)]) := fun W hW => mtext_any m s hm hs W (he.stays hW).tab
theorem dec_c (w : World) (he : Env w) : CanC w 41 #[] decC := fun s hs W hW => by
  rw [app_nil]; unfold decC
  have hP := mparse_d s (by omega) W (he.stays hW)
  have hT := mtext_d _ _ (pM_Rs s.data.toList).1 (pM_Rs s.data.toList).2 W (he.stays hW)
  by_cases h : pE s.data.toList = 0
  · rw [if_pos h]
    rw [h] at hP
    exact decimal_go s _ _ _ _ W (Lib.hid hP) (Lib.hid hT)
  · rw [if_neg h]
    exact decimal_no s _ _ _ (by simpa using h) W (Lib.hid hP)
theorem kind_1 (w : World) (hE : EnvS w) :
    Calls Tryz.prog 13 #[.int .u8 1] w fun e w' => (∃ cap : Array Value, e = .returned (.tuple #[.agg #[.func (.func 29) #[] cap, (.func (.func 30) #[] #[]), (.func (.func 32) #[] #[]), .bool false], .int .i64 0]) ∧ PlC w' 29 cap (.func (.func 30) #[] #[]) (.func (.func 32) #[] #[]) false numR) ∧ Below w.heap.size w w' := by
  refine (of_1 w).mono ?_
  rintro e w1 ⟨rfl, hb⟩
  exact ⟨⟨_, rfl, plain_c _ _ _ _ _ _ w1 ent_number (number_c w1)⟩, hb⟩
theorem kind_2 (w : World) (hE : EnvS w) :
    Calls Tryz.prog 13 #[.int .u8 2] w fun e w' => (∃ cap : Array Value, e = .returned (.tuple #[.agg #[.func (.func 52) #[] cap, (.func (.func 27) #[] #[]), .nilFunc, .bool true], .int .i64 0]) ∧ PlC w' 52 cap (.func (.func 27) #[] #[]) .nilFunc true (toldR sameC)) ∧ Below w.heap.size w w' := by
  refine (of_2 w).mono ?_
  rintro e w1 ⟨⟨p2, rfl, h1⟩, hb⟩
  exact ⟨⟨_, rfl, plain_c _ _ _ _ _ _ w1 ent_told (told_c p2 _ #[] sameC w1 h1 ent_same (hE.u.below hb) (same_c w1))⟩, hb⟩
theorem kind_3 (w : World) (hE : EnvS w) :
    Calls Tryz.prog 13 #[.int .u8 3] w fun e w' => (∃ cap : Array Value, e = .returned (.tuple #[.agg #[.func (.func 35) #[] cap, .nilFunc, .nilFunc, .bool false], .int .i64 0]) ∧ PlC w' 35 cap .nilFunc .nilFunc false boolR) ∧ Below w.heap.size w w' := by
  refine (of_3 w).mono ?_
  rintro e w1 ⟨rfl, hb⟩
  exact ⟨⟨_, rfl, plain_c _ _ _ _ _ _ w1 ent_bool (bool_c w1)⟩, hb⟩
theorem kind_4 (w : World) (hE : EnvS w) :
    Calls Tryz.prog 13 #[.int .u8 4] w fun e w' => (∃ cap : Array Value, e = .returned (.tuple #[.agg #[.func (.func 53) #[] cap, (.func (.func 27) #[] #[]), .nilFunc, .bool true], .int .i64 0]) ∧ PlC w' 53 cap (.func (.func 27) #[] #[]) .nilFunc true (digsR (toldR someC))) ∧ Below w.heap.size w w' := by
  refine (of_4 w).mono ?_
  rintro e w1 ⟨⟨q4, p4, rfl, h1, h2⟩, hb⟩
  exact ⟨⟨_, rfl, plain_c _ _ _ _ _ _ w1 ent_digs (digs_c q4 _ _ _ w1 h1 ent_told (hE.r.stays hb).tab (told_c p4 _ #[] someC w1 h2 ent_some (hE.u.below hb) (some_c w1)))⟩, hb⟩
theorem kind_7 (w : World) (hE : EnvS w) :
    Calls Tryz.prog 13 #[.int .u8 7] w fun e w' => (∃ cap : Array Value, e = .returned (.tuple #[.agg #[.func (.func 53) #[] cap, (.func (.func 42) #[] #[]), (.func (.func 43) #[] #[]), .bool false], .int .i64 0]) ∧ PlC w' 53 cap (.func (.func 42) #[] #[]) (.func (.func 43) #[] #[]) false (digsR (toldR decC))) ∧ Below w.heap.size w w' := by
  refine (of_7 w).mono ?_
  rintro e w1 ⟨⟨q7, p7, rfl, h1, h2⟩, hb⟩
  exact ⟨⟨_, rfl, plain_c _ _ _ _ _ _ w1 ent_digs (digs_c q7 _ _ _ w1 h1 ent_told (hE.r.stays hb).tab (told_c p7 _ #[] decC w1 h2 ent_dec (hE.u.below hb) (dec_c w1 (hE.r.stays hb))))⟩, hb⟩
end Go.Proofs.YtpkkejcndmcbiaaGreatDoor
