/- Walks and plain laws of this proof, joined from smaller texts (3). -/
import Derived.ScopeJumps
import Derived.Lib.AsciiSet
import Derived.Deep.WholeRow
import Derived.Deep.LoopGhost
import Derived.Laws.ResultCell
import Derived.Shelf.Strings.SlTrimAscii
import Derived.Lib.IndexAny
import Derived.Lib.OthersKept
import Derived.Test.YtgaknbnhmoddcaaGreatDoorShelf
import Derived.Lib.MapLaws
import Derived.Shelf.Strings.Builder1
import Derived.Maps.AppendAt
import Derived.Laws.OwnMore
import Derived.Laws.AppendOwnNone
import Derived.Laws.LoneSync
import Derived.Deep.DeepCutAuto
import Derived.RegionCalls
import Derived.Deep.RegionHeld3
import Derived.Lib.Bytealg
import Derived.Lib.Strings
import Derived.Lib.IndexBytes
import Derived.Laws.RangeString
import Derived.Laws.EntriesVeiled
import Derived.Laws.Tables
import Derived.Laws.CopyOwn
import Derived.Test.YtgaknbnhmoddcaaGreatDoorBK2
set_option linter.unusedSimpArgs false
set_option linter.unusedVariables false
namespace Go.Proofs.YtgaknbnhmoddcaaGreatDoor
open Go.RowKit


theorem wp_scope_once {P : Program} {a : Act} {w : World} {Q : Exit → Act → World → Prop} {c rest : Code} (l : Nat) (hf : findLabel c l = some rest)
    (first : c.wp P (Exit.jump l (fun a w => rest.wp P (Exit.noGoto Q) a w) Q) a w) : (Code.scope c).wp P Q a w :=
  wp_scope_jumps l (fun a w => rest.wp P (Exit.noGoto Q) a w) (fun _ _ => 0) hf first fun a w hJ => wp_mono hJ fun e a w h => by
    cases e with
    | goto l' => exact h.elim
    | _ => exact h
theorem jump_goto {l : Nat} {J : Act → World → Prop} {Q : Exit → Act → World → Prop} {a : Act} {w : World} (h : J a w) : Exit.jump l J Q (.goto l) a w := ⟨rfl, h⟩
set_option maxRecDepth 100000 in
set_option maxHeartbeats 1000000 in
theorem rune_2_other (r : Int) (h : 128 ≤ r) (h2 : r ≤ 2147483647) (b0 b1 : UInt8) (he : ¬ r = 65533) (hrs : Hid (Utf8.encode r = ⟨#[b0, b1]⟩)) (HV : Hid (∀ w, Calls Tryz.prog 121 #[.int .i32 r] w fun e w' => e = .returned (.bool true) ∧ w = w')) (h128 : (128 : Int) ≤ ((b1.toNat : Nat) : Int)) (h191 : ((b1.toNat : Nat) : Int) ≤ 191) (hy : Hid (Lib.indexByte [13, 10, 44, 239, 187, 191] b1 = -1)) (w : World) :
    Calls Tryz.prog 104 #[.string ⟨#[32, 9, 13, 10, 44, 239, 187, 191]⟩, .int .i32 r] w fun e w' => e = .returned (.int .i64 (-1)) ∧ Below w.heap.size w w' := by
  have h0 : 0 ≤ r := by omega
  have h1 : ¬ r < 128 := by omega
  have HX : Hid (∀ w, Calls Tryz.prog 72 #[.string (⟨#[13, 10, 44, 239, 187, 191]⟩ : ByteArray), .int .u8 ((b1.toNat : Nat) : Int)] w fun e w' => e = .returned (.int .i64 (-1)) ∧ w = w') := Lib.hid (fun w => by
    have := Tryz.strings_IndexByte (⟨#[13, 10, 44, 239, 187, 191]⟩ : ByteArray) ((b1.toNat : Nat) : Int) w
    rw [show (((b1.toNat : Nat) : Int)).toNat.toUInt8 = b1 by simp, hy.out] at this
    exact this.mono fun e w' ⟨h1, h2⟩ => ⟨h1, h2.symm⟩)
  have hx : (⟨#[32, 9, 13, 10, 44, 239, 187, 191]⟩ : ByteArray).extract 2 8 = (⟨#[13, 10, 44, 239, 187, 191]⟩ : ByteArray) := rfl
  have hs1 : (((⟨#[32, 9, 13, 10, 44, 239, 187, 191]⟩ : ByteArray)[1]'(by decide)).toNat : Int) = 9 := rfl
  have hl1 : ¬ ((9 : Int) = ((b1.toNat : Nat) : Int)) := by omega
  obtain ⟨rs, hr⟩ : ∃ rs, Utf8.encode r = rs := ⟨_, rfl⟩
  have hz : rs.size = 2 := by rw [← hr, hrs.out]; rfl
  have e0 : ∀ hk, rs[0]'hk = b0 := by rw [← hr, hrs.out]; intro _; rfl
  have e1 : ∀ hk, rs[1]'hk = b1 := by rw [← hr, hrs.out]; intro _; rfl
  clear hrs
  have hwr : IntKind.i64.wrap 2 = 2 := by decide
  go_enter Tryz.func104, Tryz.ntmps104
  go_wp2_with fail
  refine (HV.out _).mono ?_; rintro e w1 ⟨rfl, rfl⟩
  go_wp2_with fail
  go_step3
  go_wp2_with fail
  refine wp_loop_rounds 3 ?_
  rw [rounds_succ]
  go_wp2_with fail
  go_step3
  go_wp2_with fail
  go_quiet (fail)
  go_wp2_with fail
  go_region_held3 (fun W => Below w.heap.size w W) (first | assumption | exact ⟨rfl, rfl, rfl, Nat.le_refl _, fun _ _ => rfl⟩) (first | (go_at_call 72; refine (HX.out _).mono ?_; rintro e w3 ⟨rfl, rfl⟩) | fail)
  rename_i hS
  go_wp2_with fail
  rw [Exit.noGoto_ret]
  go_wp2_with fail
  rw [Exit.noGoto_ret]
  go_ret
  exact ⟨rfl, hS⟩
set_option maxRecDepth 100000 in
set_option maxHeartbeats 1000000 in
theorem rune_2_187_n (r : Int) (h : 128 ≤ r) (h2 : r ≤ 2147483647) (b0 b1 : UInt8) (he : ¬ r = 65533) (hrs : Hid (Utf8.encode r = ⟨#[b0, b1]⟩)) (HV : Hid (∀ w, Calls Tryz.prog 121 #[.int .i32 r] w fun e w' => e = .returned (.bool true) ∧ w = w')) (h128 : (128 : Int) ≤ ((b1.toNat : Nat) : Int)) (h191 : ((b1.toNat : Nat) : Int) ≤ 191) (hy : b1 = 187) (k0 : ¬ ((239 : Int) = ((b0.toNat : Nat) : Int))) (w : World) :
    Calls Tryz.prog 104 #[.string ⟨#[32, 9, 13, 10, 44, 239, 187, 191]⟩, .int .i32 r] w fun e w' => e = .returned (.int .i64 (-1)) ∧ Below w.heap.size w w' := by
  have h0 : 0 ≤ r := by omega
  have h1 : ¬ r < 128 := by omega
  subst hy
  have HX : Hid (∀ w, Calls Tryz.prog 72 #[.string (⟨#[13, 10, 44, 239, 187, 191]⟩ : ByteArray), .int .u8 187] w fun e w' => e = .returned (.int .i64 4) ∧ w = w') := Lib.hid (fun w => (Tryz.strings_IndexByte (⟨#[13, 10, 44, 239, 187, 191]⟩ : ByteArray) 187 w).mono fun e w' ⟨h1, h2⟩ => ⟨h1, h2.symm⟩)
  have hx : (⟨#[32, 9, 13, 10, 44, 239, 187, 191]⟩ : ByteArray).extract 2 8 = (⟨#[13, 10, 44, 239, 187, 191]⟩ : ByteArray) := rfl
  have hs1 : (((⟨#[32, 9, 13, 10, 44, 239, 187, 191]⟩ : ByteArray)[1]'(by decide)).toNat : Int) = 9 := rfl
  obtain ⟨rs, hr⟩ : ∃ rs, Utf8.encode r = rs := ⟨_, rfl⟩
  have hz : rs.size = 2 := by rw [← hr, hrs.out]; rfl
  have e0 : ∀ hk, rs[0]'hk = b0 := by rw [← hr, hrs.out]; intro _; rfl
  have e1 : ∀ hk, rs[1]'hk = 187 := by rw [← hr, hrs.out]; intro _; rfl
  clear hrs
  have hwr : IntKind.i64.wrap 2 = 2 := by decide
  go_enter Tryz.func104, Tryz.ntmps104
  go_wp2_with fail
  refine (HV.out _).mono ?_; rintro e w1 ⟨rfl, rfl⟩
  go_wp2_with fail
  go_step3
  go_wp2_with fail
  refine wp_loop_rounds 3 ?_
  rw [rounds_succ]
  go_wp2_with fail
  refine wp_scope_once 0 rfl ?_
  go_wp2_with fail
  go_quiet (fail)
  go_wp2_with fail
  go_region_held3 (fun W => Below w.heap.size w W) (first | assumption | exact ⟨rfl, rfl, rfl, Nat.le_refl _, fun _ _ => rfl⟩) (first | (go_at_call 72; refine (HX.out _).mono ?_; rintro e w3 ⟨rfl, rfl⟩) | fail)
  rename_i hS
  go_wp2_with fail
  have hq0 : (((⟨#[32, 9, 13, 10, 44, 239, 187, 191]⟩ : ByteArray)[5]'(by decide)).toNat : Int) = 239 := rfl
  refine wp_loop_rounds 5 ?_
  rw [rounds_succ]
  go_wp2_with fail
  (try (go_step3; go_wp2_with fail))
  go_quiet (fail)
  go_wp2_with fail
  go_step3
  go_wp2_with fail
  refine jump_goto ?_
  go_wp2_with fail
  go_wp2
  rw [Exit.noGoto_normal]
  go_wp2_with fail
  have hs7 : (((⟨#[32, 9, 13, 10, 44, 239, 187, 191]⟩ : ByteArray)[7]'(by decide)).toNat : Int) = 191 := rfl
  rw [rounds_succ]
  go_wp2_with fail
  go_step3
  go_wp2_with fail
  go_quiet (fail)
  go_wp2_with fail
  have hx8 : (⟨#[32, 9, 13, 10, 44, 239, 187, 191]⟩ : ByteArray).extract 8 8 = ⟨#[]⟩ := rfl
  have hwr8 : IntKind.i64.wrap 8 = 8 := by decide
  have HX0 : Hid (∀ w, Calls Tryz.prog 72 #[.string ⟨#[]⟩, .int .u8 187] w fun e w' => e = .returned (.int .i64 (-1)) ∧ w = w') := Lib.hid (fun w => (Tryz.strings_IndexByte ⟨#[]⟩ 187 w).mono fun e w' ⟨h1, h2⟩ => ⟨h1, h2.symm⟩)
  clear hS
  go_region_held3 (fun W => Below w.heap.size w W) (first | assumption | exact ⟨rfl, rfl, rfl, Nat.le_refl _, fun _ _ => rfl⟩) (first | (go_at_call 72; refine (HX0.out _).mono ?_; rintro e w3 ⟨rfl, rfl⟩) | fail)
  rename_i hS
  go_wp2_with fail
  rw [Exit.noGoto_ret]
  go_wp2_with fail
  (try (rw [Exit.noGoto_ret]))
  go_ret
  exact ⟨rfl, below_dN _ (Below.refl _ _)⟩
set_option maxRecDepth 100000 in
set_option maxHeartbeats 1000000 in
theorem rune_2_191_n (r : Int) (h : 128 ≤ r) (h2 : r ≤ 2147483647) (b0 b1 : UInt8) (he : ¬ r = 65533) (hrs : Hid (Utf8.encode r = ⟨#[b0, b1]⟩)) (HV : Hid (∀ w, Calls Tryz.prog 121 #[.int .i32 r] w fun e w' => e = .returned (.bool true) ∧ w = w')) (h128 : (128 : Int) ≤ ((b1.toNat : Nat) : Int)) (h191 : ((b1.toNat : Nat) : Int) ≤ 191) (hy : b1 = 191) (k0 : ¬ ((187 : Int) = ((b0.toNat : Nat) : Int))) (w : World) :
    Calls Tryz.prog 104 #[.string ⟨#[32, 9, 13, 10, 44, 239, 187, 191]⟩, .int .i32 r] w fun e w' => e = .returned (.int .i64 (-1)) ∧ Below w.heap.size w w' := by
  have h0 : 0 ≤ r := by omega
  have h1 : ¬ r < 128 := by omega
  subst hy
  have HX : Hid (∀ w, Calls Tryz.prog 72 #[.string (⟨#[13, 10, 44, 239, 187, 191]⟩ : ByteArray), .int .u8 191] w fun e w' => e = .returned (.int .i64 5) ∧ w = w') := Lib.hid (fun w => (Tryz.strings_IndexByte (⟨#[13, 10, 44, 239, 187, 191]⟩ : ByteArray) 191 w).mono fun e w' ⟨h1, h2⟩ => ⟨h1, h2.symm⟩)
  have hx : (⟨#[32, 9, 13, 10, 44, 239, 187, 191]⟩ : ByteArray).extract 2 8 = (⟨#[13, 10, 44, 239, 187, 191]⟩ : ByteArray) := rfl
  have hs1 : (((⟨#[32, 9, 13, 10, 44, 239, 187, 191]⟩ : ByteArray)[1]'(by decide)).toNat : Int) = 9 := rfl
  obtain ⟨rs, hr⟩ : ∃ rs, Utf8.encode r = rs := ⟨_, rfl⟩
  have hz : rs.size = 2 := by rw [← hr, hrs.out]; rfl
  have e0 : ∀ hk, rs[0]'hk = b0 := by rw [← hr, hrs.out]; intro _; rfl
  have e1 : ∀ hk, rs[1]'hk = 191 := by rw [← hr, hrs.out]; intro _; rfl
  clear hrs
  have hwr : IntKind.i64.wrap 2 = 2 := by decide
  go_enter Tryz.func104, Tryz.ntmps104
  go_wp2_with fail
  refine (HV.out _).mono ?_; rintro e w1 ⟨rfl, rfl⟩
  go_wp2_with fail
  go_step3
  go_wp2_with fail
  refine wp_loop_rounds 3 ?_
  rw [rounds_succ]
  go_wp2_with fail
  refine wp_scope_once 0 rfl ?_
  go_wp2_with fail
  go_quiet (fail)
  go_wp2_with fail
  go_region_held3 (fun W => Below w.heap.size w W) (first | assumption | exact ⟨rfl, rfl, rfl, Nat.le_refl _, fun _ _ => rfl⟩) (first | (go_at_call 72; refine (HX.out _).mono ?_; rintro e w3 ⟨rfl, rfl⟩) | fail)
  rename_i hS
  go_wp2_with fail
  have hq0 : (((⟨#[32, 9, 13, 10, 44, 239, 187, 191]⟩ : ByteArray)[6]'(by decide)).toNat : Int) = 187 := rfl
  refine wp_loop_rounds 5 ?_
  rw [rounds_succ]
  go_wp2_with fail
  (try (go_step3; go_wp2_with fail))
  go_quiet (fail)
  go_wp2_with fail
  go_step3
  go_wp2_with fail
  refine jump_goto ?_
  go_wp2_with fail
  go_wp2
  rw [Exit.noGoto_normal]
  go_wp2_with fail
  rw [rounds_succ]
  go_wp2_with fail
  rw [Exit.noGoto_ret]
  go_wp2_with fail
  (try (rw [Exit.noGoto_ret]))
  go_ret
  exact ⟨rfl, below_dN _ (Below.refl _ _)⟩
set_option maxRecDepth 100000 in
set_option maxHeartbeats 1000000 in
theorem rune_3_other (r : Int) (h : 128 ≤ r) (h2 : r ≤ 2147483647) (b0 b1 b2 : UInt8) (he : ¬ r = 65533) (hrs : Hid (Utf8.encode r = ⟨#[b0, b1, b2]⟩)) (HV : Hid (∀ w, Calls Tryz.prog 121 #[.int .i32 r] w fun e w' => e = .returned (.bool true) ∧ w = w')) (h128 : (128 : Int) ≤ ((b2.toNat : Nat) : Int)) (h191 : ((b2.toNat : Nat) : Int) ≤ 191) (hy : Hid (Lib.indexByte [10, 44, 239, 187, 191] b2 = -1)) (w : World) :
    Calls Tryz.prog 104 #[.string ⟨#[32, 9, 13, 10, 44, 239, 187, 191]⟩, .int .i32 r] w fun e w' => e = .returned (.int .i64 (-1)) ∧ Below w.heap.size w w' := by
  have h0 : 0 ≤ r := by omega
  have h1 : ¬ r < 128 := by omega
  have HX : Hid (∀ w, Calls Tryz.prog 72 #[.string (⟨#[10, 44, 239, 187, 191]⟩ : ByteArray), .int .u8 ((b2.toNat : Nat) : Int)] w fun e w' => e = .returned (.int .i64 (-1)) ∧ w = w') := Lib.hid (fun w => by
    have := Tryz.strings_IndexByte (⟨#[10, 44, 239, 187, 191]⟩ : ByteArray) ((b2.toNat : Nat) : Int) w
    rw [show (((b2.toNat : Nat) : Int)).toNat.toUInt8 = b2 by simp, hy.out] at this
    exact this.mono fun e w' ⟨h1, h2⟩ => ⟨h1, h2.symm⟩)
  have hx : (⟨#[32, 9, 13, 10, 44, 239, 187, 191]⟩ : ByteArray).extract 3 8 = (⟨#[10, 44, 239, 187, 191]⟩ : ByteArray) := rfl
  have hs2 : (((⟨#[32, 9, 13, 10, 44, 239, 187, 191]⟩ : ByteArray)[2]'(by decide)).toNat : Int) = 13 := rfl
  have hl1 : ¬ ((13 : Int) = ((b2.toNat : Nat) : Int)) := by omega
  obtain ⟨rs, hr⟩ : ∃ rs, Utf8.encode r = rs := ⟨_, rfl⟩
  have hz : rs.size = 3 := by rw [← hr, hrs.out]; rfl
  have e0 : ∀ hk, rs[0]'hk = b0 := by rw [← hr, hrs.out]; intro _; rfl
  have e1 : ∀ hk, rs[1]'hk = b1 := by rw [← hr, hrs.out]; intro _; rfl
  have e2 : ∀ hk, rs[2]'hk = b2 := by rw [← hr, hrs.out]; intro _; rfl
  clear hrs
  have hwr : IntKind.i64.wrap 3 = 3 := by decide
  go_enter Tryz.func104, Tryz.ntmps104
  go_wp2_with fail
  refine (HV.out _).mono ?_; rintro e w1 ⟨rfl, rfl⟩
  go_wp2_with fail
  go_step3
  go_wp2_with fail
  refine wp_loop_rounds 3 ?_
  rw [rounds_succ]
  go_wp2_with fail
  go_step3
  go_wp2_with fail
  go_quiet (fail)
  go_wp2_with fail
  go_region_held3 (fun W => Below w.heap.size w W) (first | assumption | exact ⟨rfl, rfl, rfl, Nat.le_refl _, fun _ _ => rfl⟩) (first | (go_at_call 72; refine (HX.out _).mono ?_; rintro e w3 ⟨rfl, rfl⟩) | fail)
  rename_i hS
  go_wp2_with fail
  rw [Exit.noGoto_ret]
  go_wp2_with fail
  rw [Exit.noGoto_ret]
  go_ret
  exact ⟨rfl, hS⟩
set_option maxRecDepth 100000 in
set_option maxHeartbeats 1000000 in
theorem rune_3_187_n (r : Int) (h : 128 ≤ r) (h2 : r ≤ 2147483647) (b0 b1 b2 : UInt8) (he : ¬ r = 65533) (hrs : Hid (Utf8.encode r = ⟨#[b0, b1, b2]⟩)) (HV : Hid (∀ w, Calls Tryz.prog 121 #[.int .i32 r] w fun e w' => e = .returned (.bool true) ∧ w = w')) (h128 : (128 : Int) ≤ ((b2.toNat : Nat) : Int)) (h191 : ((b2.toNat : Nat) : Int) ≤ 191) (hy : b2 = 187) (k0 : ¬ ((239 : Int) = ((b1.toNat : Nat) : Int))) (w : World) :
    Calls Tryz.prog 104 #[.string ⟨#[32, 9, 13, 10, 44, 239, 187, 191]⟩, .int .i32 r] w fun e w' => e = .returned (.int .i64 (-1)) ∧ Below w.heap.size w w' := by
  have h0 : 0 ≤ r := by omega
  have h1 : ¬ r < 128 := by omega
  subst hy
  have HX : Hid (∀ w, Calls Tryz.prog 72 #[.string (⟨#[10, 44, 239, 187, 191]⟩ : ByteArray), .int .u8 187] w fun e w' => e = .returned (.int .i64 3) ∧ w = w') := Lib.hid (fun w => (Tryz.strings_IndexByte (⟨#[10, 44, 239, 187, 191]⟩ : ByteArray) 187 w).mono fun e w' ⟨h1, h2⟩ => ⟨h1, h2.symm⟩)
  have hx : (⟨#[32, 9, 13, 10, 44, 239, 187, 191]⟩ : ByteArray).extract 3 8 = (⟨#[10, 44, 239, 187, 191]⟩ : ByteArray) := rfl
  have hs2 : (((⟨#[32, 9, 13, 10, 44, 239, 187, 191]⟩ : ByteArray)[2]'(by decide)).toNat : Int) = 13 := rfl
  obtain ⟨rs, hr⟩ : ∃ rs, Utf8.encode r = rs := ⟨_, rfl⟩
  have hz : rs.size = 3 := by rw [← hr, hrs.out]; rfl
  have e0 : ∀ hk, rs[0]'hk = b0 := by rw [← hr, hrs.out]; intro _; rfl
  have e1 : ∀ hk, rs[1]'hk = b1 := by rw [← hr, hrs.out]; intro _; rfl
  have e2 : ∀ hk, rs[2]'hk = 187 := by rw [← hr, hrs.out]; intro _; rfl
  clear hrs
  have hwr : IntKind.i64.wrap 3 = 3 := by decide
  go_enter Tryz.func104, Tryz.ntmps104
  go_wp2_with fail
  refine (HV.out _).mono ?_; rintro e w1 ⟨rfl, rfl⟩
  go_wp2_with fail
  go_step3
  go_wp2_with fail
  refine wp_loop_rounds 3 ?_
  rw [rounds_succ]
  go_wp2_with fail
  refine wp_scope_once 0 rfl ?_
  go_wp2_with fail
  go_quiet (fail)
  go_wp2_with fail
  go_region_held3 (fun W => Below w.heap.size w W) (first | assumption | exact ⟨rfl, rfl, rfl, Nat.le_refl _, fun _ _ => rfl⟩) (first | (go_at_call 72; refine (HX.out _).mono ?_; rintro e w3 ⟨rfl, rfl⟩) | fail)
  rename_i hS
  go_wp2_with fail
  have hq0 : (((⟨#[32, 9, 13, 10, 44, 239, 187, 191]⟩ : ByteArray)[5]'(by decide)).toNat : Int) = 239 := rfl
  refine wp_loop_rounds 5 ?_
  rw [rounds_succ]
  go_wp2_with fail
  (try (go_step3; go_wp2_with fail))
  go_quiet (fail)
  go_wp2_with fail
  go_step3
  go_wp2_with fail
  refine jump_goto ?_
  go_wp2_with fail
  go_wp2
  rw [Exit.noGoto_normal]
  go_wp2_with fail
  have hs7 : (((⟨#[32, 9, 13, 10, 44, 239, 187, 191]⟩ : ByteArray)[7]'(by decide)).toNat : Int) = 191 := rfl
  rw [rounds_succ]
  go_wp2_with fail
  go_step3
  go_wp2_with fail
  go_quiet (fail)
  go_wp2_with fail
  have hx8 : (⟨#[32, 9, 13, 10, 44, 239, 187, 191]⟩ : ByteArray).extract 8 8 = ⟨#[]⟩ := rfl
  have hwr8 : IntKind.i64.wrap 8 = 8 := by decide
  have HX0 : Hid (∀ w, Calls Tryz.prog 72 #[.string ⟨#[]⟩, .int .u8 187] w fun e w' => e = .returned (.int .i64 (-1)) ∧ w = w') := Lib.hid (fun w => (Tryz.strings_IndexByte ⟨#[]⟩ 187 w).mono fun e w' ⟨h1, h2⟩ => ⟨h1, h2.symm⟩)
  clear hS
  go_region_held3 (fun W => Below w.heap.size w W) (first | assumption | exact ⟨rfl, rfl, rfl, Nat.le_refl _, fun _ _ => rfl⟩) (first | (go_at_call 72; refine (HX0.out _).mono ?_; rintro e w3 ⟨rfl, rfl⟩) | fail)
  rename_i hS
  go_wp2_with fail
  rw [Exit.noGoto_ret]
  go_wp2_with fail
  (try (rw [Exit.noGoto_ret]))
  go_ret
  exact ⟨rfl, below_dN _ (Below.refl _ _)⟩
set_option maxRecDepth 100000 in
set_option maxHeartbeats 1000000 in
theorem rune_3_191_n (r : Int) (h : 128 ≤ r) (h2 : r ≤ 2147483647) (b0 b1 b2 : UInt8) (he : ¬ r = 65533) (hrs : Hid (Utf8.encode r = ⟨#[b0, b1, b2]⟩)) (HV : Hid (∀ w, Calls Tryz.prog 121 #[.int .i32 r] w fun e w' => e = .returned (.bool true) ∧ w = w')) (h128 : (128 : Int) ≤ ((b2.toNat : Nat) : Int)) (h191 : ((b2.toNat : Nat) : Int) ≤ 191) (hy : b2 = 191) (k0 : ¬ ((187 : Int) = ((b1.toNat : Nat) : Int))) (w : World) :
    Calls Tryz.prog 104 #[.string ⟨#[32, 9, 13, 10, 44, 239, 187, 191]⟩, .int .i32 r] w fun e w' => e = .returned (.int .i64 (-1)) ∧ Below w.heap.size w w' := by
  have h0 : 0 ≤ r := by omega
  have h1 : ¬ r < 128 := by omega
  subst hy
  have HX : Hid (∀ w, Calls Tryz.prog 72 #[.string (⟨#[10, 44, 239, 187, 191]⟩ : ByteArray), .int .u8 191] w fun e w' => e = .returned (.int .i64 4) ∧ w = w') := Lib.hid (fun w => (Tryz.strings_IndexByte (⟨#[10, 44, 239, 187, 191]⟩ : ByteArray) 191 w).mono fun e w' ⟨h1, h2⟩ => ⟨h1, h2.symm⟩)
  have hx : (⟨#[32, 9, 13, 10, 44, 239, 187, 191]⟩ : ByteArray).extract 3 8 = (⟨#[10, 44, 239, 187, 191]⟩ : ByteArray) := rfl
  have hs2 : (((⟨#[32, 9, 13, 10, 44, 239, 187, 191]⟩ : ByteArray)[2]'(by decide)).toNat : Int) = 13 := rfl
  obtain ⟨rs, hr⟩ : ∃ rs, Utf8.encode r = rs := ⟨_, rfl⟩
  have hz : rs.size = 3 := by rw [← hr, hrs.out]; rfl
  have e0 : ∀ hk, rs[0]'hk = b0 := by rw [← hr, hrs.out]; intro _; rfl
  have e1 : ∀ hk, rs[1]'hk = b1 := by rw [← hr, hrs.out]; intro _; rfl
  have e2 : ∀ hk, rs[2]'hk = 191 := by rw [← hr, hrs.out]; intro _; rfl
  clear hrs
  have hwr : IntKind.i64.wrap 3 = 3 := by decide
  go_enter Tryz.func104, Tryz.ntmps104
  go_wp2_with fail
  refine (HV.out _).mono ?_; rintro e w1 ⟨rfl, rfl⟩
  go_wp2_with fail
  go_step3
  go_wp2_with fail
  refine wp_loop_rounds 3 ?_
  rw [rounds_succ]
  go_wp2_with fail
  refine wp_scope_once 0 rfl ?_
  go_wp2_with fail
  go_quiet (fail)
  go_wp2_with fail
  go_region_held3 (fun W => Below w.heap.size w W) (first | assumption | exact ⟨rfl, rfl, rfl, Nat.le_refl _, fun _ _ => rfl⟩) (first | (go_at_call 72; refine (HX.out _).mono ?_; rintro e w3 ⟨rfl, rfl⟩) | fail)
  rename_i hS
  go_wp2_with fail
  have hq0 : (((⟨#[32, 9, 13, 10, 44, 239, 187, 191]⟩ : ByteArray)[6]'(by decide)).toNat : Int) = 187 := rfl
  refine wp_loop_rounds 5 ?_
  rw [rounds_succ]
  go_wp2_with fail
  (try (go_step3; go_wp2_with fail))
  go_quiet (fail)
  go_wp2_with fail
  go_step3
  go_wp2_with fail
  refine jump_goto ?_
  go_wp2_with fail
  go_wp2
  rw [Exit.noGoto_normal]
  go_wp2_with fail
  rw [rounds_succ]
  go_wp2_with fail
  rw [Exit.noGoto_ret]
  go_wp2_with fail
  (try (rw [Exit.noGoto_ret]))
  go_ret
  exact ⟨rfl, below_dN _ (Below.refl _ _)⟩
set_option maxRecDepth 100000 in
set_option maxHeartbeats 1000000 in
theorem rune_3_191_yn (r : Int) (h : 128 ≤ r) (h2 : r ≤ 2147483647) (b0 b1 b2 : UInt8) (he : ¬ r = 65533) (hrs : Hid (Utf8.encode r = ⟨#[b0, b1, b2]⟩)) (HV : Hid (∀ w, Calls Tryz.prog 121 #[.int .i32 r] w fun e w' => e = .returned (.bool true) ∧ w = w')) (h128 : (128 : Int) ≤ ((b2.toNat : Nat) : Int)) (h191 : ((b2.toNat : Nat) : Int) ≤ 191) (hy : b2 = 191) (k0 : b1 = 187) (k1 : ¬ ((239 : Int) = ((b0.toNat : Nat) : Int))) (w : World) :
    Calls Tryz.prog 104 #[.string ⟨#[32, 9, 13, 10, 44, 239, 187, 191]⟩, .int .i32 r] w fun e w' => e = .returned (.int .i64 (-1)) ∧ Below w.heap.size w w' := by
  have h0 : 0 ≤ r := by omega
  have h1 : ¬ r < 128 := by omega
  subst hy
  subst k0
  have HX : Hid (∀ w, Calls Tryz.prog 72 #[.string (⟨#[10, 44, 239, 187, 191]⟩ : ByteArray), .int .u8 191] w fun e w' => e = .returned (.int .i64 4) ∧ w = w') := Lib.hid (fun w => (Tryz.strings_IndexByte (⟨#[10, 44, 239, 187, 191]⟩ : ByteArray) 191 w).mono fun e w' ⟨h1, h2⟩ => ⟨h1, h2.symm⟩)
  have hx : (⟨#[32, 9, 13, 10, 44, 239, 187, 191]⟩ : ByteArray).extract 3 8 = (⟨#[10, 44, 239, 187, 191]⟩ : ByteArray) := rfl
  have hs2 : (((⟨#[32, 9, 13, 10, 44, 239, 187, 191]⟩ : ByteArray)[2]'(by decide)).toNat : Int) = 13 := rfl
  obtain ⟨rs, hr⟩ : ∃ rs, Utf8.encode r = rs := ⟨_, rfl⟩
  have hz : rs.size = 3 := by rw [← hr, hrs.out]; rfl
  have e0 : ∀ hk, rs[0]'hk = b0 := by rw [← hr, hrs.out]; intro _; rfl
  have e1 : ∀ hk, rs[1]'hk = 187 := by rw [← hr, hrs.out]; intro _; rfl
  have e2 : ∀ hk, rs[2]'hk = 191 := by rw [← hr, hrs.out]; intro _; rfl
  clear hrs
  have hwr : IntKind.i64.wrap 3 = 3 := by decide
  go_enter Tryz.func104, Tryz.ntmps104
  go_wp2_with fail
  refine (HV.out _).mono ?_; rintro e w1 ⟨rfl, rfl⟩
  go_wp2_with fail
  go_step3
  go_wp2_with fail
  refine wp_loop_rounds 3 ?_
  rw [rounds_succ]
  go_wp2_with fail
  refine wp_scope_once 0 rfl ?_
  go_wp2_with fail
  go_quiet (fail)
  go_wp2_with fail
  go_region_held3 (fun W => Below w.heap.size w W) (first | assumption | exact ⟨rfl, rfl, rfl, Nat.le_refl _, fun _ _ => rfl⟩) (first | (go_at_call 72; refine (HX.out _).mono ?_; rintro e w3 ⟨rfl, rfl⟩) | fail)
  rename_i hS
  go_wp2_with fail
  have hq0 : (((⟨#[32, 9, 13, 10, 44, 239, 187, 191]⟩ : ByteArray)[6]'(by decide)).toNat : Int) = 187 := rfl
  have hq1 : (((⟨#[32, 9, 13, 10, 44, 239, 187, 191]⟩ : ByteArray)[5]'(by decide)).toNat : Int) = 239 := rfl
  refine wp_loop_rounds 5 ?_
  rw [rounds_succ]
  go_wp2_with fail
  (try (go_step3; go_wp2_with fail))
  go_quiet (fail)
  go_wp2_with fail
  rw [rounds_succ]
  go_wp2_with fail
  (try (go_step3; go_wp2_with fail))
  go_quiet (fail)
  go_wp2_with fail
  go_step3
  go_wp2_with fail
  refine jump_goto ?_
  go_wp2_with fail
  go_wp2
  rw [Exit.noGoto_normal]
  go_wp2_with fail
  rw [rounds_succ]
  go_wp2_with fail
  rw [Exit.noGoto_ret]
  go_wp2_with fail
  (try (rw [Exit.noGoto_ret]))
  go_ret
  exact ⟨rfl, below_dN _ (Below.refl _ _)⟩
set_option maxRecDepth 100000 in
set_option maxHeartbeats 1000000 in
theorem rune_3_191_yy (r : Int) (h : 128 ≤ r) (h2 : r ≤ 2147483647) (b0 b1 b2 : UInt8) (he : ¬ r = 65533) (hrs : Hid (Utf8.encode r = ⟨#[b0, b1, b2]⟩)) (HV : Hid (∀ w, Calls Tryz.prog 121 #[.int .i32 r] w fun e w' => e = .returned (.bool true) ∧ w = w')) (h128 : (128 : Int) ≤ ((b2.toNat : Nat) : Int)) (h191 : ((b2.toNat : Nat) : Int) ≤ 191) (hy : b2 = 191) (k0 : b1 = 187) (k1 : b0 = 239) (w : World) :
    Calls Tryz.prog 104 #[.string ⟨#[32, 9, 13, 10, 44, 239, 187, 191]⟩, .int .i32 r] w fun e w' => e = .returned (.int .i64 (5)) ∧ Below w.heap.size w w' := by
  have h0 : 0 ≤ r := by omega
  have h1 : ¬ r < 128 := by omega
  subst hy
  subst k0
  subst k1
  have HX : Hid (∀ w, Calls Tryz.prog 72 #[.string (⟨#[10, 44, 239, 187, 191]⟩ : ByteArray), .int .u8 191] w fun e w' => e = .returned (.int .i64 4) ∧ w = w') := Lib.hid (fun w => (Tryz.strings_IndexByte (⟨#[10, 44, 239, 187, 191]⟩ : ByteArray) 191 w).mono fun e w' ⟨h1, h2⟩ => ⟨h1, h2.symm⟩)
  have hx : (⟨#[32, 9, 13, 10, 44, 239, 187, 191]⟩ : ByteArray).extract 3 8 = (⟨#[10, 44, 239, 187, 191]⟩ : ByteArray) := rfl
  have hs2 : (((⟨#[32, 9, 13, 10, 44, 239, 187, 191]⟩ : ByteArray)[2]'(by decide)).toNat : Int) = 13 := rfl
  obtain ⟨rs, hr⟩ : ∃ rs, Utf8.encode r = rs := ⟨_, rfl⟩
  have hz : rs.size = 3 := by rw [← hr, hrs.out]; rfl
  have e0 : ∀ hk, rs[0]'hk = 239 := by rw [← hr, hrs.out]; intro _; rfl
  have e1 : ∀ hk, rs[1]'hk = 187 := by rw [← hr, hrs.out]; intro _; rfl
  have e2 : ∀ hk, rs[2]'hk = 191 := by rw [← hr, hrs.out]; intro _; rfl
  clear hrs
  have hwr : IntKind.i64.wrap 3 = 3 := by decide
  go_enter Tryz.func104, Tryz.ntmps104
  go_wp2_with fail
  refine (HV.out _).mono ?_; rintro e w1 ⟨rfl, rfl⟩
  go_wp2_with fail
  go_step3
  go_wp2_with fail
  refine wp_loop_rounds 3 ?_
  rw [rounds_succ]
  go_wp2_with fail
  go_step3
  go_wp2_with fail
  go_quiet (fail)
  go_wp2_with fail
  go_region_held3 (fun W => Below w.heap.size w W) (first | assumption | exact ⟨rfl, rfl, rfl, Nat.le_refl _, fun _ _ => rfl⟩) (first | (go_at_call 72; refine (HX.out _).mono ?_; rintro e w3 ⟨rfl, rfl⟩) | fail)
  rename_i hS
  go_wp2_with fail
  have hq0 : (((⟨#[32, 9, 13, 10, 44, 239, 187, 191]⟩ : ByteArray)[6]'(by decide)).toNat : Int) = 187 := rfl
  have hq1 : (((⟨#[32, 9, 13, 10, 44, 239, 187, 191]⟩ : ByteArray)[5]'(by decide)).toNat : Int) = 239 := rfl
  refine wp_loop_rounds 5 ?_
  rw [rounds_succ]
  go_wp2_with fail
  (try (go_step3; go_wp2_with fail))
  go_quiet (fail)
  go_wp2_with fail
  rw [rounds_succ]
  go_wp2_with fail
  (try (go_step3; go_wp2_with fail))
  go_quiet (fail)
  go_wp2_with fail
  rw [rounds_succ]
  go_wp2_with fail
  rw [Exit.noGoto_ret]
  go_wp2_with fail
  (try (rw [Exit.noGoto_ret]))
  go_ret
  exact ⟨rfl, below_dN _ (Below.refl _ _)⟩
set_option maxRecDepth 100000 in
set_option maxHeartbeats 1000000 in
theorem rune_4_other (r : Int) (h : 128 ≤ r) (h2 : r ≤ 2147483647) (b0 b1 b2 b3 : UInt8) (he : ¬ r = 65533) (hrs : Hid (Utf8.encode r = ⟨#[b0, b1, b2, b3]⟩)) (HV : Hid (∀ w, Calls Tryz.prog 121 #[.int .i32 r] w fun e w' => e = .returned (.bool true) ∧ w = w')) (h128 : (128 : Int) ≤ ((b3.toNat : Nat) : Int)) (h191 : ((b3.toNat : Nat) : Int) ≤ 191) (hy : Hid (Lib.indexByte [44, 239, 187, 191] b3 = -1)) (w : World) :
    Calls Tryz.prog 104 #[.string ⟨#[32, 9, 13, 10, 44, 239, 187, 191]⟩, .int .i32 r] w fun e w' => e = .returned (.int .i64 (-1)) ∧ Below w.heap.size w w' := by
  have h0 : 0 ≤ r := by omega
  have h1 : ¬ r < 128 := by omega
  have HX : Hid (∀ w, Calls Tryz.prog 72 #[.string (⟨#[44, 239, 187, 191]⟩ : ByteArray), .int .u8 ((b3.toNat : Nat) : Int)] w fun e w' => e = .returned (.int .i64 (-1)) ∧ w = w') := Lib.hid (fun w => by
    have := Tryz.strings_IndexByte (⟨#[44, 239, 187, 191]⟩ : ByteArray) ((b3.toNat : Nat) : Int) w
    rw [show (((b3.toNat : Nat) : Int)).toNat.toUInt8 = b3 by simp, hy.out] at this
    exact this.mono fun e w' ⟨h1, h2⟩ => ⟨h1, h2.symm⟩)
  have hx : (⟨#[32, 9, 13, 10, 44, 239, 187, 191]⟩ : ByteArray).extract 4 8 = (⟨#[44, 239, 187, 191]⟩ : ByteArray) := rfl
  have hs3 : (((⟨#[32, 9, 13, 10, 44, 239, 187, 191]⟩ : ByteArray)[3]'(by decide)).toNat : Int) = 10 := rfl
  have hl1 : ¬ ((10 : Int) = ((b3.toNat : Nat) : Int)) := by omega
  obtain ⟨rs, hr⟩ : ∃ rs, Utf8.encode r = rs := ⟨_, rfl⟩
  have hz : rs.size = 4 := by rw [← hr, hrs.out]; rfl
  have e0 : ∀ hk, rs[0]'hk = b0 := by rw [← hr, hrs.out]; intro _; rfl
  have e1 : ∀ hk, rs[1]'hk = b1 := by rw [← hr, hrs.out]; intro _; rfl
  have e2 : ∀ hk, rs[2]'hk = b2 := by rw [← hr, hrs.out]; intro _; rfl
  have e3 : ∀ hk, rs[3]'hk = b3 := by rw [← hr, hrs.out]; intro _; rfl
  clear hrs
  have hwr : IntKind.i64.wrap 4 = 4 := by decide
  go_enter Tryz.func104, Tryz.ntmps104
  go_wp2_with fail
  refine (HV.out _).mono ?_; rintro e w1 ⟨rfl, rfl⟩
  go_wp2_with fail
  go_step3
  go_wp2_with fail
  refine wp_loop_rounds 3 ?_
  rw [rounds_succ]
  go_wp2_with fail
  go_step3
  go_wp2_with fail
  go_quiet (fail)
  go_wp2_with fail
  go_region_held3 (fun W => Below w.heap.size w W) (first | assumption | exact ⟨rfl, rfl, rfl, Nat.le_refl _, fun _ _ => rfl⟩) (first | (go_at_call 72; refine (HX.out _).mono ?_; rintro e w3 ⟨rfl, rfl⟩) | fail)
  rename_i hS
  go_wp2_with fail
  rw [Exit.noGoto_ret]
  go_wp2_with fail
  rw [Exit.noGoto_ret]
  go_ret
  exact ⟨rfl, hS⟩
set_option maxRecDepth 100000 in
set_option maxHeartbeats 1000000 in
theorem rune_4_187_n (r : Int) (h : 128 ≤ r) (h2 : r ≤ 2147483647) (b0 b1 b2 b3 : UInt8) (he : ¬ r = 65533) (hrs : Hid (Utf8.encode r = ⟨#[b0, b1, b2, b3]⟩)) (HV : Hid (∀ w, Calls Tryz.prog 121 #[.int .i32 r] w fun e w' => e = .returned (.bool true) ∧ w = w')) (h128 : (128 : Int) ≤ ((b3.toNat : Nat) : Int)) (h191 : ((b3.toNat : Nat) : Int) ≤ 191) (hy : b3 = 187) (k0 : ¬ ((239 : Int) = ((b2.toNat : Nat) : Int))) (w : World) :
    Calls Tryz.prog 104 #[.string ⟨#[32, 9, 13, 10, 44, 239, 187, 191]⟩, .int .i32 r] w fun e w' => e = .returned (.int .i64 (-1)) ∧ Below w.heap.size w w' := by
  have h0 : 0 ≤ r := by omega
  have h1 : ¬ r < 128 := by omega
  subst hy
  have HX : Hid (∀ w, Calls Tryz.prog 72 #[.string (⟨#[44, 239, 187, 191]⟩ : ByteArray), .int .u8 187] w fun e w' => e = .returned (.int .i64 2) ∧ w = w') := Lib.hid (fun w => (Tryz.strings_IndexByte (⟨#[44, 239, 187, 191]⟩ : ByteArray) 187 w).mono fun e w' ⟨h1, h2⟩ => ⟨h1, h2.symm⟩)
  have hx : (⟨#[32, 9, 13, 10, 44, 239, 187, 191]⟩ : ByteArray).extract 4 8 = (⟨#[44, 239, 187, 191]⟩ : ByteArray) := rfl
  have hs3 : (((⟨#[32, 9, 13, 10, 44, 239, 187, 191]⟩ : ByteArray)[3]'(by decide)).toNat : Int) = 10 := rfl
  obtain ⟨rs, hr⟩ : ∃ rs, Utf8.encode r = rs := ⟨_, rfl⟩
  have hz : rs.size = 4 := by rw [← hr, hrs.out]; rfl
  have e0 : ∀ hk, rs[0]'hk = b0 := by rw [← hr, hrs.out]; intro _; rfl
  have e1 : ∀ hk, rs[1]'hk = b1 := by rw [← hr, hrs.out]; intro _; rfl
  have e2 : ∀ hk, rs[2]'hk = b2 := by rw [← hr, hrs.out]; intro _; rfl
  have e3 : ∀ hk, rs[3]'hk = 187 := by rw [← hr, hrs.out]; intro _; rfl
  clear hrs
  have hwr : IntKind.i64.wrap 4 = 4 := by decide
  go_enter Tryz.func104, Tryz.ntmps104
  go_wp2_with fail
  refine (HV.out _).mono ?_; rintro e w1 ⟨rfl, rfl⟩
  go_wp2_with fail
  go_step3
  go_wp2_with fail
  refine wp_loop_rounds 3 ?_
  rw [rounds_succ]
  go_wp2_with fail
  refine wp_scope_once 0 rfl ?_
  go_wp2_with fail
  go_quiet (fail)
  go_wp2_with fail
  go_region_held3 (fun W => Below w.heap.size w W) (first | assumption | exact ⟨rfl, rfl, rfl, Nat.le_refl _, fun _ _ => rfl⟩) (first | (go_at_call 72; refine (HX.out _).mono ?_; rintro e w3 ⟨rfl, rfl⟩) | fail)
  rename_i hS
  go_wp2_with fail
  have hq0 : (((⟨#[32, 9, 13, 10, 44, 239, 187, 191]⟩ : ByteArray)[5]'(by decide)).toNat : Int) = 239 := rfl
  refine wp_loop_rounds 5 ?_
  rw [rounds_succ]
  go_wp2_with fail
  (try (go_step3; go_wp2_with fail))
  go_quiet (fail)
  go_wp2_with fail
  go_step3
  go_wp2_with fail
  refine jump_goto ?_
  go_wp2_with fail
  go_wp2
  rw [Exit.noGoto_normal]
  go_wp2_with fail
  have hs7 : (((⟨#[32, 9, 13, 10, 44, 239, 187, 191]⟩ : ByteArray)[7]'(by decide)).toNat : Int) = 191 := rfl
  rw [rounds_succ]
  go_wp2_with fail
  go_step3
  go_wp2_with fail
  go_quiet (fail)
  go_wp2_with fail
  have hx8 : (⟨#[32, 9, 13, 10, 44, 239, 187, 191]⟩ : ByteArray).extract 8 8 = ⟨#[]⟩ := rfl
  have hwr8 : IntKind.i64.wrap 8 = 8 := by decide
  have HX0 : Hid (∀ w, Calls Tryz.prog 72 #[.string ⟨#[]⟩, .int .u8 187] w fun e w' => e = .returned (.int .i64 (-1)) ∧ w = w') := Lib.hid (fun w => (Tryz.strings_IndexByte ⟨#[]⟩ 187 w).mono fun e w' ⟨h1, h2⟩ => ⟨h1, h2.symm⟩)
  clear hS
  go_region_held3 (fun W => Below w.heap.size w W) (first | assumption | exact ⟨rfl, rfl, rfl, Nat.le_refl _, fun _ _ => rfl⟩) (first | (go_at_call 72; refine (HX0.out _).mono ?_; rintro e w3 ⟨rfl, rfl⟩) | fail)
  rename_i hS
  go_wp2_with fail
  rw [Exit.noGoto_ret]
  go_wp2_with fail
  (try (rw [Exit.noGoto_ret]))
  go_ret
  exact ⟨rfl, below_dN _ (Below.refl _ _)⟩
set_option maxRecDepth 100000 in
set_option maxHeartbeats 1000000 in
theorem rune_4_191_n (r : Int) (h : 128 ≤ r) (h2 : r ≤ 2147483647) (b0 b1 b2 b3 : UInt8) (he : ¬ r = 65533) (hrs : Hid (Utf8.encode r = ⟨#[b0, b1, b2, b3]⟩)) (HV : Hid (∀ w, Calls Tryz.prog 121 #[.int .i32 r] w fun e w' => e = .returned (.bool true) ∧ w = w')) (h128 : (128 : Int) ≤ ((b3.toNat : Nat) : Int)) (h191 : ((b3.toNat : Nat) : Int) ≤ 191) (hy : b3 = 191) (k0 : ¬ ((187 : Int) = ((b2.toNat : Nat) : Int))) (w : World) :
    Calls Tryz.prog 104 #[.string ⟨#[32, 9, 13, 10, 44, 239, 187, 191]⟩, .int .i32 r] w fun e w' => e = .returned (.int .i64 (-1)) ∧ Below w.heap.size w w' := by
  have h0 : 0 ≤ r := by omega
  have h1 : ¬ r < 128 := by omega
  subst hy
  have HX : Hid (∀ w, Calls Tryz.prog 72 #[.string (⟨#[44, 239, 187, 191]⟩ : ByteArray), .int .u8 191] w fun e w' => e = .returned (.int .i64 3) ∧ w = w') := Lib.hid (fun w => (Tryz.strings_IndexByte (⟨#[44, 239, 187, 191]⟩ : ByteArray) 191 w).mono fun e w' ⟨h1, h2⟩ => ⟨h1, h2.symm⟩)
  have hx : (⟨#[32, 9, 13, 10, 44, 239, 187, 191]⟩ : ByteArray).extract 4 8 = (⟨#[44, 239, 187, 191]⟩ : ByteArray) := rfl
  have hs3 : (((⟨#[32, 9, 13, 10, 44, 239, 187, 191]⟩ : ByteArray)[3]'(by decide)).toNat : Int) = 10 := rfl
  obtain ⟨rs, hr⟩ : ∃ rs, Utf8.encode r = rs := ⟨_, rfl⟩
  have hz : rs.size = 4 := by rw [← hr, hrs.out]; rfl
  have e0 : ∀ hk, rs[0]'hk = b0 := by rw [← hr, hrs.out]; intro _; rfl
  have e1 : ∀ hk, rs[1]'hk = b1 := by rw [← hr, hrs.out]; intro _; rfl
  have e2 : ∀ hk, rs[2]'hk = b2 := by rw [← hr, hrs.out]; intro _; rfl
  have e3 : ∀ hk, rs[3]'hk = 191 := by rw [← hr, hrs.out]; intro _; rfl
  clear hrs
  have hwr : IntKind.i64.wrap 4 = 4 := by decide
  go_enter Tryz.func104, Tryz.ntmps104
  go_wp2_with fail
  refine (HV.out _).mono ?_; rintro e w1 ⟨rfl, rfl⟩
  go_wp2_with fail
  go_step3
  go_wp2_with fail
  refine wp_loop_rounds 3 ?_
  rw [rounds_succ]
  go_wp2_with fail
  refine wp_scope_once 0 rfl ?_
  go_wp2_with fail
  go_quiet (fail)
  go_wp2_with fail
  go_region_held3 (fun W => Below w.heap.size w W) (first | assumption | exact ⟨rfl, rfl, rfl, Nat.le_refl _, fun _ _ => rfl⟩) (first | (go_at_call 72; refine (HX.out _).mono ?_; rintro e w3 ⟨rfl, rfl⟩) | fail)
  rename_i hS
  go_wp2_with fail
  have hq0 : (((⟨#[32, 9, 13, 10, 44, 239, 187, 191]⟩ : ByteArray)[6]'(by decide)).toNat : Int) = 187 := rfl
  refine wp_loop_rounds 5 ?_
  rw [rounds_succ]
  go_wp2_with fail
  (try (go_step3; go_wp2_with fail))
  go_quiet (fail)
  go_wp2_with fail
  go_step3
  go_wp2_with fail
  refine jump_goto ?_
  go_wp2_with fail
  go_wp2
  rw [Exit.noGoto_normal]
  go_wp2_with fail
  rw [rounds_succ]
  go_wp2_with fail
  rw [Exit.noGoto_ret]
  go_wp2_with fail
  (try (rw [Exit.noGoto_ret]))
  go_ret
  exact ⟨rfl, below_dN _ (Below.refl _ _)⟩
set_option maxRecDepth 100000 in
set_option maxHeartbeats 1000000 in
theorem rune_4_191_yn (r : Int) (h : 128 ≤ r) (h2 : r ≤ 2147483647) (b0 b1 b2 b3 : UInt8) (he : ¬ r = 65533) (hrs : Hid (Utf8.encode r = ⟨#[b0, b1, b2, b3]⟩)) (HV : Hid (∀ w, Calls Tryz.prog 121 #[.int .i32 r] w fun e w' => e = .returned (.bool true) ∧ w = w')) (h128 : (128 : Int) ≤ ((b3.toNat : Nat) : Int)) (h191 : ((b3.toNat : Nat) : Int) ≤ 191) (hy : b3 = 191) (k0 : b2 = 187) (k1 : ¬ ((239 : Int) = ((b1.toNat : Nat) : Int))) (w : World) :
    Calls Tryz.prog 104 #[.string ⟨#[32, 9, 13, 10, 44, 239, 187, 191]⟩, .int .i32 r] w fun e w' => e = .returned (.int .i64 (-1)) ∧ Below w.heap.size w w' := by
  have h0 : 0 ≤ r := by omega
  have h1 : ¬ r < 128 := by omega
  subst hy
  subst k0
  have HX : Hid (∀ w, Calls Tryz.prog 72 #[.string (⟨#[44, 239, 187, 191]⟩ : ByteArray), .int .u8 191] w fun e w' => e = .returned (.int .i64 3) ∧ w = w') := Lib.hid (fun w => (Tryz.strings_IndexByte (⟨#[44, 239, 187, 191]⟩ : ByteArray) 191 w).mono fun e w' ⟨h1, h2⟩ => ⟨h1, h2.symm⟩)
  have hx : (⟨#[32, 9, 13, 10, 44, 239, 187, 191]⟩ : ByteArray).extract 4 8 = (⟨#[44, 239, 187, 191]⟩ : ByteArray) := rfl
  have hs3 : (((⟨#[32, 9, 13, 10, 44, 239, 187, 191]⟩ : ByteArray)[3]'(by decide)).toNat : Int) = 10 := rfl
  obtain ⟨rs, hr⟩ : ∃ rs, Utf8.encode r = rs := ⟨_, rfl⟩
  have hz : rs.size = 4 := by rw [← hr, hrs.out]; rfl
  have e0 : ∀ hk, rs[0]'hk = b0 := by rw [← hr, hrs.out]; intro _; rfl
  have e1 : ∀ hk, rs[1]'hk = b1 := by rw [← hr, hrs.out]; intro _; rfl
  have e2 : ∀ hk, rs[2]'hk = 187 := by rw [← hr, hrs.out]; intro _; rfl
  have e3 : ∀ hk, rs[3]'hk = 191 := by rw [← hr, hrs.out]; intro _; rfl
  clear hrs
  have hwr : IntKind.i64.wrap 4 = 4 := by decide
  go_enter Tryz.func104, Tryz.ntmps104
  go_wp2_with fail
  refine (HV.out _).mono ?_; rintro e w1 ⟨rfl, rfl⟩
  go_wp2_with fail
  go_step3
  go_wp2_with fail
  refine wp_loop_rounds 3 ?_
  rw [rounds_succ]
  go_wp2_with fail
  refine wp_scope_once 0 rfl ?_
  go_wp2_with fail
  go_quiet (fail)
  go_wp2_with fail
  go_region_held3 (fun W => Below w.heap.size w W) (first | assumption | exact ⟨rfl, rfl, rfl, Nat.le_refl _, fun _ _ => rfl⟩) (first | (go_at_call 72; refine (HX.out _).mono ?_; rintro e w3 ⟨rfl, rfl⟩) | fail)
  rename_i hS
  go_wp2_with fail
  have hq0 : (((⟨#[32, 9, 13, 10, 44, 239, 187, 191]⟩ : ByteArray)[6]'(by decide)).toNat : Int) = 187 := rfl
  have hq1 : (((⟨#[32, 9, 13, 10, 44, 239, 187, 191]⟩ : ByteArray)[5]'(by decide)).toNat : Int) = 239 := rfl
  refine wp_loop_rounds 5 ?_
  rw [rounds_succ]
  go_wp2_with fail
  (try (go_step3; go_wp2_with fail))
  go_quiet (fail)
  go_wp2_with fail
  rw [rounds_succ]
  go_wp2_with fail
  (try (go_step3; go_wp2_with fail))
  go_quiet (fail)
  go_wp2_with fail
  go_step3
  go_wp2_with fail
  refine jump_goto ?_
  go_wp2_with fail
  go_wp2
  rw [Exit.noGoto_normal]
  go_wp2_with fail
  rw [rounds_succ]
  go_wp2_with fail
  rw [Exit.noGoto_ret]
  go_wp2_with fail
  (try (rw [Exit.noGoto_ret]))
  go_ret
  exact ⟨rfl, below_dN _ (Below.refl _ _)⟩
end Go.Proofs.YtgaknbnhmoddcaaGreatDoor
namespace Go.Proofs.YtgaknbnhmoddcaaGreatDoor
open Go.RowKit
def hidB : List UInt8 := [32, 9, 13, 10, 44]
theorem set_arr : Tryz.prog.underlying 166 = some (.array 256 4) := by kernel_rfl
theorem set_size : (Tryz.prog.info? 166).map (·.size) = some 256 := by kernel_rfl
theorem set_zero (w : World) : (zeroValue 166).run Tryz.prog w = .ok (.agg (Array.replicate 256 (.bool false))) w := by kernel_rfl
set_option maxHeartbeats 4000000 in
set_option maxRecDepth 1000000 in
theorem set_none (w : World) : Calls Tryz.prog 100 #[.string ⟨#[32, 9, 13, 10, 44, 239, 187, 191]⟩] w fun e w' => e = .returned (.tuple #[.agg (Lib.setCells hidB), .bool false]) ∧ w' = w.alloc (.cells (Lib.setCells hidB) 166) := by
  have hv116 := set_zero
  obtain ⟨chars, hch⟩ : ∃ chars : ByteArray, (⟨#[32, 9, 13, 10, 44, 239, 187, 191]⟩ : ByteArray) = chars := ⟨_, rfl⟩
  have hs : chars.size = 8 := by rw [← hch]; rfl
  have HG : Hid (∀ i (h : i < 5), ∃ x : UInt8, chars[i]'(by omega) = x ∧ (x.toNat : Int) < 128 ∧ hidB.take (i + 1) = hidB.take i ++ [x]) := Lib.hid (by
    subst hch
    intro i h
    match i, h with
    | 0, _ => exact ⟨32, rfl, by decide, rfl⟩
    | 1, _ => exact ⟨9, rfl, by decide, rfl⟩
    | 2, _ => exact ⟨13, rfl, by decide, rfl⟩
    | 3, _ => exact ⟨10, rfl, by decide, rfl⟩
    | 4, _ => exact ⟨44, rfl, by decide, rfl⟩)
  have HG5 : Hid (∀ h, ((chars[5]'h).toNat : Int) = 239) := Lib.hid (by subst hch; intro h; rfl)
  rw [hch]
  clear hch
  go_enter Tryz.func100, Tryz.ntmps100
  go_wp2
  rw [← Lib.setCells_nil]
  go_loopg [4] 5 (fun g s4 wx => ∃ i : Nat, i + g = 5 ∧ s4 = .int .i64 i ∧ wx = w.alloc (.cells (Lib.setCells (hidB.take i)) 166))
  case atStart => exact ⟨0, by omega, rfl, rfl⟩
  case round =>
    obtain ⟨i, hig, rfl, rfl⟩ := hrel
    cases gk with
    | zero =>
      obtain rfl : i = 5 := by omega
      have hiz : ((5 : Int) < (chars.size : Int)) := by omega
      have h239 := HG5.out (by omega)
      have hge : (128 : Int) ≤ ((chars[5]'(by omega)).toNat : Int) := by omega
      clear h239
      rw [show hidB.take 5 = hidB from rfl]
      have hld := run_loadVar_new (P := Tryz.prog) w 166 (Lib.setCells hidB) 256 4 set_arr (by rw [Lib.setCells_size]; exact set_size)
      have hsz := Lib.setCells_size hidB
      have hi2 : (Tryz.prog.info? 166).map (·.size) = some (Lib.setCells hidB).size := by rw [hsz]; exact set_size
      have hsc := run_storeCells_new (P := Tryz.prog) w 166 (Lib.setCells hidB) (Lib.setCells hidB) hi2 rfl (Lib.setCells_one _)
      clear hsz
      go_wp2
      refine wp_load_row _ _ rfl w.heap.size rfl _ (Lib.setCells hidB) (0, 0) _ (heap_alloc_last _ _) set_arr rfl hi2 ?_
      go_wp2
      (try (rw [Oper.upon_skip]; go_wp2))
      (try simp only [Exit.inBlock, Exit.then])
      refine bodyPost_ret (v := .tuple #[.agg (Lib.setCells hidB), .bool false]) ?_ rfl ⟨rfl, rfl⟩
      rw [results_cell_tmp rfl]
      simp [asAddr, Result.andThen, hld]
    | succ g =>
      have hi : i < chars.size := by omega
      have hiz : (i : Int) < (chars.size : Int) := by omega
      obtain ⟨x, hx, hlt, HT⟩ := HG.out i (by omega)
      have hx128 : ¬ ((128 : Int) ≤ (x.toNat : Int)) := by omega
      have hx256 : (x.toNat : Int) < 256 := by omega
      have hcell := Lib.setCells_at (hidB.take i) x
      have HT := Lib.hid HT
      go_wp2
      go_roundg g
      case measure => omega
      case rel => exact ⟨i + 1, by omega, by first | rfl | simp, by rw [HT.out, Lib.setCells_snoc]⟩
end Go.Proofs.YtgaknbnhmoddcaaGreatDoor
namespace Go.Proofs.YtgaknbnhmoddcaaGreatDoor
open Go.Lib
/-- Is a rune one of those that count for nothing? -/
def setC (r : Nat) : Bool := r == 32 || r == 9 || r == 13 || r == 10 || r == 44 || r == 65279
theorem decode_high (c : UInt8) (r : List UInt8) (h : 128 ≤ c.toNat) : 128 ≤ (decodeL (c :: r)).1 := by
  by_cases hv : (decodeL (c :: r)).1 = 65533 ∧ (decodeL (c :: r)).2 = 1
  · omega
  · obtain ⟨g1, g2, g3, g4⟩ := one_decode (c :: r) (by simp) hv
    unfold oneB at g1
    simp only [Bool.and_eq_true, decide_eq_true_eq, beq_iff_eq] at g1
    rw [g2] at g1
    by_cases hp : (decodeL (c :: r)).1 < 128
    · exfalso
      have he := g1.2.2
      obtain ⟨j, hj⟩ : ∃ j, (decodeL (c :: r)).2 = j + 1 := ⟨(decodeL (c :: r)).2 - 1, by omega⟩
      rw [hj, List.take_succ_cons] at he
      unfold encN at he
      rw [if_pos hp] at he
      injection he with he _
      rw [← he, ofN _ (by omega)] at h
      omega
    · omega
theorem bom_decode (l : List UInt8) : (bomL.isPrefixOf l = true → decodeL l = (65279, 3)) ∧ ((decodeL l).1 = 65279 → bomL.isPrefixOf l = true) := by
  have he : encN 65279 = bomL := by decide +kernel
  constructor
  · intro h
    obtain ⟨z, rfl⟩ := List.isPrefixOf_iff_prefix.1 h
    have := decode_enc 65279 (by decide) z
    rw [he] at this
    exact this
  · intro h
    have hne : l ≠ [] := by
      intro e
      subst e
      exact absurd h (by decide +kernel)
    obtain ⟨g1, g2, g3, g4⟩ := one_decode l hne (fun hh => by rw [h] at hh; exact absurd hh.1 (by decide))
    unfold oneB at g1
    simp only [Bool.and_eq_true, decide_eq_true_eq, beq_iff_eq] at g1
    rw [g2, h] at g1
    have h2 := g1.2.2
    rw [he] at h2
    exact List.isPrefixOf_iff_prefix.2 ⟨l.drop (decodeL l).2, by rw [h2, List.take_append_drop]⟩
/-- One step of the trimming. -/
theorem hid_rune (c : UInt8) (r : List UInt8) : hid0 (c :: r) = if setC (decodeL (c :: r)).1 then hid0 ((c :: r).drop (decodeL (c :: r)).2) else c :: r := by
  rw [hid_cons]
  by_cases h128 : c.toNat < 128
  · rw [decode_ascii c r h128]
    have hpre : bomL.isPrefixOf (c :: r) = false := by
      have : ((239 : UInt8) == c) = false := beq_eq_false_iff_ne.2 (fun e => by rw [← e] at h128; exact absurd h128 (by decide))
      simp [bomL, List.isPrefixOf, this]
    have hs : setC c.toNat = hidC c := by
      have hall := (by decide +kernel : ∀ i : Fin 256, i.val < 128 → (setC (UInt8.ofNat i.val).toNat = hidC (UInt8.ofNat i.val))) ⟨c.toNat, UInt8.toNat_lt c⟩ h128
      simpa only [UInt8.ofNat_toNat] using hall
    rw [hpre, hs]
    simp only [Bool.false_eq_true, if_false, List.drop_succ_cons, List.drop_zero]
  · have hc : hidC c = false := by
      have hall := (by decide +kernel : ∀ i : Fin 256, ¬ i.val < 128 → hidC (UInt8.ofNat i.val) = false) ⟨c.toNat, UInt8.toNat_lt c⟩ h128
      simpa only [UInt8.ofNat_toNat] using hall
    rw [hc]
    simp only [Bool.false_eq_true, if_false]
    have hh := decode_high c r (by omega)
    obtain ⟨b1, b2⟩ := bom_decode (c :: r)
    by_cases hb : bomL.isPrefixOf (c :: r) = true
    · rw [if_pos hb, b1 hb, if_pos (by decide)]
    · rw [if_neg hb, if_neg]
      intro hs
      unfold setC at hs
      simp only [Bool.or_eq_true, beq_iff_eq] at hs
      rcases hs with ((((e | e) | e) | e) | e) | e
      · omega
      · omega
      · omega
      · omega
      · omega
      · exact hb (b2 e)
end Go.Proofs.YtgaknbnhmoddcaaGreatDoor
namespace Go.Proofs.YtgaknbnhmoddcaaGreatDoor
open Go.RowKit
theorem holds_one (l : List UInt8) (c : UInt8) : decide (0 ≤ Lib.indexByte l c) = l.contains c := by
  rcases ib_cases c l with ⟨h1, k, h2⟩ | ⟨h1, h2⟩
  · rw [h1, h2]; simp
  · rw [h1, h2]; rfl
theorem decode_width (s : ByteArray) (i : Nat) (h : i < s.size) : (1 < (Utf8.decode s i).2 → 128 ≤ (s.get! (i + 1)).toNat) ∧ (2 < (Utf8.decode s i).2 → 128 ≤ (s.get! (i + 2)).toNat) ∧ (3 < (Utf8.decode s i).2 → 128 ≤ (s.get! (i + 3)).toNat) ∧ (Utf8.decode s i).2 ≤ 4 ∧ i + (Utf8.decode s i).2 ≤ s.size := by
  simp only [Utf8.decode]
  repeat' split
  all_goals simp_all [Utf8.runeError]
  all_goals omega
theorem get_bang (s : ByteArray) (j : Nat) (h : j < s.size) : s.get! j = s[j]'h := by
  simp [ByteArray.get!, getElem!_pos, h]
  rfl
theorem noAny_span (s : ByteArray) (i : Nat) (h : i < s.size) (ha : 128 ≤ (s[i]'h).toNat) (hn : Lib.NoAny s.data.toList [13, 10] i) : Lib.NoAny s.data.toList [13, 10] (i + (Utf8.decode s i).2) := by
  obtain ⟨w1, w2, w3, w4, w5⟩ := decode_width s i h
  intro j b hj hb
  by_cases hji : j < i
  · exact hn j b hji hb
  · have hjs : j < s.size := by omega
    have hbj : s[j]'hjs = b := by
      have : s.data.toList[j]? = some (s[j]'hjs) := by
        rw [List.getElem?_eq_getElem (by rw [Array.length_toList]; exact hjs)]; rfl
      rw [this] at hb
      exact Option.some.inj hb
    have h128 : 128 ≤ b.toNat := by
      rw [← hbj]
      obtain ⟨k, rfl⟩ : ∃ k, j = i + k := ⟨j - i, by omega⟩
      have hk : k = 0 ∨ k = 1 ∨ k = 2 ∨ k = 3 := by omega
      rcases hk with rfl | rfl | rfl | rfl
      · exact ha
      · have := w1 (by omega); rw [get_bang _ _ hjs] at this; exact this
      · have := w2 (by omega); rw [get_bang _ _ hjs] at this; exact this
      · have := w3 (by omega); rw [get_bang _ _ hjs] at this; exact this
    cases q : ([13, 10] : List UInt8).contains b
    · rfl
    · rw [List.contains_iff_mem] at q
      simp only [List.mem_cons, List.not_mem_nil, or_false] at q
      rcases q with q | q <;> (rw [q] at h128; exact absurd h128 (by decide))
/-- The string's iterator stands at a place; nothing older has turned. -/
def It (s : ByteArray) (B i : Nat) (w W : World) : Prop := W.heap[B]? = some (.stringIter s i) ∧ B < W.heap.size ∧ Below B w W
theorem It.start (s : ByteArray) (w : World) : It s w.heap.size 0 w (w.iter s 0) := by
  refine ⟨heap_alloc_new w _, ?_, ?_⟩
  · unfold World.iter; simp
  · unfold World.iter; exact (Below.refl _ _).alloc (Nat.le_refl _) _
theorem It.step {s : ByteArray} {B i : Nat} {w W : World} (h : It s B i w W) (j : Nat) : It s B j w (W.iterAt B s j) :=
  ⟨Lib.iterAt_heap W B s i j h.1, by rw [Lib.iterAt_size]; exact h.2.1, Lib.below_iterAt h.2.2 (Nat.le_refl _) s j⟩
theorem It.below {s : ByteArray} {B i : Nat} {w W w1 : World} (h : It s B i w W) (hB : B = w.heap.size) (hb : Below W.heap.size W w1) : It s B i w w1 :=
  ⟨(hb.block _ h.2.1).trans h.1, Nat.lt_of_lt_of_le h.2.1 hb.size, h.2.2.trans (hb.mono (Nat.le_of_lt h.2.1))⟩
set_option maxRecDepth 100000 in
theorem any_short (s : ByteArray) (h8 : s.size ≤ 8) (w : World) :
    Calls Tryz.prog 78 #[.string s, .string ⟨#[13, 10]⟩] w fun e w' => e = .returned (.int .i64 (Lib.indexAny s.data.toList [13, 10])) ∧ Below w.heap.size w w' := by
  have h8z : decide ((8 : Int) < (s.size : Int)) = false := decide_eq_false (by omega)
  have HU := Lib.hid (fun (n : Int) (w : World) => Any.strings_shouldUseASCIISet { Tryz.lays153 with } n w)
  obtain ⟨r, hr⟩ : ∃ r, Lib.indexAny s.data.toList [13, 10] = r := ⟨_, rfl⟩
  have HR := Lib.hid hr
  rw [hr]
  clear hr
  go_enter Tryz.func78, Tryz.ntmps78
  go_wp2_with fail
  refine (HU.out _ _).mono ?_; rintro e w1 ⟨rfl, rfl⟩
  go_wp2_with fail
  have HS := It.start s w1
  obtain ⟨W, hW⟩ : ∃ W, w1.iter s 0 = W := ⟨_, rfl⟩
  rw [hW] at HS
  rw [hW]
  have HS2 := Lib.hid HS
  clear hW HS
  go_loopg [9, 10] s.size (fun g _ _ wx => ∃ i : Nat, i + g = s.size ∧ Hid (It s w1.heap.size i w1 wx) ∧ Hid (Lib.NoAny s.data.toList [13, 10] i))
  case atStart => exact ⟨0, by omega, HS2, Lib.hid (Lib.NoAny.zero _ _)⟩
  case round =>
    rename World => wo
    obtain ⟨i, hig, HT, HN⟩ := hrel
    by_cases hi : i < s.size
    · have hnx := fun ty => Lib.run_next_any_at (P := Tryz.prog) wo w1.heap.size s i ty HT.out.1 hi
      by_cases ha : (s[i]'hi).toNat < 128
      · rw [Go.decode_ascii s i hi ha] at hnx
        obtain ⟨x, hx⟩ : ∃ x : UInt8, s[i]'hi = x := ⟨_, rfl⟩
        simp only [hx] at hnx ha
        have hxl : s.data.toList[i]? = some x := by
          rw [← hx, List.getElem?_eq_getElem (by rw [Array.length_toList]; exact hi)]; rfl
        have HL := Lib.hid hxl
        have HI := Lib.hid (fun w => Tryz.strings_IndexRune_ascii ⟨#[13, 10]⟩ (x.toNat : Int) w (by omega) (by omega))
        have hback : ((x.toNat : Int)).toNat.toUInt8 = x := by simp
        rw [hback, show (⟨#[13, 10]⟩ : ByteArray).data.toList = [13, 10] from rfl] at HI
        clear hx hxl hback
        have HT2 := Lib.hid (HT.out.step (i + 1))
        have hcon := holds_one [13, 10] x
        cases hin : ([13, 10] : List UInt8).contains x with
        | false =>
          rw [hin] at hcon
          have hlt : Lib.indexByte [13, 10] x < 0 := by simpa using hcon
          have HN2 := Lib.hid (HN.out.succ HL.out hin)
          clear hcon hin
          generalize Lib.indexByte [13, 10] x = q at *
          obtain ⟨g, rfl⟩ : ∃ g, gk = g + 1 := ⟨gk - 1, by omega⟩
          go_wp2_with fail
          refine (HI.out _).mono ?_; rintro e w2 ⟨rfl, rfl⟩
          go_wp2_with fail
          go_roundg g
          case measure => omega
          case rel => exact ⟨i + 1, by omega, HT2, HN2⟩
        | true =>
          rw [hin] at hcon
          have hge : 0 ≤ Lib.indexByte [13, 10] x := by simpa using hcon
          have HF : Hid ((i : Int) = r) := Lib.hid (by rw [← HR.out]; exact (Lib.indexAny_hit HN.out HL.out hin).symm)
          clear hcon hin
          generalize Lib.indexByte [13, 10] x = q at *
          go_wp2_with fail
          refine (HI.out _).mono ?_; rintro e w2 ⟨rfl, rfl⟩
          go_wp2_with fail
          go_ret
          exact ⟨ret_i HF.out, HT2.out.2.2⟩
      · have hd := Go.decode_high s i hi (by omega)
        have hle := decode_le s i
        have hwd := (decode_width s i hi).2.2.2.2
        have HN2 := Lib.hid (noAny_span s i hi (by omega) HN.out)
        have HT2 := Lib.hid (HT.out.step (i + (Utf8.decode s i).2))
        clear HN ha
        obtain ⟨d1, d2⟩ := hd
        generalize (Utf8.decode s i).1 = c at *
        generalize (Utf8.decode s i).2 = k at *
        have HI := Lib.hid (fun w => rune_none (c : Int) (by omega) (by omega) w)
        obtain ⟨g, rfl⟩ : ∃ g, gk = g + k := ⟨gk - k, by omega⟩
        go_wp2_with fail
        refine (HI.out _).mono ?_; rintro e w2 ⟨rfl, hb⟩
        have HT3 := Lib.hid (HT2.out.below rfl hb)
        clear hb
        go_wp2_with fail
        go_roundg g
        case measure => omega
        case rel => exact ⟨i + k, by omega, HT3, HN2⟩
    · obtain rfl : i = s.size := by omega
      have hnx := fun ty => Lib.run_next_end_at (P := Tryz.prog) wo w1.heap.size s s.size ty HT.out.1 (Nat.lt_irrefl _)
      have HF : Hid ((-1 : Int) = r) := Lib.hid (by rw [← HR.out]; exact (Lib.indexAny_none (by rw [len_z]; exact HN.out)).symm)
      go_wp2_with fail
      go_ret
      exact ⟨ret_i HF.out, HT.out.2.2⟩
theorem any_any (s : ByteArray) (hs : s.size ≤ 1000000) (w : World) :
    Calls Tryz.prog 78 #[.string s, .string ⟨#[13, 10]⟩] w fun e w' => e = .returned (.int .i64 (Lib.indexAny s.data.toList [13, 10])) ∧ Below w.heap.size w w' := by
  rcases Nat.lt_or_ge 8 s.size with h | h
  · refine (Tryz.strings_IndexAny_long (fun _ => by kernel_rfl) s ⟨#[13, 10]⟩ w (by decide) h (by omega) (by decide) (ascii_of_all (by decide))).mono ?_
    rintro e w' ⟨he, rfl⟩
    exact ⟨he, ((Below.refl _ _).alloc (Nat.le_refl _) _).alloc (by simp) _⟩
  · exact any_short s h w
end Go.Proofs.YtgaknbnhmoddcaaGreatDoor
namespace Go.Proofs.YtgaknbnhmoddcaaGreatDoor
open Go.RowKit
def fr (ms l : List UInt8) : List UInt8 := l.takeWhile (ms.contains ·)
theorem fr_take (ms l : List UInt8) : l.take (fr ms l).length = fr ms l := by
  unfold fr
  induction l with
  | nil => rfl
  | cons a l ih =>
    rw [List.takeWhile_cons]
    split
    · simp only [List.length_cons, List.take_succ_cons]; rw [ih]
    · rfl
set_option maxRecDepth 100000 in
set_option maxHeartbeats 1000000 in
theorem front_any (s ms : ByteArray) (hs : s.size ≤ 1000000) (w : World) :
    Calls Tryz.prog 73 #[.string s, .string ms] w fun e w' => e = .returned (.string ⟨(fr ms.data.toList s.data.toList).toArray⟩) ∧ w = w' := by
  obtain ⟨R, hR⟩ : ∃ R, (fr ms.data.toList s.data.toList).length = R := ⟨_, rfl⟩
  have ht := fr_take ms.data.toList s.data.toList
  rw [hR] at ht
  have HT := Lib.hid ht
  have HR : Hid (0 + (fr ms.data.toList (s.data.toList.drop 0)).length = R) := Lib.hid (by rw [List.drop_zero, Nat.zero_add]; exact hR)
  rw [← ht]
  clear hR ht
  go_enter Tryz.func73, Tryz.ntmps73
  go_wp2_with fail
  go_loop [8] (fun i => ∃ k : Nat, k ≤ s.size ∧ i = .int .i64 k ∧ Hid (k + (fr ms.data.toList (s.data.toList.drop k)).length = R)) (fun i => s.size - (intOf i).toNat)
  case atStart => exact ⟨0, Nat.zero_le _, rfl, HR⟩
  case round =>
    obtain ⟨k, hk, rfl, HK⟩ := hrel
    by_cases hlt : k < s.size
    · have hd := drop_at s k hlt
      have H1 : ∀ w, Calls Tryz.prog 72 #[.string ms, .int .u8 (s[k].toNat : Int)] w fun e w' => e = .returned (.int .i64 (Lib.indexByte ms.data.toList s[k])) ∧ w = w' := fun w => by
        have := Tryz.strings_IndexByte ms (s[k].toNat : Int) w
        rw [show ((s[k].toNat : Int)).toNat.toUInt8 = s[k] by simp] at this
        exact this.mono fun e w' ⟨h1, h2⟩ => ⟨h1, h2.symm⟩
      have hf : fr ms.data.toList (s.data.toList.drop k) = if ms.data.toList.contains s[k] then s[k] :: fr ms.data.toList (s.data.toList.drop (k + 1)) else [] := by
        rw [hd]; unfold fr; rw [List.takeWhile_cons]
      rcases ib_cases s[k] ms.data.toList with ⟨g1, n, g2⟩ | ⟨g1, g2⟩
      · rw [g1] at hf
        rw [g2] at H1
        have HK2 : Hid (k + 1 + (fr ms.data.toList (s.data.toList.drop (k + 1))).length = R) := Lib.hid (by have := HK.out; rw [hf] at this; simp at this; omega)
        have HI := Lib.hid H1
        have hn : ¬ (n : Int) < 0 := by omega
        clear hf H1 g1 g2 hd
        go_wp2_with fail
        refine (HI.out _).mono ?_; rintro e w1 ⟨rfl, rfl⟩
        go_wp2_with fail
        go_round
        case rel => exact ⟨k + 1, by omega, by go_num, HK2⟩
        case measure => simp [intOf]; omega
      · rw [g1] at hf
        rw [g2] at H1
        have HK2 : Hid (k = R) := Lib.hid (by have := HK.out; rw [hf] at this; simpa using this)
        have HI := Lib.hid H1
        have b1 : (k : Int) ≤ s.size := by omega
        have b2 : (0 : Int) ≤ k := by omega
        have HX : Hid (s.extract 0 k = ⟨(s.data.toList.take R).toArray⟩) := Lib.hid (by
          rw [← HK2.out]
          apply ByteArray.ext
          apply Array.ext'
          rw [ByteArray.data_extract, Array.toList_extract, List.extract_eq_take_drop]
          simp)
        clear hf H1 g1 g2 hd
        go_wp2_with fail
        refine (HI.out _).mono ?_; rintro e w1 ⟨rfl, rfl⟩
        go_wp2_with fail
        go_ret
        exact ⟨congrArg (fun z : ByteArray => Ending.returned (Value.string z)) HX.out, rfl⟩
    · have HX : Hid (s = ⟨(s.data.toList.take R).toArray⟩) := Lib.hid (by
        have := HK.out
        rw [List.drop_of_length_le (by rw [Array.length_toList]; exact Nat.le_of_not_lt hlt)] at this
        have hRs : s.size ≤ R := by simp [fr] at this; omega
        rw [List.take_of_length_le (by rw [Array.length_toList]; exact hRs)])
      go_wp2_with fail
      go_ret
      exact ⟨congrArg (fun z : ByteArray => Ending.returned (Value.string z)) HX.out, rfl⟩
end Go.Proofs.YtgaknbnhmoddcaaGreatDoor
namespace Go.Proofs.YtgaknbnhmoddcaaGreatDoor
open Go.RowKit
theorem fr_all (ms l : List UInt8) : (fr ms l == l) = l.all (ms.contains ·) := by
  unfold fr
  induction l with
  | nil => rfl
  | cons a l ih =>
    rw [List.takeWhile_cons, List.all_cons]
    cases ms.contains a with
    | true => simpa using ih
    | false => rfl
set_option maxRecDepth 100000 in
set_option maxHeartbeats 1000000 in
theorem lname_any (s : ByteArray) (hs : s.size ≤ 1000000) (w : World) :
    Calls Tryz.prog 38 #[.string s] w fun e w' => e = .returned (.bool (nameB s.data.toList)) ∧ w = w' := by
  rcases empty_z s with ⟨h0, h1, h2, h3⟩ | ⟨h0, h1, h2, h3⟩
  · have hr : nameB s.data.toList = (!isDig s[0] && (fr nameMs s.data.toList == s.data.toList)) := by
      rw [fr_all, show (nameMs.contains ·) = nameC from funext name_ms]
      have := head_z s h0
      rw [this]; rfl
    have H1 : ∀ w, Calls Tryz.prog 72 #[.string ⟨#[48, 49, 50, 51, 52, 53, 54, 55, 56, 57]⟩, .int .u8 (s[0].toNat : Int)] w fun e w' => e = .returned (.int .i64 (if isDig s[0] then ((s[0].toNat - 48 : Nat) : Int) else -1)) ∧ w = w' := fun w => by
      have := Tryz.strings_IndexByte ⟨#[48, 49, 50, 51, 52, 53, 54, 55, 56, 57]⟩ (s[0].toNat : Int) w
      rw [show ((s[0].toNat : Int)).toNat.toUInt8 = s[0] by simp, ib_dig] at this
      exact this.mono fun e w' ⟨h1, h2⟩ => ⟨h1, h2.symm⟩
    have H2 := Lib.hid (fun w => front_any s ⟨nameMs.toArray⟩ hs w)
    obtain ⟨r, hr2⟩ : ∃ r, nameB s.data.toList = r := ⟨_, rfl⟩
    rw [hr2]
    rw [hr2] at hr
    obtain ⟨F, hF⟩ : ∃ F : ByteArray, (⟨(fr (⟨nameMs.toArray⟩ : ByteArray).data.toList s.data.toList).toArray⟩ : ByteArray) = F := ⟨_, rfl⟩
    rw [hF] at H2
    have hc : (F.toList == s.toList) = (fr nameMs s.data.toList == s.data.toList) := by rw [← hF, ByteArray.toList_eq, ByteArray.toList_eq]
    rw [← hc] at hr
    have HR := Lib.hid hr
    unfold nameMs at H2
    clear hr hr2 hF hc
    cases hd : isDig s[0] with
    | true =>
      rw [hd] at H1 HR
      simp only [if_true] at H1
      have HI := Lib.hid H1
      have HF : Hid (false = r) := Lib.hid (by rw [HR.out]; rfl)
      clear H1 HR hd
      generalize s[0].toNat - 48 = n at *
      have hn : ¬ (n : Int) < 0 := by omega
      go_enter Tryz.func38, Tryz.ntmps38
      go_wp2_with fail
      refine (HI.out _).mono ?_; rintro e w1 ⟨rfl, rfl⟩
      go_wp2_with fail
      go_ret
      exact ⟨ret_b HF.out, rfl⟩
    | false =>
      rw [hd] at H1 HR
      simp only [Bool.false_eq_true, if_false] at H1
      have HI := Lib.hid H1
      have HF : Hid ((F.toList == s.toList) = r) := Lib.hid (by rw [HR.out]; rfl)
      clear H1 HR hd
      go_enter Tryz.func38, Tryz.ntmps38
      go_wp2_with fail
      refine (HI.out _).mono ?_; rintro e w1 ⟨rfl, rfl⟩
      go_wp2_with fail
      refine (H2.out _).mono ?_; rintro e w1 ⟨rfl, rfl⟩
      go_wp2_with fail
      go_ret
      exact ⟨ret_b HF.out, rfl⟩
  · have hr : nameB s.data.toList = false := by rw [h3]; rfl
    rw [hr]
    clear h0 h3 hr
    go_enter Tryz.func38, Tryz.ntmps38
    go_wp2_with fail
    go_ret
    exact ⟨rfl, rfl⟩
theorem dig_ms (c : UInt8) : ([48, 49, 50, 51, 52, 53, 54, 55, 56, 57] : List UInt8).contains c = isDig c := by
  have := all256' (f := fun c => ([48, 49, 50, 51, 52, 53, 54, 55, 56, 57] : List UInt8).contains c == isDig c) (by decide +kernel) c
  simpa using this
set_option maxRecDepth 100000 in
set_option maxHeartbeats 1000000 in
theorem lnumber_any (s : ByteArray) (hs : s.size ≤ 1000000) (w : World) :
    Calls Tryz.prog 201 #[.string s] w fun e w' => e = .returned (.bool (okDigits (body s.data.toList))) ∧ w = w' := by
  have H1 : ∀ w, Calls Tryz.prog 200 #[.string s, .string ⟨#[45]⟩] w fun e w' => e = .returned (.string ⟨(body s.data.toList).toArray⟩) ∧ w = w' := fun w => by
    have := Tryz.strings_TrimPrefix s ⟨#[45]⟩ w
    rw [show (⟨#[45]⟩ : ByteArray).data.toList = [45] from rfl, trimPrefix_dash] at this
    exact this.mono fun e w' ⟨h1, h2⟩ => ⟨h1, h2.symm⟩
  have hbl : (body s.data.toList).length ≤ s.size := by
    have := len_z s
    unfold body
    split
    · rw [List.length_tail]; omega
    · omega
  obtain ⟨B, hB⟩ : ∃ B : ByteArray, (⟨(body s.data.toList).toArray⟩ : ByteArray) = B := ⟨_, rfl⟩
  have hBl : body s.data.toList = B.data.toList := by rw [← hB]
  rw [hB] at H1
  rw [hBl] at hbl ⊢
  rw [len_z] at hbl
  have HI := Lib.hid H1
  clear H1 hB hBl
  obtain ⟨r, hr⟩ : ∃ r, okDigits B.data.toList = r := ⟨_, rfl⟩
  rw [hr]
  rcases empty_z B with ⟨h0, h1, h2, h3⟩ | ⟨h0, h1, h2, h3⟩
  · have H2 := Lib.hid (fun w => front_any B ⟨#[48, 49, 50, 51, 52, 53, 54, 55, 56, 57]⟩ (by omega) w)
    have hz := head_z B h0
    have hall := fr_all [48, 49, 50, 51, 52, 53, 54, 55, 56, 57] B.data.toList
    rw [show ((([48, 49, 50, 51, 52, 53, 54, 55, 56, 57] : List UInt8)).contains ·) = isDig from funext dig_ms] at hall
    obtain ⟨F, hF⟩ : ∃ F : ByteArray, (⟨(fr (⟨#[48, 49, 50, 51, 52, 53, 54, 55, 56, 57]⟩ : ByteArray).data.toList B.data.toList).toArray⟩ : ByteArray) = F := ⟨_, rfl⟩
    rw [hF] at H2
    have hc : (F.toList == B.toList) = B.data.toList.all isDig := by rw [← hall, ← hF, ByteArray.toList_eq, ByteArray.toList_eq]
    have hne : B.data.toList.isEmpty = false := by rw [hz]; rfl
    have hhd : B.data.toList.head? = some B[0] := by rw [hz]; rfl
    have hone : (B.toList == [48]) = (B[0] == 48 && decide (B.size = 1)) := by
      rw [ByteArray.toList_eq]
      have hl := len_z B
      rw [hz] at hl ⊢
      simp only [List.length_cons] at hl
      rw [Bool.eq_iff_iff]
      simp only [beq_iff_eq, List.cons.injEq, Bool.and_eq_true, decide_eq_true_eq]
      constructor
      · rintro ⟨a, b⟩; rw [b] at hl; exact ⟨a, by simp at hl; omega⟩
      · rintro ⟨a, b⟩; exact ⟨a, List.eq_nil_of_length_eq_zero (by omega)⟩
    unfold okDigits digitsB at hr
    rw [hne, hhd, ← hc, len_z] at hr
    clear hz hall hF hc hne hhd
    cases ha : (F.toList == B.toList) with
    | false =>
      have HF : Hid (false = r) := Lib.hid (by rw [← hr, ha]; rfl)
      clear hr hone
      go_enter Tryz.func201, Tryz.ntmps201
      go_wp2_with fail
      refine (HI.out _).mono ?_; rintro e w1 ⟨rfl, rfl⟩
      go_wp2_with fail
      refine (H2.out _).mono ?_; rintro e w1 ⟨rfl, rfl⟩
      go_wp2_with fail
      go_ret
      exact ⟨ret_b HF.out, rfl⟩
    | true =>
      rw [ha] at hr
      by_cases h48 : B[0] = 48
      · have HF : Hid ((B.toList == [48]) = r) := Lib.hid (by
          rw [← hr, hone, h48]
          have : decide (B.size = 1) = !decide (1 < B.size) := by rw [Bool.eq_iff_iff]; simp; omega
          rw [this]; simp)
        have e1 : ((B[0].toNat : Int) != 48) = false := by rw [h48]; rfl
        have e2 : ((B[0].toNat : Int) == 48) = true := by rw [h48]; rfl
        clear hr hone h48
        go_enter Tryz.func201, Tryz.ntmps201
        go_wp2_with fail
        refine (HI.out _).mono ?_; rintro e w1 ⟨rfl, rfl⟩
        go_wp2_with fail
        refine (H2.out _).mono ?_; rintro e w1 ⟨rfl, rfl⟩
        go_wp2_with fail
        go_ret
        exact ⟨ret_b HF.out, rfl⟩
      · have HF : Hid (true = r) := Lib.hid (by
          rw [← hr]
          have : (some B[0] == some (48 : UInt8)) = false := by simpa using h48
          rw [this]; rfl)
        have e0 : ¬ (B[0].toNat : Int) = 48 := fun e => h48 (UInt8.toNat_inj.1 (by show B[0].toNat = 48; omega))
        have e1 : ((B[0].toNat : Int) != 48) = true := by simpa using e0
        have e2 : ((B[0].toNat : Int) == 48) = false := by simpa using e0
        clear hr hone h48 e0
        go_enter Tryz.func201, Tryz.ntmps201
        go_wp2_with fail
        refine (HI.out _).mono ?_; rintro e w1 ⟨rfl, rfl⟩
        go_wp2_with fail
        refine (H2.out _).mono ?_; rintro e w1 ⟨rfl, rfl⟩
        go_wp2_with fail
        go_ret
        exact ⟨ret_b HF.out, rfl⟩
  · have HF : Hid (false = r) := Lib.hid (by rw [← hr, h3]; rfl)
    clear hr h3 h0
    go_enter Tryz.func201, Tryz.ntmps201
    go_wp2_with fail
    refine (HI.out _).mono ?_; rintro e w1 ⟨rfl, rfl⟩
    go_wp2_with fail
    go_ret
    exact ⟨ret_b HF.out, rfl⟩
end Go.Proofs.YtgaknbnhmoddcaaGreatDoor
namespace Go.Proofs.YtgaknbnhmoddcaaGreatDoor
open Go.RowKit
/-- A token's value. -/
def tokV (k : UInt8) (x : List UInt8) (p : Int) : Value := .agg #[.int .u8 (k.toNat : Int), .string ⟨x.toArray⟩, .int .i64 p]
theorem while_le (p : UInt8 → Bool) : ∀ l : List UInt8, (l.takeWhile p).length ≤ l.length
  | [] => Nat.le_refl _
  | c :: l => by
    rw [List.takeWhile_cons]
    split
    · have := while_le p l; simp only [List.length_cons]; omega
    · exact Nat.zero_le _
theorem fr_name (l : List UInt8) : fr nameMs l = l.takeWhile nameC := by
  unfold fr
  rw [show (nameMs.contains ·) = nameC from funext name_ms]
theorem tcellsL {b : Nat} {W : World} {v0 v1 v2 : Value} (h : W.heap[b]? = some (.cells #[v0, v1, v2] 72 (0, 0))) :
    (W.cell? ⟨b, 0, none⟩ = some v0 ∧ W.cell? ⟨b, 1, none⟩ = some v1 ∧ W.cell? ⟨b, 2, none⟩ = some v2) ∧
    (W.frozen? ⟨b, 0, none⟩ = false ∧ W.frozen? ⟨b, 1, none⟩ = false ∧ W.frozen? ⟨b, 2, none⟩ = false) ∧ b < W.heap.size := by
  refine ⟨⟨?_, ?_, ?_⟩, ⟨Lib.frozen_of_heap h 0, Lib.frozen_of_heap h 1, Lib.frozen_of_heap h 2⟩, (Array.getElem?_eq_some_iff.1 h).1⟩
  all_goals (rw [Lib.cell_of_heap h]; rfl)
theorem cells_new (w : World) (A : Obj) (v0 v1 v2 : Value) : ((w.alloc A).alloc (.cells #[v0, v1, v2] 72)).heap[w.heap.size + 1]? = some (.cells #[v0, v1, v2] 72 (0, 0)) := by
  have := heap_alloc_new (w.alloc A) (.cells #[v0, v1, v2] 72 (0, 0))
  rw [show (w.alloc A).heap.size = w.heap.size + 1 from by simp] at this
  exact this
/-- What a reader tells: the token, how many bytes. -/
def tellV (k : UInt8) (o : Option (List UInt8)) : Value := match o with
  | some a => .tuple #[tokV k a 0, .int .i64 (a.length : Int)]
  | none => .tuple #[tokV 0 [] 0, .int .i64 0]
set_option maxRecDepth 100000 in
set_option maxHeartbeats 1000000 in
theorem nread_any (s : ByteArray) (hs : s.size ≤ 1000000) (w : World) :
    Calls Tryz.prog 198 #[.agg #[], .string s] w fun e w' => e = .returned (tellV 1 (nameT s.data.toList)) ∧ Below w.heap.size w w' := by
  have H1 := Lib.hid (fun w => front_any s ⟨nameMs.toArray⟩ hs w)
  obtain ⟨F, hF⟩ : ∃ F : List UInt8, fr nameMs s.data.toList = F := ⟨_, rfl⟩
  have hF2 : nameT s.data.toList = if nameB F then some F else none := by unfold nameT; rw [← hF, fr_name]
  have hle : F.length ≤ s.size := by rw [← hF, ← len_z s]; unfold fr; exact while_le _ _
  rw [show fr (⟨nameMs.toArray⟩ : ByteArray).data.toList s.data.toList = F from hF] at H1
  have H2 := Lib.hid (fun w => lname_any ⟨F.toArray⟩ (by show F.toArray.size ≤ 1000000; rw [List.size_toArray]; omega) w)
  rw [show (⟨F.toArray⟩ : ByteArray).data.toList = F from rfl] at H2
  have hz : ((⟨F.toArray⟩ : ByteArray).size : Int) = (F.length : Int) := by show (F.toArray.size : Int) = _; rw [List.size_toArray]
  have hz2 : (⟨F.toArray⟩ : ByteArray).size ≤ 1000000 := by omega
  have hV : tellV 1 (nameT s.data.toList) = if nameB F then .tuple #[tokV 1 F 0, .int .i64 (F.length : Int)] else .tuple #[tokV 0 [] 0, .int .i64 0] := by
    rw [hF2]; unfold tellV; cases nameB F <;> rfl
  rw [hV]
  unfold nameMs at H1
  clear hF hF2 hV
  cases hb : nameB F with
  | true =>
    rw [hb] at H2
    rw [if_pos rfl]
    obtain ⟨V, hV⟩ : ∃ V, Value.tuple #[tokV 1 F 0, .int .i64 (F.length : Int)] = V := ⟨_, rfl⟩
    rw [hV]
    have HV := Lib.hid hV
    clear hV hb
    go_enter Tryz.func198, Tryz.ntmps198
    go_wp2_with fail
    refine (H1.out _).mono ?_; rintro e w1 ⟨rfl, rfl⟩
    go_wp2_with fail
    refine (H2.out _).mono ?_; rintro e w1 ⟨rfl, rfl⟩
    go_wp2_with fail
    obtain ⟨⟨c0, c1, c2⟩, ⟨g0, g1, g2⟩, hz⟩ := tcellsL (cells_new w (.cells #[] 97) (.int .u8 1) (.string ⟨F.toArray⟩) (.int .i64 0))
    refine bodyPost_ret (v := .tuple #[.agg #[(.int .u8 1), .string ⟨F.toArray⟩, .int .i64 0], .int .i64 (F.length : Int)]) (by simp [results, Tryz.results198, go_sem, *]) rfl ⟨by rw [← HV.out]; rfl, ((Below.refl _ _).alloc (Nat.le_refl _) _).alloc (by simp) _⟩
  | false =>
    rw [hb] at H2
    rw [if_neg (by decide)]
    obtain ⟨V, hV⟩ : ∃ V, Value.tuple #[tokV 0 [] 0, .int .i64 0] = V := ⟨_, rfl⟩
    rw [hV]
    have HV := Lib.hid hV
    clear hV hb
    go_enter Tryz.func198, Tryz.ntmps198
    go_wp2_with fail
    refine (H1.out _).mono ?_; rintro e w1 ⟨rfl, rfl⟩
    go_wp2_with fail
    refine (H2.out _).mono ?_; rintro e w1 ⟨rfl, rfl⟩
    go_wp2_with fail
    obtain ⟨⟨c0, c1, c2⟩, ⟨g0, g1, g2⟩, hz⟩ := tcellsL (cells_new w (.cells #[] 97) (.int .u8 0) (.string ⟨#[]⟩) (.int .i64 0))
    refine bodyPost_ret (v := .tuple #[.agg #[(.int .u8 0), .string ⟨#[]⟩, .int .i64 0], .int .i64 0]) (by simp [results, Tryz.results198, go_sem, *]) rfl ⟨by rw [← HV.out]; rfl, ((Below.refl _ _).alloc (Nat.le_refl _) _).alloc (by simp) _⟩
theorem marks_ib (c : UInt8) : ((Lib.indexByte (⟨#[33, 36, 38, 40, 41, 58, 61, 64, 91, 93, 123, 124, 125]⟩ : ByteArray).data.toList c < 0) ↔ marksL.contains c = false) := by
  have := all256' (f := fun c => decide ((Lib.indexByte (⟨#[33, 36, 38, 40, 41, 58, 61, 64, 91, 93, 123, 124, 125]⟩ : ByteArray).data.toList c < 0) ↔ marksL.contains c = false)) (by decide +kernel) c
  exact of_decide_eq_true this
set_option maxRecDepth 100000 in
set_option maxHeartbeats 1000000 in
theorem pread17_any (s : ByteArray) (h0 : 0 < s.size) (hs : s.size ≤ 1000000) (w : World) :
    Calls Tryz.prog 230 #[.agg #[], .string s] w fun e w' => e = .returned (tellV 4 (punT s.data.toList)) ∧ Below w.heap.size w w' := by
  obtain ⟨p, hp⟩ : ∃ p, ([46, 46, 46] : List UInt8).isPrefixOf s.data.toList = p := ⟨_, rfl⟩
  have H1 : Hid (∀ w, Calls Tryz.prog 77 #[.string s, .string ⟨#[46, 46, 46]⟩] w fun e w' => e = .returned (.bool p) ∧ w = w') := Lib.hid (fun w => (Tryz.strings_HasPrefix s ⟨#[46, 46, 46]⟩ w).mono fun e w' ⟨h1, h2⟩ => ⟨h1.trans (by rw [← hp]; rfl), h2.symm⟩)
  obtain ⟨ix, hix⟩ : ∃ ix, Lib.indexByte (⟨#[33, 36, 38, 40, 41, 58, 61, 64, 91, 93, 123, 124, 125]⟩ : ByteArray).data.toList s[0] = ix := ⟨_, rfl⟩
  have H2 : Hid (∀ w, Calls Tryz.prog 72 #[.string ⟨#[33, 36, 38, 40, 41, 58, 61, 64, 91, 93, 123, 124, 125]⟩, .int .u8 (s[0].toNat : Int)] w fun e w' => e = .returned (.int .i64 ix) ∧ w = w') := Lib.hid (fun w => by
    have := Tryz.strings_IndexByte ⟨#[33, 36, 38, 40, 41, 58, 61, 64, 91, 93, 123, 124, 125]⟩ (s[0].toNat : Int) w
    rw [show ((s[0].toNat : Int)).toNat.toUInt8 = s[0] by simp, hix] at this
    exact this.mono fun e w' ⟨h1, h2⟩ => ⟨h1, h2.symm⟩)
  have hm := marks_ib s[0]
  rw [hix] at hm
  have hP : punT s.data.toList = if p then (some [46, 46, 46] : Option (List UInt8)) else if marksL.contains s[0] then some [s[0]] else none := by
    unfold punT
    rw [hp, head_z s h0]
  rw [hP]
  cases p with
  | true =>
    have h3 : 3 ≤ s.size := by
      have := (List.isPrefixOf_iff_prefix.1 hp).length_le
      rw [len_z] at this; exact this
    have hx : s.extract 0 3 = ⟨#[46, 46, 46]⟩ := by
      obtain ⟨z, hz⟩ := List.isPrefixOf_iff_prefix.1 hp
      apply bytes_ext'
      rw [ByteArray.data_extract, Array.toList_extract, ← hz]
      rfl
    rw [if_pos rfl]
    clear hP hm hp H2
    obtain ⟨V, hV⟩ : ∃ V, tellV 4 (some [46, 46, 46]) = V := ⟨_, rfl⟩
    rw [hV]
    have HV := Lib.hid hV
    clear hV
    go_enter Tryz.func230, Tryz.ntmps230
    go_wp2_with fail
    refine (H1.out _).mono ?_; rintro e w1 ⟨rfl, rfl⟩
    go_wp2_with fail
    obtain ⟨⟨c0, c1, c2⟩, ⟨g0, g1, g2⟩, hz⟩ := tcellsL (cells_new w (.cells #[] 100) (.int .u8 4) (.string ⟨#[46, 46, 46]⟩) (.int .i64 0))
    refine bodyPost_ret (v := .tuple #[.agg #[(.int .u8 4), .string ⟨#[46, 46, 46]⟩, .int .i64 0], .int .i64 3]) (by simp [results, Tryz.results230, go_sem, *]) rfl ⟨by rw [← HV.out]; rfl, ((Below.refl _ _).alloc (Nat.le_refl _) _).alloc (by simp) _⟩
  | false =>
    rw [if_neg (by decide)]
    cases hc : marksL.contains s[0] with
    | true =>
      have hx : s.extract 0 1 = ⟨#[s[0]]⟩ := by
        apply bytes_ext'
        rw [ByteArray.data_extract, Array.toList_extract, head_z s h0]
        rfl
      have hge : ¬ ix < 0 := fun h => by have := hm.1 h; rw [hc] at this; cases this
      rw [if_pos rfl]
      clear hP hm hp hix
      obtain ⟨V, hV⟩ : ∃ V, tellV 4 (some [s[0]]) = V := ⟨_, rfl⟩
      rw [hV]
      have HV := Lib.hid hV
      clear hV
      go_enter Tryz.func230, Tryz.ntmps230
      go_wp2_with fail
      refine (H1.out _).mono ?_; rintro e w1 ⟨rfl, rfl⟩
      go_wp2_with fail
      refine (H2.out _).mono ?_; rintro e w1 ⟨rfl, rfl⟩
      go_wp2_with fail
      obtain ⟨⟨c0, c1, c2⟩, ⟨g0, g1, g2⟩, hz⟩ := tcellsL (cells_new w (.cells #[] 100) (.int .u8 4) (.string ⟨#[s[0]]⟩) (.int .i64 0))
      refine bodyPost_ret (v := .tuple #[.agg #[(.int .u8 4), .string ⟨#[s[0]]⟩, .int .i64 0], .int .i64 1]) (by simp [results, Tryz.results230, go_sem, *]) rfl ⟨by rw [← HV.out]; rfl, ((Below.refl _ _).alloc (Nat.le_refl _) _).alloc (by simp) _⟩
    | false =>
      have hlt : ix < 0 := hm.2 hc
      rw [if_neg (by decide)]
      clear hP hm hp hix
      obtain ⟨V, hV⟩ : ∃ V, tellV 4 none = V := ⟨_, rfl⟩
      rw [hV]
      have HV := Lib.hid hV
      clear hV
      go_enter Tryz.func230, Tryz.ntmps230
      go_wp2_with fail
      refine (H1.out _).mono ?_; rintro e w1 ⟨rfl, rfl⟩
      go_wp2_with fail
      refine (H2.out _).mono ?_; rintro e w1 ⟨rfl, rfl⟩
      go_wp2_with fail
      obtain ⟨⟨c0, c1, c2⟩, ⟨g0, g1, g2⟩, hz⟩ := tcellsL (cells_new w (.cells #[] 100) (.int .u8 0) (.string ⟨#[]⟩) (.int .i64 0))
      refine bodyPost_ret (v := .tuple #[.agg #[(.int .u8 0), .string ⟨#[]⟩, .int .i64 0], .int .i64 0]) (by simp [results, Tryz.results230, go_sem, *]) rfl ⟨by rw [← HV.out]; rfl, ((Below.refl _ _).alloc (Nat.le_refl _) _).alloc (by simp) _⟩
end Go.Proofs.YtgaknbnhmoddcaaGreatDoor
namespace Go.Proofs.YtgaknbnhmoddcaaGreatDoor
open Go.RowKit
theorem dot_ib (c : UInt8) : ((0 ≤ Lib.indexByte (⟨#[95, 97, 98, 99, 100, 101, 102, 103, 104, 105, 106, 107, 108, 109, 110, 111, 112, 113, 114, 115, 116, 117, 118, 119, 120, 121, 122, 65, 66, 67, 68, 69, 70, 71, 72, 73, 74, 75, 76, 77, 78, 79, 80, 81, 82, 83, 84, 85, 86, 87, 88, 89, 90, 46]⟩ : ByteArray).data.toList c) ↔ (isDig c = false ∧ (nameC c || c == 46) = true)) := by
  have := all256' (f := fun c => decide ((0 ≤ Lib.indexByte (⟨#[95, 97, 98, 99, 100, 101, 102, 103, 104, 105, 106, 107, 108, 109, 110, 111, 112, 113, 114, 115, 116, 117, 118, 119, 120, 121, 122, 65, 66, 67, 68, 69, 70, 71, 72, 73, 74, 75, 76, 77, 78, 79, 80, 81, 82, 83, 84, 85, 86, 87, 88, 89, 90, 46]⟩ : ByteArray).data.toList c) ↔ (isDig c = false ∧ (nameC c || c == 46) = true))) (by decide +kernel) c
  exact of_decide_eq_true this
theorem while_drop (p : UInt8 → Bool) : ∀ l : List UInt8, l.dropWhile p = l.drop (l.takeWhile p).length ∧ ∀ c, (l.dropWhile p).head? = some c → p c = false
  | [] => ⟨rfl, fun c h => by cases h⟩
  | a :: l => by
    obtain ⟨h1, h2⟩ := while_drop p l
    rw [List.dropWhile_cons, List.takeWhile_cons]
    cases h : p a with
    | true => rw [if_pos rfl, if_pos rfl, List.length_cons, List.drop_succ_cons]; exact ⟨h1, h2⟩
    | false => exact ⟨rfl, fun c hc => by injection hc with hc; subst hc; exact h⟩
theorem body_sign (l : List UInt8) : body ((if below l then [45] else []) ++ (body l).takeWhile isDig) = (body l).takeWhile isDig := by
  cases hx : below l with
  | true => rfl
  | false =>
    rw [if_neg (by decide), List.nil_append]
    have hb : body l = l := by unfold body; rw [hx]; rfl
    rw [hb]
    cases l with
    | nil => rfl
    | cons c r =>
      have hc : c ≠ 45 := by
        have : below (c :: r) = false := hx
        unfold below at this
        exact beq_eq_false_iff_ne.1 this
      rw [List.takeWhile_cons]
      split
      · unfold body
        rw [show below (c :: r.takeWhile isDig) = false from by unfold below; exact beq_eq_false_iff_ne.2 hc]
        rfl
      · rfl
theorem sign_body (l : List UInt8) : (if below l then ([45] : List UInt8) else []) ++ body l = l := by
  cases l with
  | nil => rfl
  | cons c r =>
    unfold body
    by_cases h : c = 45
    · subst h; rfl
    · rw [show below (c :: r) = false from by unfold below; exact beq_eq_false_iff_ne.2 h]; rfl
set_option maxRecDepth 100000 in
set_option maxHeartbeats 1000000 in
/-- The walk over letters. -/
theorem num_path (s B D : ByteArray) (g n : Nat) (q : Bool) (ix : Int) (o : Option (List UInt8)) (hs : s.size ≤ 1000000) (hB : B.size ≤ 1000000) (eg : (s.size : Int) - (B.size : Int) = (g : Int)) (hg : g ≤ s.size) (en : (g : Int) + (D.size : Int) = (n : Int)) (hn : n ≤ s.size)
    (HT : Hid (∀ w, Calls Tryz.prog 200 #[.string s, .string ⟨#[45]⟩] w fun e w' => e = .returned (.string B) ∧ w = w'))
    (HF : Hid (∀ w, Calls Tryz.prog 73 #[.string (s.extract g s.size), .string ⟨#[48, 49, 50, 51, 52, 53, 54, 55, 56, 57]⟩] w fun e w' => e = .returned (.string D) ∧ w = w'))
    (HN : Hid (∀ w, Calls Tryz.prog 201 #[.string (s.extract 0 n)] w fun e w' => e = .returned (.bool q) ∧ w = w'))
    (HI : ∀ h : n < s.size, Hid (∀ w, Calls Tryz.prog 72 #[.string ⟨#[95, 97, 98, 99, 100, 101, 102, 103, 104, 105, 106, 107, 108, 109, 110, 111, 112, 113, 114, 115, 116, 117, 118, 119, 120, 121, 122, 65, 66, 67, 68, 69, 70, 71, 72, 73, 74, 75, 76, 77, 78, 79, 80, 81, 82, 83, 84, 85, 86, 87, 88, 89, 90, 46]⟩, .int .u8 (s[n].toNat : Int)] w fun e w' => e = .returned (.int .i64 ix) ∧ w = w'))
    (ho : Hid (o = if q = true ∧ ¬ (n < s.size ∧ 0 ≤ ix) then some (s.extract 0 n).data.toList else none)) (hl : ((s.extract 0 n).data.toList.length : Int) = n) (w : World) :
    Calls Tryz.prog 199 #[.agg #[], .string s] w fun e w' => e = .returned (tellV 2 o) ∧ Below w.heap.size w w' := by
  have hx : (⟨(s.extract 0 n).data.toList.toArray⟩ : ByteArray) = s.extract 0 n := rfl
  cases q with
  | false =>
    have HV : Hid (tellV 2 none = tellV 2 o) := Lib.hid (by rw [ho.out, if_neg (by simp)])
    obtain ⟨V, hV⟩ : ∃ V, tellV 2 o = V := ⟨_, rfl⟩
    rw [hV] at HV ⊢
    clear ho HI hV
    go_enter Tryz.func199, Tryz.ntmps199
    go_wp2_with fail
    refine (HT.out _).mono ?_; rintro e w1 ⟨rfl, rfl⟩
    go_wp2_with fail
    refine (HF.out _).mono ?_; rintro e w1 ⟨rfl, rfl⟩
    go_wp2_with fail
    refine (HN.out _).mono ?_; rintro e w1 ⟨rfl, rfl⟩
    go_wp2_with fail
    obtain ⟨⟨c0, c1, c2⟩, ⟨g0, g1, g2⟩, hz⟩ := tcellsL (cells_new w (.cells #[] 98) (.int .u8 0) (.string ⟨#[]⟩) (.int .i64 0))
    refine bodyPost_ret (v := .tuple #[.agg #[(.int .u8 0), .string ⟨#[]⟩, .int .i64 0], .int .i64 0]) (by simp [results, Tryz.results199, go_sem, *]) rfl ⟨by rw [← HV.out]; rfl, ((Below.refl _ _).alloc (Nat.le_refl _) _).alloc (by simp) _⟩
  | true =>
    by_cases hlt : n < s.size
    · have HI := HI hlt
      have hlt2 : ((n : Int) < (s.size : Int)) := by omega
      by_cases hix : 0 ≤ ix
      · have HV : Hid (tellV 2 none = tellV 2 o) := Lib.hid (by rw [ho.out, if_neg (by simp [hlt, hix])])
        obtain ⟨V, hV⟩ : ∃ V, tellV 2 o = V := ⟨_, rfl⟩
        rw [hV] at HV ⊢
        clear ho hV
        go_enter Tryz.func199, Tryz.ntmps199
        go_wp2_with fail
        refine (HT.out _).mono ?_; rintro e w1 ⟨rfl, rfl⟩
        go_wp2_with fail
        refine (HF.out _).mono ?_; rintro e w1 ⟨rfl, rfl⟩
        go_wp2_with fail
        refine (HN.out _).mono ?_; rintro e w1 ⟨rfl, rfl⟩
        go_wp2_with fail
        refine (HI.out _).mono ?_; rintro e w1 ⟨rfl, rfl⟩
        go_wp2_with fail
        obtain ⟨⟨c0, c1, c2⟩, ⟨g0, g1, g2⟩, hz⟩ := tcellsL (cells_new w (.cells #[] 98) (.int .u8 0) (.string ⟨#[]⟩) (.int .i64 0))
        refine bodyPost_ret (v := .tuple #[.agg #[(.int .u8 0), .string ⟨#[]⟩, .int .i64 0], .int .i64 0]) (by simp [results, Tryz.results199, go_sem, *]) rfl ⟨by rw [← HV.out]; rfl, ((Below.refl _ _).alloc (Nat.le_refl _) _).alloc (by simp) _⟩
      · have HV : Hid (tellV 2 (some (s.extract 0 n).data.toList) = tellV 2 o) := Lib.hid (by rw [ho.out, if_pos (by simp [hix])])
        obtain ⟨V, hV⟩ : ∃ V, tellV 2 o = V := ⟨_, rfl⟩
        rw [hV] at HV ⊢
        clear ho hV
        go_enter Tryz.func199, Tryz.ntmps199
        go_wp2_with fail
        refine (HT.out _).mono ?_; rintro e w1 ⟨rfl, rfl⟩
        go_wp2_with fail
        refine (HF.out _).mono ?_; rintro e w1 ⟨rfl, rfl⟩
        go_wp2_with fail
        refine (HN.out _).mono ?_; rintro e w1 ⟨rfl, rfl⟩
        go_wp2_with fail
        refine (HI.out _).mono ?_; rintro e w1 ⟨rfl, rfl⟩
        go_wp2_with fail
        obtain ⟨⟨c0, c1, c2⟩, ⟨g0, g1, g2⟩, hz⟩ := tcellsL (cells_new w (.cells #[] 98) (.int .u8 2) (.string (s.extract 0 n)) (.int .i64 0))
        refine bodyPost_ret (v := .tuple #[.agg #[(.int .u8 2), .string (s.extract 0 n), .int .i64 0], .int .i64 n]) (by simp [results, Tryz.results199, go_sem, *]) rfl ⟨by rw [← HV.out, ← hl]; rfl, ((Below.refl _ _).alloc (Nat.le_refl _) _).alloc (by simp) _⟩
    · have hlt2 : ¬ ((n : Int) < (s.size : Int)) := by omega
      have HV : Hid (tellV 2 (some (s.extract 0 n).data.toList) = tellV 2 o) := Lib.hid (by rw [ho.out, if_pos (by simp [hlt])])
      obtain ⟨V, hV⟩ : ∃ V, tellV 2 o = V := ⟨_, rfl⟩
      rw [hV] at HV ⊢
      clear ho hV HI
      go_enter Tryz.func199, Tryz.ntmps199
      go_wp2_with fail
      refine (HT.out _).mono ?_; rintro e w1 ⟨rfl, rfl⟩
      go_wp2_with fail
      refine (HF.out _).mono ?_; rintro e w1 ⟨rfl, rfl⟩
      go_wp2_with fail
      refine (HN.out _).mono ?_; rintro e w1 ⟨rfl, rfl⟩
      go_wp2_with fail
      obtain ⟨⟨c0, c1, c2⟩, ⟨g0, g1, g2⟩, hz⟩ := tcellsL (cells_new w (.cells #[] 98) (.int .u8 2) (.string (s.extract 0 n)) (.int .i64 0))
      refine bodyPost_ret (v := .tuple #[.agg #[(.int .u8 2), .string (s.extract 0 n), .int .i64 0], .int .i64 n]) (by simp [results, Tryz.results199, go_sem, *]) rfl ⟨by rw [← HV.out, ← hl]; rfl, ((Below.refl _ _).alloc (Nat.le_refl _) _).alloc (by simp) _⟩
theorem extract_drop (s : ByteArray) (k : Nat) : (s.extract k s.size).data.toList = s.data.toList.drop k := by
  rw [ByteArray.data_extract, Array.toList_extract, List.extract_eq_take_drop]
  have := len_z s
  rw [List.take_of_length_le]
  rw [List.length_drop]; omega
theorem extract_take (s : ByteArray) (k : Nat) : (s.extract 0 k).data.toList = s.data.toList.take k := by
  rw [ByteArray.data_extract, Array.toList_extract, List.extract_eq_take_drop]
  simp
theorem numread_any (s : ByteArray) (hs : s.size ≤ 1000000) (w : World) :
    Calls Tryz.prog 199 #[.agg #[], .string s] w fun e w' => e = .returned (tellV 2 (numTk s.data.toList)) ∧ Below w.heap.size w w' := by
  obtain ⟨l, hl⟩ : ∃ l, s.data.toList = l := ⟨_, rfl⟩
  have hlen := len_z s
  rw [hl] at hlen
  obtain ⟨sg, hsg⟩ : ∃ sg : List UInt8, (if below l then ([45] : List UInt8) else []) = sg := ⟨_, rfl⟩
  have hsb := sign_body l
  rw [hsg] at hsb
  have hbs := body_sign l
  rw [hsg] at hbs
  obtain ⟨d, hd⟩ : ∃ d, (body l).takeWhile isDig = d := ⟨_, rfl⟩
  rw [hd] at hbs
  have hwd := while_drop isDig (body l)
  rw [hd] at hwd
  have hdl : d.length ≤ (body l).length := by rw [← hd]; exact while_le _ _
  have htk : (body l).take d.length = d := by
    have := List.takeWhile_append_dropWhile (p := isDig) (l := body l)
    rw [hd] at this
    rw [← this, List.take_left]
  have hsl : sg.length + (body l).length = l.length := by rw [← List.length_append, hsb]
  have hdrop : l.drop sg.length = body l := by
    conv => lhs; rw [← hsb]
    exact List.drop_left
  have htake : l.take (sg.length + d.length) = sg ++ d := by
    conv => lhs; rw [← hsb]
    rw [List.take_length_add_append, htk]
  have hdrop2 : l.drop (sg.length + d.length) = (body l).dropWhile isDig := by rw [hwd.1, ← hdrop, List.drop_drop]
  have ex : (s.extract 0 (sg.length + d.length)).data.toList = sg ++ d := by rw [extract_take, hl, htake]
  rw [hl]
  refine num_path s ⟨(body l).toArray⟩ ⟨d.toArray⟩ sg.length (sg.length + d.length) (okDigits d) (if h : sg.length + d.length < s.size then Lib.indexByte (⟨#[95, 97, 98, 99, 100, 101, 102, 103, 104, 105, 106, 107, 108, 109, 110, 111, 112, 113, 114, 115, 116, 117, 118, 119, 120, 121, 122, 65, 66, 67, 68, 69, 70, 71, 72, 73, 74, 75, 76, 77, 78, 79, 80, 81, 82, 83, 84, 85, 86, 87, 88, 89, 90, 46]⟩ : ByteArray).data.toList s[sg.length + d.length] else 0) (numTk l) hs ?_ ?_ ?_ ?_ ?_ ?_ ?_ ?_ ?_ ?_ ?_ w
  · show (body l).toArray.size ≤ 1000000; rw [List.size_toArray]; omega
  · show (s.size : Int) - ((body l).toArray.size : Int) = _; rw [List.size_toArray]; omega
  · omega
  · show (sg.length : Int) + (d.toArray.size : Int) = _; rw [List.size_toArray]; omega
  · omega
  · refine Lib.hid fun w => ?_
    have := Tryz.strings_TrimPrefix s ⟨#[45]⟩ w
    rw [show (⟨#[45]⟩ : ByteArray).data.toList = [45] from rfl, trimPrefix_dash, hl] at this
    exact this.mono fun e w' ⟨h1, h2⟩ => ⟨h1, h2.symm⟩
  · refine Lib.hid fun w => ?_
    have := front_any (s.extract sg.length s.size) ⟨#[48, 49, 50, 51, 52, 53, 54, 55, 56, 57]⟩ (by
      have e := len_z (s.extract sg.length s.size)
      rw [extract_drop, List.length_drop, hl] at e; omega) w
    rw [extract_drop, hl, hdrop] at this
    have hfr : fr (⟨#[48, 49, 50, 51, 52, 53, 54, 55, 56, 57]⟩ : ByteArray).data.toList (body l) = d := by
      rw [← hd]
      unfold fr
      rw [show (((⟨#[48, 49, 50, 51, 52, 53, 54, 55, 56, 57]⟩ : ByteArray).data.toList).contains ·) = isDig from funext dig_ms]
    rw [hfr] at this
    exact this
  · refine Lib.hid fun w => ?_
    have := lnumber_any (s.extract 0 (sg.length + d.length)) (by
      have e := len_z (s.extract 0 (sg.length + d.length))
      rw [ex, List.length_append] at e; omega) w
    rw [ex, hbs] at this
    exact this
  · intro h
    refine Lib.hid fun w => ?_
    rw [dif_pos h]
    have := Tryz.strings_IndexByte ⟨#[95, 97, 98, 99, 100, 101, 102, 103, 104, 105, 106, 107, 108, 109, 110, 111, 112, 113, 114, 115, 116, 117, 118, 119, 120, 121, 122, 65, 66, 67, 68, 69, 70, 71, 72, 73, 74, 75, 76, 77, 78, 79, 80, 81, 82, 83, 84, 85, 86, 87, 88, 89, 90, 46]⟩ (s[sg.length + d.length].toNat : Int) w
    rw [show ((s[sg.length + d.length].toNat : Int)).toNat.toUInt8 = s[sg.length + d.length] by simp] at this
    exact this.mono fun e w' ⟨h1, h2⟩ => ⟨h1, h2.symm⟩
  · refine Lib.hid ?_
    rw [ex]
    unfold numTk
    simp only
    rw [hd, hsg, ← hdrop2]
    by_cases h : sg.length + d.length < s.size
    · rw [dif_pos h]
      have hc := drop_at s _ h
      rw [hl] at hc
      have hnd : isDig s[sg.length + d.length] = false := hwd.2 _ (by rw [← hdrop2, hc]; rfl)
      have hib := dot_ib s[sg.length + d.length]
      rw [hc]
      simp only [List.head?_cons, Option.map_some, Option.getD_some]
      cases okDigits d with
      | false => simp
      | true =>
        rcases Bool.eq_false_or_eq_true (nameC s[sg.length + d.length] || s[sg.length + d.length] == 46) with hq | hq
        · have := hib.2 ⟨hnd, hq⟩
          rw [if_neg (fun hh => hh.2 ⟨h, this⟩)]
          exact if_neg (show ¬ (true && !(nameC s[sg.length + d.length] || s[sg.length + d.length] == 46)) = true from by rw [hq]; decide)
        · have : ¬ 0 ≤ Lib.indexByte (⟨#[95, 97, 98, 99, 100, 101, 102, 103, 104, 105, 106, 107, 108, 109, 110, 111, 112, 113, 114, 115, 116, 117, 118, 119, 120, 121, 122, 65, 66, 67, 68, 69, 70, 71, 72, 73, 74, 75, 76, 77, 78, 79, 80, 81, 82, 83, 84, 85, 86, 87, 88, 89, 90, 46]⟩ : ByteArray).data.toList s[sg.length + d.length] := fun hh => by have := (hib.1 hh).2; rw [hq] at this; cases this
          rw [if_pos ⟨rfl, fun hh => this hh.2⟩]
          exact if_pos (show (true && !(nameC s[sg.length + d.length] || s[sg.length + d.length] == 46)) = true from by rw [hq]; decide)
    · rw [dif_neg h, List.drop_eq_nil_of_le (by omega)]
      cases okDigits d with
      | false => simp
      | true => rw [if_pos (by simp), if_pos ⟨rfl, fun hh => h hh.1⟩]
  · rw [ex, List.length_append]
end Go.Proofs.YtgaknbnhmoddcaaGreatDoor
namespace Go.Proofs.YtgaknbnhmoddcaaGreatDoor
open Go.RowKit
theorem enc_cases (r : Int) (h : 128 ≤ r) :
    (∃ b0 b1 : UInt8, Utf8.encode r = ⟨#[b0, b1]⟩ ∧ 192 ≤ b0.toNat ∧ b0.toNat ≤ 223 ∧ 128 ≤ b1.toNat ∧ b1.toNat ≤ 191 ∧ r ≠ 65279) ∨
    (∃ b0 b1 b2 : UInt8, Utf8.encode r = ⟨#[b0, b1, b2]⟩ ∧ 128 ≤ b1.toNat ∧ b1.toNat ≤ 191 ∧ 128 ≤ b2.toNat ∧ b2.toNat ≤ 191 ∧ (r = 65279 ↔ b0.toNat = 239 ∧ b1.toNat = 187 ∧ b2.toNat = 191)) ∨
    (∃ b0 b1 b2 b3 : UInt8, Utf8.encode r = ⟨#[b0, b1, b2, b3]⟩ ∧ 128 ≤ b1.toNat ∧ b1.toNat ≤ 191 ∧ 128 ≤ b2.toNat ∧ b2.toNat ≤ 191 ∧ 128 ≤ b3.toNat ∧ b3.toNat ≤ 191 ∧ r ≠ 65279) := by
  have hc : ∃ c : Nat, 128 ≤ c ∧ c < 1114112 ∧ (r = 65279 ↔ c = 65279) ∧ Utf8.encode r = (let b (n : Nat) : UInt8 := UInt8.ofNat n
      if c < 0x80 then ⟨#[b c]⟩
      else if c < 0x800 then ⟨#[b (0xC0 + c / 64), b (0x80 + c % 64)]⟩
      else if c < 0x10000 then ⟨#[b (0xE0 + c / 4096), b (0x80 + c / 64 % 64), b (0x80 + c % 64)]⟩
      else ⟨#[b (0xF0 + c / 262144), b (0x80 + c / 4096 % 64), b (0x80 + c / 64 % 64), b (0x80 + c % 64)]⟩) := by
    refine ⟨if Utf8.valid r then r.toNat else Utf8.runeError, ?_, ?_, ?_, rfl⟩
    · split
      · omega
      · decide
    · split
      · rename_i hv
        simp only [Utf8.valid, Bool.or_eq_true, Bool.and_eq_true, decide_eq_true_eq] at hv
        omega
      · decide
    · split
      · omega
      · rename_i hv
        constructor
        · intro e; subst e; exact absurd (by decide) hv
        · intro e; exact absurd e (by decide)
  obtain ⟨c, h1, h2, h3, e⟩ := hc
  rw [e]
  simp only
  split
  · exfalso; omega
  split
  · rename_i h4
    refine Or.inl ⟨_, _, rfl, ?_, ?_, ?_, ?_, by omega⟩ <;> rw [UInt8.toNat_ofNat'] <;> omega
  · rename_i h4
    split
    · rename_i h5
      refine Or.inr (Or.inl ⟨_, _, _, rfl, ?_, ?_, ?_, ?_, ?_⟩)
      · rw [UInt8.toNat_ofNat']; omega
      · rw [UInt8.toNat_ofNat']; omega
      · rw [UInt8.toNat_ofNat']; omega
      · rw [UInt8.toNat_ofNat']; omega
      · rw [h3, UInt8.toNat_ofNat', UInt8.toNat_ofNat', UInt8.toNat_ofNat']; omega
    · rename_i h5
      refine Or.inr (Or.inr ⟨_, _, _, _, rfl, ?_, ?_, ?_, ?_, ?_, ?_, by omega⟩) <;> rw [UInt8.toNat_ofNat'] <;> omega
theorem tail_none (l : List UInt8) (hl : (List.range 256).all (fun n => !decide (128 ≤ n) || !decide (n ≤ 191) || n == 187 || n == 191 || Lib.indexByte l (UInt8.ofNat n) == -1) = true) (y : UInt8) (h1 : 128 ≤ y.toNat) (h2 : y.toNat ≤ 191) (h3 : y ≠ 187) (h4 : y ≠ 191) : Lib.indexByte l y = -1 := by
  have := List.all_eq_true.1 hl y.toNat (List.mem_range.2 (UInt8.toNat_lt y))
  have n3 : y.toNat ≠ 187 := fun e => h3 (by rw [← UInt8.ofNat_toNat (x := y), e]; rfl)
  have n4 : y.toNat ≠ 191 := fun e => h4 (by rw [← UInt8.ofNat_toNat (x := y), e]; rfl)
  simp only [UInt8.ofNat_toNat] at this
  simpa [h1, h2, n3, n4] using this
theorem u8_ne (a b : UInt8) (h : a ≠ b) : ¬ ((b.toNat : Int) = (a.toNat : Int)) := fun e => h (by
  have e2 : a.toNat = b.toNat := by omega
  rw [← UInt8.ofNat_toNat (x := a), ← UInt8.ofNat_toNat (x := b), e2])
set_option maxRecDepth 100000 in
theorem rune_err (w : World) : Calls Tryz.prog 104 #[.string ⟨#[32, 9, 13, 10, 44, 239, 187, 191]⟩, .int .i32 65533] w fun e w' => e = .returned (.int .i64 (-1)) ∧ Below w.heap.size w w' := by
  have n0 := fun (w : World) ty => run_next_ascii (P := Tryz.prog) w ⟨#[32, 9, 13, 10, 44, 239, 187, 191]⟩ 0 ty (by decide) (by decide)
  have n1 := fun (w : World) ty => run_next_ascii (P := Tryz.prog) w ⟨#[32, 9, 13, 10, 44, 239, 187, 191]⟩ 1 ty (by decide) (by decide)
  have n2 := fun (w : World) ty => run_next_ascii (P := Tryz.prog) w ⟨#[32, 9, 13, 10, 44, 239, 187, 191]⟩ 2 ty (by decide) (by decide)
  have n3 := fun (w : World) ty => run_next_ascii (P := Tryz.prog) w ⟨#[32, 9, 13, 10, 44, 239, 187, 191]⟩ 3 ty (by decide) (by decide)
  have n4 := fun (w : World) ty => run_next_ascii (P := Tryz.prog) w ⟨#[32, 9, 13, 10, 44, 239, 187, 191]⟩ 4 ty (by decide) (by decide)
  have hd : Utf8.decode ⟨#[32, 9, 13, 10, 44, 239, 187, 191]⟩ 5 = (65279, 3) := by decide +kernel
  have n5 := fun (w : World) ty => run_next_any (P := Tryz.prog) w ⟨#[32, 9, 13, 10, 44, 239, 187, 191]⟩ 5 ty (by decide)
  rw [hd] at n5
  have n8 := fun (w : World) ty => run_next_end (P := Tryz.prog) w ⟨#[32, 9, 13, 10, 44, 239, 187, 191]⟩ 8 ty (by decide)
  clear hd
  go_enter Tryz.func104, Tryz.ntmps104
  go_wp2_with fail
  refine wp_loop_rounds 7 ?_
  rw [rounds_succ]
  go_wp2_with fail
  rw [rounds_succ]
  go_wp2_with fail
  rw [rounds_succ]
  go_wp2_with fail
  rw [rounds_succ]
  go_wp2_with fail
  rw [rounds_succ]
  go_wp2_with fail
  rw [rounds_succ]
  go_wp2_with fail
  rw [rounds_succ]
  go_wp2_with fail
  go_ret
  refine ⟨rfl, ?_⟩
  unfold World.iter
  exact (Below.refl _ _).alloc (Nat.le_refl _) _
set_option maxRecDepth 100000 in
theorem rune_hid (r : Int) (h : 128 ≤ r) (h2 : r ≤ 2147483647) (w : World) :
    Calls Tryz.prog 104 #[.string ⟨#[32, 9, 13, 10, 44, 239, 187, 191]⟩, .int .i32 r] w fun e w' => e = .returned (.int .i64 (if r = 65279 then 5 else -1)) ∧ Below w.heap.size w w' := by
  by_cases he : r = 65533
  · subst he
    exact rune_err w
  have HV := Lib.hid (fun w => Tryz.utf8_ValidRune r w)
  obtain ⟨vb, hvb⟩ : ∃ b, Lib.validRune r = b := ⟨_, rfl⟩
  rw [hvb] at HV
  cases vb with
  | false =>
    have hne : ¬ r = 65279 := by
      intro e; subst e; exact absurd hvb (by decide)
    rw [if_neg hne]
    have h0 : 0 ≤ r := by omega
    have h1 : ¬ r < 128 := by omega
    clear hvb hne
    go_enter Tryz.func104, Tryz.ntmps104
    go_wp2_with fail
    refine (HV.out _).mono ?_; rintro e w1 ⟨rfl, rfl⟩
    go_wp2_with fail
    go_ret
    exact ⟨rfl, Below.refl _ _⟩
  | true =>
    have HV2 : Hid (∀ w, Calls Tryz.prog 121 #[.int .i32 r] w fun e w' => e = .returned (.bool true) ∧ w = w') := Lib.hid fun w => (HV.out w).mono fun e w' ⟨h1, h2⟩ => ⟨h1, h2.symm⟩
    rcases enc_cases r h with ⟨b0, b1, e, l00, l0, l1, u1, hn⟩ | ⟨b0, b1, b2, e, l1, u1, l2, u2, hn⟩ | ⟨b0, b1, b2, b3, e, l1, u1, l2, u2, l3, u3, hn⟩
    · rw [if_neg hn]
      by_cases y1 : b1 = 187
      · exact rune_2_187_n r h h2 b0 b1 he (Lib.hid e) HV2 (by omega) (by omega) y1 (by omega) w
      by_cases y2 : b1 = 191
      · exact rune_2_191_n r h h2 b0 b1 he (Lib.hid e) HV2 (by omega) (by omega) y2 (by omega) w
      exact rune_2_other r h h2 b0 b1 he (Lib.hid e) HV2 (by omega) (by omega) (Lib.hid (tail_none _ (by decide +kernel) _ l1 u1 y1 y2)) w
    · by_cases y1 : b2 = 187
      · rw [if_neg (fun e => by have := (hn.1 e).2.2; rw [y1] at this; exact absurd this (by decide))]
        exact rune_3_187_n r h h2 b0 b1 b2 he (Lib.hid e) HV2 (by omega) (by omega) y1 (by omega) w
      by_cases y2 : b2 = 191
      · by_cases y3 : b1 = 187
        · by_cases y4 : b0 = 239
          · rw [if_pos (hn.2 ⟨by rw [y4]; rfl, by rw [y3]; rfl, by rw [y2]; rfl⟩)]
            exact rune_3_191_yy r h h2 b0 b1 b2 he (Lib.hid e) HV2 (by omega) (by omega) y2 y3 y4 w
          · rw [if_neg (fun e => y4 (by have := (hn.1 e).1; rw [← UInt8.ofNat_toNat (x := b0), this]; rfl))]
            exact rune_3_191_yn r h h2 b0 b1 b2 he (Lib.hid e) HV2 (by omega) (by omega) y2 y3 (u8_ne _ 239 y4) w
        · rw [if_neg (fun e => y3 (by have := (hn.1 e).2.1; rw [← UInt8.ofNat_toNat (x := b1), this]; rfl))]
          exact rune_3_191_n r h h2 b0 b1 b2 he (Lib.hid e) HV2 (by omega) (by omega) y2 (u8_ne _ 187 y3) w
      rw [if_neg (fun e => y2 (by have := (hn.1 e).2.2; rw [← UInt8.ofNat_toNat (x := b2), this]; rfl))]
      exact rune_3_other r h h2 b0 b1 b2 he (Lib.hid e) HV2 (by omega) (by omega) (Lib.hid (tail_none _ (by decide +kernel) _ l2 u2 y1 y2)) w
    · rw [if_neg hn]
      by_cases y1 : b3 = 187
      · exact rune_4_187_n r h h2 b0 b1 b2 b3 he (Lib.hid e) HV2 (by omega) (by omega) y1 (by omega) w
      by_cases y2 : b3 = 191
      · by_cases y3 : b2 = 187
        · exact rune_4_191_yn r h h2 b0 b1 b2 b3 he (Lib.hid e) HV2 (by omega) (by omega) y2 y3 (by omega) w
        · exact rune_4_191_n r h h2 b0 b1 b2 b3 he (Lib.hid e) HV2 (by omega) (by omega) y2 (u8_ne _ 187 y3) w
      exact rune_4_other r h h2 b0 b1 b2 b3 he (Lib.hid e) HV2 (by omega) (by omega) (Lib.hid (tail_none _ (by decide +kernel) _ l3 u3 y1 y2)) w
theorem set_ascii (c : UInt8) (h : c.toNat < 128) : decide (0 ≤ Lib.indexByte [32, 9, 13, 10, 44, 239, 187, 191] c) = setC c.toNat := by
  have hall := (by decide +kernel : ∀ i : Fin 256, i.val < 128 → decide (0 ≤ Lib.indexByte [32, 9, 13, 10, 44, 239, 187, 191] (UInt8.ofNat i.val)) = setC (UInt8.ofNat i.val).toNat) ⟨c.toNat, UInt8.toNat_lt c⟩ h
  simpa only [UInt8.ofNat_toNat] using hall
set_option maxRecDepth 100000 in
theorem holds_hid (r : Nat) (h : r ≤ 1114111) (w : World) :
    Calls Tryz.prog 120 #[.string ⟨#[32, 9, 13, 10, 44, 239, 187, 191]⟩, .int .i32 (r : Int)] w fun e w' => e = .returned (.bool (setC r)) ∧ Below w.heap.size w w' := by
  have HX : ∃ ix : Int, decide (0 ≤ ix) = setC r ∧ Hid (∀ w, Calls Tryz.prog 104 #[.string ⟨#[32, 9, 13, 10, 44, 239, 187, 191]⟩, .int .i32 (r : Int)] w fun e w' => e = .returned (.int .i64 ix) ∧ Below w.heap.size w w') := by
    by_cases h1 : r < 128
    · have hc : (UInt8.ofNat r).toNat = r := by rw [UInt8.toNat_ofNat']; omega
      refine ⟨Lib.indexByte [32, 9, 13, 10, 44, 239, 187, 191] (UInt8.ofNat r), ?_, Lib.hid fun w => ?_⟩
      · have := set_ascii (UInt8.ofNat r) (by omega)
        rw [hc] at this
        exact this
      · have := Tryz.strings_IndexRune_ascii ⟨#[32, 9, 13, 10, 44, 239, 187, 191]⟩ (r : Int) w (by omega) (by omega)
        exact this.mono fun e w' ⟨h1, h2⟩ => ⟨h1, h2 ▸ Below.refl _ _⟩
    · refine ⟨if (r : Int) = 65279 then 5 else -1, ?_, Lib.hid fun w => rune_hid (r : Int) (by omega) (by omega) w⟩
      by_cases h2 : r = 65279
      · subst h2; rfl
      · rw [if_neg (by omega)]
        unfold setC
        have t1 : (r == 32) = false := beq_eq_false_iff_ne.2 (by omega)
        have t2 : (r == 9) = false := beq_eq_false_iff_ne.2 (by omega)
        have t3 : (r == 13) = false := beq_eq_false_iff_ne.2 (by omega)
        have t4 : (r == 10) = false := beq_eq_false_iff_ne.2 (by omega)
        have t5 : (r == 44) = false := beq_eq_false_iff_ne.2 (by omega)
        have t6 : (r == 65279) = false := beq_eq_false_iff_ne.2 h2
        rw [t1, t2, t3, t4, t5, t6]; rfl
  obtain ⟨ix, h1, HX⟩ := HX
  obtain ⟨b, hb⟩ : ∃ b, setC r = b := ⟨_, rfl⟩
  rw [hb] at h1 ⊢
  cases b with
  | true =>
    have hge : 0 ≤ ix := by simpa using h1
    clear h1 hb
    go_enter Tryz.func120, Tryz.ntmps120
    go_wp2_with fail
    refine (HX.out _).mono ?_; rintro e w1 ⟨rfl, hb⟩
    go_wp2_with fail
    go_ret
    exact ⟨rfl, hb⟩
  | false =>
    have hge : decide (0 ≤ ix) = false := h1
    clear h1 hb
    go_enter Tryz.func120, Tryz.ntmps120
    go_wp2_with fail
    refine (HX.out _).mono ?_; rintro e w1 ⟨rfl, hb⟩
    go_wp2_with fail
    go_ret
    exact ⟨rfl, hb⟩
theorem dec_whole (t : ByteArray) (h : 0 < t.size) : Lib.decodeGo t = Lib.decodeL t.data.toList := by
  have := dec_at t 0 h
  rw [List.drop_zero] at this
  rw [← this]
  have e := extract_drop t 0
  rw [List.drop_zero] at e
  rw [bytes_ext' e]
theorem ret_s {a b : ByteArray} (h : a = b) : Ending.returned (.string a) = .returned (.string b) := by rw [h]
set_option maxRecDepth 100000 in
theorem trimU_any (s : ByteArray) (hs : s.size ≤ 1000000) (w : World) (hE : EnvU w) :
    Calls Tryz.prog 102 #[.string s, .string ⟨#[32, 9, 13, 10, 44, 239, 187, 191]⟩] w fun e w' => e = .returned (.string ⟨(hid0 s.data.toList).toArray⟩) ∧ Below w.heap.size w w' := by
  obtain ⟨r, hr⟩ : ∃ r, hid0 s.data.toList = r := ⟨_, rfl⟩
  rw [hr]
  have HR := Lib.hid hr
  have HE := Lib.hid (fun (W : World) (h : Below w.heap.size w W) => hE.below h)
  clear hr hE
  go_enter Tryz.func102, Tryz.ntmps102
  go_wp2_with fail
  go_loopg [0] s.size (fun g v wx => ∃ t : ByteArray, v = .string t ∧ t.size = g ∧ t.size ≤ 1000000 ∧ Hid (hid0 t.data.toList = r) ∧ Hid (Below w.heap.size w wx))
  case atStart => exact ⟨s, rfl, rfl, hs, HR, Lib.hid (Below.refl _ _)⟩
  case round =>
    rename World => wo
    obtain ⟨t, rfl, htg, ht6, HT, HB⟩ := hrel
    by_cases h0 : 0 < t.size
    · obtain ⟨c, l, hcl⟩ : ∃ c l, t.data.toList = c :: l := by
        cases hx : t.data.toList with
        | nil => have := len_z t; rw [hx] at this; simp at this; omega
        | cons c l => exact ⟨c, l, rfl⟩
      have hwd := Lib.decodeL_width (c :: l)
      have hwl := Lib.decodeL_le (c :: l) (by simp)
      have hrn := Lib.decodeL_rune (c :: l)
      have hhid := hid_rune c l
      rw [← hcl] at hwd hrn hhid hwl
      have hlen := len_z t
      have HD := Lib.hid (Tryz.utf8_DecodeRuneInString t wo (HE.out wo HB.out))
      rw [dec_whole t h0] at HD
      generalize (Lib.decodeL t.data.toList).1 = q at *
      generalize (Lib.decodeL t.data.toList).2 = n at *
      have hn1 : 1 ≤ n := hwd
      have hn2 : n ≤ t.size := by omega
      have HC := Lib.hid (fun W => holds_hid q (by omega) W)
      have hext : (t.extract n t.size).size = t.size - n := by
        have h5 := len_z (t.extract n t.size)
        rw [extract_drop, List.length_drop] at h5
        omega
      obtain ⟨b, hb⟩ : ∃ b, setC q = b := ⟨_, rfl⟩
      rw [hb] at HC hhid
      have HT2 := Lib.hid hhid
      clear hhid hcl hwd hlen hrn hb hwl
      cases b with
      | false =>
        have hF : Hid (t = ⟨r.toArray⟩) := Lib.hid (by
          apply bytes_ext'
          rw [← HT.out, HT2.out]; rfl)
        clear hext
        go_wp2_with fail
        refine HD.out.mono ?_; rintro e w1 ⟨rfl, hb1⟩
        have HB1 := Lib.hid (HB.out.trans (hb1.mono HB.out.size))
        clear hb1
        go_wp2_with fail
        refine (HC.out _).mono ?_; rintro e w2 ⟨rfl, hb2⟩
        have HB2 := Lib.hid (HB1.out.trans (hb2.mono HB1.out.size))
        clear hb2
        go_wp2_with fail
        go_ret
        exact ⟨ret_s hF.out, HB2.out⟩
      | true =>
        have hle : (n : Int) ≤ (t.size : Int) := by omega
        have hF : Hid (hid0 (t.extract n t.size).data.toList = r) := Lib.hid (by
          rw [extract_drop, ← HT.out, HT2.out]; rfl)
        obtain ⟨t2, ht2⟩ : ∃ t2, t.extract n t.size = t2 := ⟨_, rfl⟩
        rw [ht2] at hF hext
        obtain ⟨g, rfl⟩ : ∃ g, gk = g + n := ⟨gk - n, by omega⟩
        have hz2 : t2.size = g := by omega
        have HZ2 := Lib.hid hz2
        have HTG := Lib.hid htg
        clear hext hz2 htg
        go_wp2_with fail
        refine HD.out.mono ?_; rintro e w1 ⟨rfl, hb1⟩
        have HB1 := Lib.hid (HB.out.trans (hb1.mono HB.out.size))
        clear hb1
        go_wp2_with fail
        refine (HC.out _).mono ?_; rintro e w2 ⟨rfl, hb2⟩
        have HB2 := Lib.hid (HB1.out.trans (hb2.mono HB1.out.size))
        clear hb2
        go_wp2_with fail
        go_roundg g
        case measure => omega
        case rel => exact ⟨t2, rfl, HZ2.out, by have := HZ2.out; have := HTG.out; omega, hF, HB2⟩
    · have hF : Hid (t = ⟨r.toArray⟩) := Lib.hid (by
        apply bytes_ext'
        have h5 := len_z t
        have h6 : t.data.toList = [] := List.length_eq_zero_iff.1 (by omega)
        rw [← HT.out, h6]; rfl)
      go_wp2_with fail
      go_ret
      exact ⟨ret_s hF.out, HB.out⟩
set_option maxRecDepth 100000 in
set_option maxHeartbeats 1000000 in
/-- TrimLeft at what lex passes over. -/
theorem trimH_any (s : ByteArray) (hs : s.size ≤ 1000000) (w : World) (hE : EnvU w) :
    Calls Tryz.prog 76 #[.string s, .string ⟨#[32, 9, 13, 10, 44, 239, 187, 191]⟩] w fun e w' => e = .returned (.string ⟨(hid0 s.data.toList).toArray⟩) ∧ Below w.heap.size w w' := by
  rcases empty_z s with ⟨h0, h1, h2, h3⟩ | ⟨h0, h1, h2, h3⟩
  · have HU := Lib.hid (fun W (h : Below w.heap.size w W) => trimU_any s hs W (hE.below h))
    have HN := Lib.hid (fun W => set_none W)
    have hi2 : (Tryz.prog.info? 166).map (·.size) = some (Lib.setCells hidB).size := by rw [Lib.setCells_size]; exact set_size
    have hsc : (storeCells ⟨w.heap.size + 1, 0, none⟩ (Lib.setCells hidB).toList 0).run Tryz.prog ((w.alloc (.cells (Lib.setCells hidB) 166)).alloc (.cells (Array.replicate 256 (.bool false)) 166)) = .ok () ((w.alloc (.cells (Lib.setCells hidB) 166)).alloc (.cells (Lib.setCells hidB) 166)) := by
      have := run_storeCells_new (P := Tryz.prog) (w.alloc (.cells (Lib.setCells hidB) 166)) 166 (Array.replicate 256 (.bool false)) (Lib.setCells hidB) hi2 (by rw [Lib.setCells_size, Array.size_replicate]) (Lib.setCells_one _)
      simpa using this
    have hv116 := set_zero
    clear h3 hE
    go_enter Tryz.func76, Tryz.ntmps76
    go_wp2_with fail
    refine (HN.out _).mono ?_; rintro e w1 ⟨rfl, rfl⟩
    go_wp2_with fail
    (try (rw [Oper.upon_skip]; go_wp2_with fail))
    clear hsc
    refine (HU.out _ (((Below.refl _ _).alloc (Nat.le_refl _) _).alloc (by simp) _)).mono ?_; rintro e w2 ⟨rfl, hb⟩
    go_wp2_with fail
    go_ret
    exact ⟨rfl, (((Below.refl _ _).alloc (Nat.le_refl _) _).alloc (by simp) _).trans (hb.mono (by simp; omega))⟩
  · have hF : (⟨(hid0 s.data.toList).toArray⟩ : ByteArray) = s := by
      have h6 : s.data.toList = [] := List.length_eq_zero_iff.1 (by rw [len_z]; exact h0)
      rw [bytes_ext' h6]; rfl
    rw [hF]
    clear hF h3
    go_enter Tryz.func76, Tryz.ntmps76
    go_wp2_with fail
    go_ret
    exact ⟨rfl, Below.refl _ _⟩
end Go.Proofs.YtgaknbnhmoddcaaGreatDoor
namespace Go.Proofs.YtgaknbnhmoddcaaGreatDoor
open Go.Lib
theorem tell_end (e : Tok) (he : kt e = (0, [])) : tellT e = [] := by
  unfold kt at he
  injection he with h1 h2
  unfold tellT
  rw [if_neg (by rw [h1]; decide), h2]
end Go.Proofs.YtgaknbnhmoddcaaGreatDoor
namespace Go.Proofs.YtgaknbnhmoddcaaGreatDoor
open Go.Lib
/-- What is left, and no line end ahead of it. -/
def Nl (l t : List UInt8) : Prop := ∃ u, l = u ++ t ∧ ∀ c ∈ u, c ≠ 10
theorem Nl.refl (l : List UInt8) : Nl l l := ⟨[], rfl, fun c h => by cases h⟩
theorem Nl.trans {l t v : List UInt8} (h : Nl l t) (h' : Nl t v) : Nl l v := by
  obtain ⟨u, rfl, hu⟩ := h
  obtain ⟨w, rfl, hw⟩ := h'
  refine ⟨u ++ w, by rw [List.append_assoc], fun c hc => ?_⟩
  rcases List.mem_append.1 hc with hc | hc
  · exact hu c hc
  · exact hw c hc
end Go.Proofs.YtgaknbnhmoddcaaGreatDoor
namespace Go.Proofs.YtgaknbnhmoddcaaGreatDoor
open Go.Lib
theorem skip_more : ∀ (n f : Nat) (l : List UInt8), l.length ≤ n → l.length < f → skipG f l = skip0 l
  | n, 0, l, h, hf => by omega
  | n, f + 1, l, h, hf => by
    have h0 : (hid0 l).length ≤ l.length := hid_len _ l
    unfold skip0
    simp only [skipG]
    cases hx : hid0 l with
    | nil => rfl
    | cons c r =>
      rw [hx] at h0
      simp only
      split
      · rename_i hc
        split
        · rfl
        · subst hc
          have hd : ((35 :: r).dropWhile lineC).length ≤ r.length := by
            rw [List.dropWhile_cons, if_pos (by decide)]; exact dwhile_len lineC r
          simp only [List.length_cons] at h0
          match n, h with
          | 0, h => omega
          | n + 1, h => rw [skip_more n f _ (by omega) (by omega), skip_more n l.length _ (by omega) (by omega)]
      · rfl
theorem skip_eq (l : List UInt8) : skip0 l = match hid0 l with
    | [] => ([], true)
    | c :: r => if c = 35 then
        (let ln := (c :: r).takeWhile lineC
         if ln.any badC then ((c :: r).drop (ln.takeWhile fun x => !badC x).length, false) else skip0 ((c :: r).dropWhile lineC))
      else (c :: r, true) := by
  have h0 : (hid0 l).length ≤ l.length := hid_len _ l
  conv => lhs; unfold skip0; rw [skipG]
  cases hx : hid0 l with
  | nil => rfl
  | cons c r =>
    rw [hx] at h0
    simp only
    split
    · rename_i hc
      subst hc
      split
      · rfl
      · have hd : ((35 :: r).dropWhile lineC).length ≤ r.length := by
          rw [List.dropWhile_cons, if_pos (by decide)]; exact dwhile_len lineC r
        simp only [List.length_cons] at h0
        exact skip_more _ _ _ (Nat.le_refl _) (by omega)
    · rfl
end Go.Proofs.YtgaknbnhmoddcaaGreatDoor
namespace Go.Proofs.YtgaknbnhmoddcaaGreatDoor
open Go.RowKit
theorem hid_drop : ∀ (n : Nat) (d : List UInt8), d.length ≤ n → hid0 d = d.drop (d.length - (hid0 d).length)
  | 0, d, h => by
    have : d = [] := List.length_eq_zero_iff.1 (by omega)
    subst this; rfl
  | n + 1, [], h => rfl
  | n + 1, c :: r, h => by
    simp only [List.length_cons] at h
    rw [hid_cons]
    split
    · have ih := hid_drop n r (by omega)
      have hl := hid_len r.length r
      have hl : (hid0 r).length ≤ r.length := hl
      rw [show (c :: r).length - (hid0 r).length = (r.length - (hid0 r).length) + 1 from by rw [List.length_cons]; omega, List.drop_succ_cons]
      exact ih
    · split
      · have hd : ((c :: r).drop 3).length ≤ n := by rw [List.length_drop, List.length_cons]; omega
        have ih := hid_drop n ((c :: r).drop 3) hd
        have hl : (hid0 ((c :: r).drop 3)).length ≤ ((c :: r).drop 3).length := hid_len _ _
        rename_i hp
        have h3 := (List.isPrefixOf_iff_prefix.1 hp).length_le
        have h3 : 3 ≤ (c :: r).length := h3
        conv => lhs; rw [ih]
        rw [List.drop_drop]
        congr 1
        rw [List.length_drop] at hl ⊢
        omega
      · rw [Nat.sub_self, List.drop_zero]
theorem while_mem (p : UInt8 → Bool) (b : UInt8) : ∀ l : List UInt8, b ∈ l.takeWhile p → p b = true
  | [], h => by cases h
  | c :: l, h => by
    rw [List.takeWhile_cons] at h
    split at h
    · rcases List.mem_cons.1 h with h | h
      · subst h; assumption
      · exact while_mem p b l h
    · cases h
theorem line_any (R : List UInt8) : (Lib.indexAny R [13, 10] = -1 ∧ R.takeWhile lineC = R) ∨ (∃ k : Nat, Lib.indexAny R [13, 10] = (k : Int) ∧ k < R.length ∧ (R.takeWhile lineC).length = k) := by
  have key : ∀ (L : List UInt8) (c : UInt8), lineC c = !([13, 10] : List UInt8).contains c := by
    intro _ c
    exact of_decide_eq_true (all256' (f := fun c => decide (lineC c = !([13, 10] : List UInt8).contains c)) (by decide +kernel) c)
  have hno : ∀ k : Nat, k ≤ (R.takeWhile lineC).length → Lib.NoAny R [13, 10] k := by
    intro k hk j b hj hb
    have hjl : j < (R.takeWhile lineC).length := by omega
    have h1 : (R.takeWhile lineC)[j]? = some b := by
      have e : R[j]? = ((R.takeWhile lineC) ++ R.dropWhile lineC)[j]? := by rw [List.takeWhile_append_dropWhile]
      rw [hb, List.getElem?_append_left hjl] at e
      exact e.symm
    have hm : b ∈ R.takeWhile lineC := List.mem_of_getElem? h1
    have := while_mem _ _ _ hm
    rw [key R b] at this
    simpa using this
  by_cases h : (R.takeWhile lineC).length < R.length
  · refine Or.inr ⟨_, ?_, h, rfl⟩
    obtain ⟨b, hb⟩ : ∃ b, R[(R.takeWhile lineC).length]? = some b := ⟨_, List.getElem?_eq_getElem h⟩
    refine Lib.indexAny_hit (hno _ (Nat.le_refl _)) hb ?_
    obtain ⟨h1, h2⟩ := while_drop lineC R
    have h3 : (R.dropWhile lineC).head? = some b := by rw [h1, List.head?_drop]; exact hb
    have := h2 b h3
    rw [key R b] at this
    cases hq : ([13, 10] : List UInt8).contains b with
    | true => rfl
    | false => rw [hq] at this; cases this
  · have hle := while_le lineC R
    have he : (R.takeWhile lineC).length = R.length := by omega
    have hT : R.takeWhile lineC = R := by
      have := List.takeWhile_append_dropWhile (p := lineC) (l := R)
      have hl := congrArg List.length this
      rw [List.length_append] at hl
      have h0 : R.dropWhile lineC = [] := List.length_eq_zero_iff.1 (by omega)
      rw [h0, List.append_nil] at this
      exact this
    refine Or.inl ⟨?_, hT⟩
    have := hno R.length (by omega)
    exact Lib.indexAny_none this
theorem ret_nb {a c : Int} {b d : Bool} (h : a = c) (h2 : b = d) : Ending.returned (.tuple #[.int .i64 a, .bool b]) = .returned (.tuple #[.int .i64 c, .bool d]) := by rw [h, h2]
/-- Nothing bad so far. -/
def Good (R : List UInt8) (k : Nat) : Prop := (R.take k).any badC = false
theorem Good.step {R : List UInt8} {k : Nat} (h : Good R k) (hk : k < R.length) (hb : badC R[k] = false) : Good R (k + 1) := by
  unfold Good at *
  rw [List.take_succ_eq_append_getElem hk, List.any_append, h]
  simp [hb]
theorem Good.stop {R : List UInt8} {k E : Nat} (h : Good R k) (hk : k < R.length) (hkE : k < E) (hb : badC R[k] = true) : (R.take E).any badC = true ∧ ((R.take E).takeWhile fun x => !badC x).length = k := by
  have e : R.take E = R.take k ++ R[k] :: ((R.take E).drop (k + 1)) := by
    have hl : k < (R.take E).length := by rw [List.length_take]; omega
    have := List.take_append_drop k (R.take E)
    rw [List.take_take, Nat.min_eq_left (by omega), List.drop_eq_getElem_cons hl, List.getElem_take] at this
    exact this.symm
  rw [e]
  unfold Good at h
  constructor
  · rw [List.any_append, List.any_cons, hb]; simp
  · rw [List.takeWhile_append_of_pos (by
      intro a ha
      have := List.any_eq_false.1 h a ha
      simpa using this), List.takeWhile_cons]
    simp [hb]
    rw [Nat.min_eq_left (by omega)]
set_option maxRecDepth 100000 in
set_option maxHeartbeats 2000000 in
theorem skip_any (s : ByteArray) (hs : s.size ≤ 1000000) (w : World) (hE : EnvU w) :
    Calls Tryz.prog 50 #[.string s] w fun e w' => e = .returned (.tuple #[.int .i64 ((s.size - (skip0 s.data.toList).1.length : Nat) : Int), .bool (skip0 s.data.toList).2]) ∧ Below w.heap.size w w' := by
  obtain ⟨l, hl⟩ : ∃ l, s.data.toList = l := ⟨_, rfl⟩
  obtain ⟨kk, hkk⟩ : ∃ kk : Int, ((s.size - (skip0 l).1.length : Nat) : Int) = kk := ⟨_, rfl⟩
  obtain ⟨bb, hbb⟩ : ∃ bb, (skip0 l).2 = bb := ⟨_, rfl⟩
  rw [hl, hkk, hbb]
  have HKK := Lib.hid hkk
  have HBB := Lib.hid hbb
  have hll := len_z s
  rw [hl] at hll
  have HLL := Lib.hid hll
  have HL := Lib.hid hl
  have HT := Lib.hid (fun (t : ByteArray) (ht : t.size ≤ 1000000) (W : World) (h : Below w.heap.size w W) => trimH_any t ht W (hE.below h))
  clear hl hkk hbb hE hll
  go_enter Tryz.func50, Tryz.ntmps50
  go_wp2_with fail
  go_loopg [2] s.size (fun g v wx => ∃ n : Nat, v = .int .i64 n ∧ n + g = s.size ∧ Hid (skip0 (l.drop n) = skip0 l) ∧ Hid (Below w.heap.size w wx))
  case atStart => exact ⟨0, rfl, by omega, Lib.hid (by rw [List.drop_zero]), Lib.hid (Below.refl _ _)⟩
  case round =>
    rename World => wo
    generalize gk = g0 at *
    obtain ⟨n, rfl, hng, HS, HB⟩ := hrel
    by_cases h0 : n < s.size
    · obtain ⟨u, hu⟩ : ∃ u, s.extract n s.size = u := ⟨_, rfl⟩
      have hul : u.data.toList = l.drop n := by rw [← hu, extract_drop, HL.out]
      have huz : u.size = s.size - n := by
        have := len_z u
        rw [hul, List.length_drop, HLL.out] at this; omega
      obtain ⟨R, hR⟩ : ∃ R, hid0 (l.drop n) = R := ⟨_, rfl⟩
      have hRl : R.length ≤ s.size - n := by
        have := hid_len (l.drop n).length (l.drop n)
        have : (hid0 (l.drop n)).length ≤ (l.drop n).length := this
        rw [hR, List.length_drop, HLL.out] at this; exact this
      obtain ⟨t, ht⟩ : ∃ t : ByteArray, (⟨R.toArray⟩ : ByteArray) = t := ⟨_, rfl⟩
      have htl : t.data.toList = R := by rw [← ht]
      have htz : t.size = R.length := by rw [← len_z, htl]
      have ht6 : t.size ≤ 1000000 := by omega
      have HTR := Lib.hid (HT.out u (by omega) wo HB.out)
      rw [hul, hR, ht] at HTR
      obtain ⟨m, hm⟩ : ∃ m : Nat, s.size - t.size = m := ⟨_, rfl⟩
      have hmz : (s.size : Int) - (t.size : Int) = (m : Int) := by omega
      have hmt : m + t.size = s.size := by omega
      have hmn : n ≤ m := by omega
      have hRd : R = l.drop m := by
        have := hid_drop (l.drop n).length (l.drop n) (Nat.le_refl _)
        rw [hR, List.drop_drop, List.length_drop, HLL.out] at this
        rw [this]
        congr 1
        have : R.length ≤ s.size - n := hRl
        omega
      have hse := skip_eq (l.drop n)
      rw [HS.out, hR] at hse
      obtain ⟨p, hp⟩ : ∃ p, Lib.hasPrefix R [35] = p := ⟨_, rfl⟩
      have HP : Hid (∀ w, Calls Tryz.prog 77 #[.string t, .string ⟨#[35]⟩] w fun e w' => e = .returned (.bool p) ∧ w = w') := Lib.hid (fun w => (Tryz.strings_HasPrefix t ⟨#[35]⟩ w).mono fun e w' ⟨h1, h2⟩ => ⟨h1.trans (by rw [← hp, htl]), h2.symm⟩)
      have hpc : (p = false ∧ skip0 l = (R, true)) ∨ (p = true ∧ ∃ r, R = 35 :: r) := by
        rw [← hp]
        cases hx : R with
        | nil => rw [hx] at hse; exact Or.inl ⟨rfl, hse⟩
        | cons c r =>
          rw [hx] at hse
          by_cases hc : c = 35
          · subst hc; exact Or.inr ⟨by unfold Lib.hasPrefix; rfl, r, rfl⟩
          · simp only [hc, if_false] at hse
            refine Or.inl ⟨?_, hse⟩
            unfold Lib.hasPrefix
            have : ((35 : UInt8) == c) = false := beq_eq_false_iff_ne.2 (fun e => hc e.symm)
            simp [List.isPrefixOf, this]
      rcases hpc with ⟨rfl, hsk⟩ | ⟨rfl, r, hr⟩
      · have F1 : Hid ((m : Int) = kk) := Lib.hid (by rw [← HKK.out, hsk]; congr 1; show m = s.size - R.length; omega)
        have F2 : Hid (true = bb) := Lib.hid (by rw [← HBB.out, hsk])
        have HU := Lib.hid hu
        have HTZ := Lib.hid htz
        have HMT := Lib.hid hmt
        clear hmt
        clear hse hp hsk hR hul ht htl hRd hm htz
        go_wp2_with fail
        refine HTR.out.mono ?_; rintro e w1 ⟨rfl, hb⟩
        have HB1 := Lib.hid (HB.out.trans (hb.mono HB.out.size))
        clear hb
        go_wp2_with fail
        refine (HP.out _).mono ?_; rintro e w2 ⟨rfl, rfl⟩
        go_wp2_with fail
        go_ret2
        exact ⟨ret_nb F1.out F2.out, HB1.out⟩
      · obtain ⟨E, hEE⟩ : ∃ E, (R.takeWhile lineC).length = E := ⟨_, rfl⟩
        have hwd := while_drop lineC R
        have htk : R.takeWhile lineC = R.take E := by
          have := List.takeWhile_append_dropWhile (p := lineC) (l := R)
          conv => rhs; rw [← this]
          rw [← hEE, List.take_left]
        have hEl : E ≤ R.length := by rw [← hEE]; exact while_le _ _
        have hE1 : 1 ≤ E := by
          rw [← hEE, hr, List.takeWhile_cons, if_pos (by decide)]; simp
        rw [hr] at hse
        simp only [if_true] at hse
        rw [← hr, htk, hwd.1, hEE] at hse
        have hany := line_any R
        rw [hEE] at hany
        obtain ⟨ix, hix⟩ : ∃ ix, Lib.indexAny R [13, 10] = ix := ⟨_, rfl⟩
        have HI := Lib.hid (fun W => any_any t ht6 W)
        rw [htl, hix] at HI
        rw [hix] at hany
        have hixc : (ix = -1 ∧ E = t.size) ∨ (ix = (E : Int)) := by
          rcases hany with ⟨h1, h2⟩ | ⟨k, h1, h2, h3⟩
          · refine Or.inl ⟨h1, ?_⟩
            rw [htz, ← hEE, h2]
          · exact Or.inr (by rw [h1, h3])
        have HSE := Lib.hid hse
        have HRD := Lib.hid hRd
        have HTL := Lib.hid htl
        have HTZ := Lib.hid htz
        have HU := Lib.hid hu
        have hEt : E ≤ t.size := by rw [htz]; exact hEl
        have HMT := Lib.hid hmt
        clear hmt hse hRd htl htz hany hwd htk hEE hr hp hR hul ht hix hm hRl huz
        rcases hixc with ⟨rfl, hEz⟩ | rfl
        · subst hEz
          have F0 : Hid (∀ k, (hk : k < R.length) → k < t.size → badC R[k] = true → Good R k → ((m : Int) + (k : Int) = kk ∧ false = bb)) := Lib.hid (fun k hk hkE hb hg => by
            obtain ⟨a1, a2⟩ := hg.stop hk hkE hb
            have hq := HSE.out
            simp only [a1, if_true, a2] at hq
            rw [← HKK.out, ← HBB.out, hq]
            refine ⟨?_, rfl⟩
            show (m : Int) + (k : Int) = ((s.size - (R.drop k).length : Nat) : Int)
            rw [List.length_drop]
            have := HTZ.out
            have := HMT.out
            omega)
          have F3 : Hid (Good R t.size → skip0 (l.drop (m + t.size)) = skip0 l) := Lib.hid (fun hg => by
            have hq := HSE.out
            unfold Good at hg
            simp only [hg, Bool.false_eq_true, if_false] at hq
            rw [hq, HRD.out, List.drop_drop])
          have hui := HU.out
          have hnz : 0 ≤ (n : Int) := by omega
          go_wp2_with fail
          refine HTR.out.mono ?_; rintro e w1 ⟨rfl, hb⟩
          have HB1 := Lib.hid (HB.out.trans (hb.mono HB.out.size))
          clear hb hui
          go_wp2_with fail
          refine (HP.out _).mono ?_; rintro e w2 ⟨rfl, rfl⟩
          go_wp2_with fail
          refine (HI.out _).mono ?_; rintro e w3 ⟨rfl, hb⟩
          have HB2 := Lib.hid (HB1.out.trans (hb.mono HB1.out.size))
          clear hb
          go_wp2_with fail
          go_loop [2, 31] (fun n2 i => ∃ k : Nat, i = .int .i64 k ∧ n2 = .int .i64 m ∧ k ≤ t.size ∧ Hid (Good R k)) (fun _ i => t.size - (intOf i).toNat)
          case atStart => exact ⟨0, rfl, rfl, Nat.zero_le _, Lib.hid rfl⟩
          case round =>
            obtain ⟨k, rfl, rfl, hk, HG⟩ := hrel
            by_cases hlt : k < t.size
            · have hkt : k < t.size := by omega
              obtain ⟨x, hx⟩ : ∃ x : UInt8, t[k]'hkt = x := ⟨_, rfl⟩
              have hkR : k < R.length := by have := HTZ.out; omega
              have HXR : Hid (R[k]'hkR = x) := Lib.hid (by
                rw [← hx]
                have e : R[k]? = some (t[k]'hkt) := by rw [← HTL.out]; exact Lib.data_getElem? t k hkt
                rw [List.getElem?_eq_getElem hkR] at e
                exact Option.some.inj e)
              by_cases hb1 : x.toNat < 32
              · by_cases hb2 : x = 9
                · subst hb2
                  have HG2 : Hid (Good R (k + 1)) := Lib.hid (HG.out.step hkR (by rw [HXR.out]; rfl))
                  go_wp2_with fail
                  go_round
                  case rel => exact ⟨k + 1, by go_num, rfl, by omega, HG2⟩
                  case measure => simp [intOf]; omega
                · have hb3 : ¬ ((x.toNat : Int) = 9) := u8_ne 9 x (fun e => hb2 e.symm)
                  have hb4 : (x.toNat : Int) < 32 := by omega
                  have F4 := Lib.hid (F0.out k hkR hlt (by rw [HXR.out]; unfold badC; simp [hb1, hb2]) HG.out)
                  clear hb2 hb1
                  go_wp2_with fail
                  go_ret2
                  exact ⟨ret_nb F4.out.1 F4.out.2, HB2.out⟩
              · have hb4 : ¬ ((x.toNat : Int) < 32) := by omega
                have HG2 : Hid (Good R (k + 1)) := Lib.hid (HG.out.step hkR (by rw [HXR.out]; unfold badC; simp [hb1]))
                clear hb1
                go_wp2_with fail
                go_round
                case rel => exact ⟨k + 1, by go_num, rfl, by omega, HG2⟩
                case measure => simp [intOf]; omega
            · have hke : k = t.size := by omega
              have F5 : Hid (skip0 (l.drop (m + t.size)) = skip0 l) := Lib.hid (F3.out (hke ▸ HG.out))
              clear hke
              have hmt := HMT.out
              obtain ⟨g, rfl⟩ : ∃ g, g0 = g + (m + t.size - n) := ⟨g0 - (m + t.size - n), by omega⟩
              go_wp2_with fail
              go_roundg g
              case measure => have := HMT.out; omega
              case rel => have := HMT.out; exact ⟨m + t.size, by go_num, by omega, F5, HB2⟩
        · have F0 : Hid (∀ k, (hk : k < R.length) → k < E → badC R[k] = true → Good R k → ((m : Int) + (k : Int) = kk ∧ false = bb)) := Lib.hid (fun k hk hkE hb hg => by
            obtain ⟨a1, a2⟩ := hg.stop hk hkE hb
            have hq := HSE.out
            simp only [a1, if_true, a2] at hq
            rw [← HKK.out, ← HBB.out, hq]
            refine ⟨?_, rfl⟩
            show (m : Int) + (k : Int) = ((s.size - (R.drop k).length : Nat) : Int)
            rw [List.length_drop]
            have := HTZ.out
            have := HMT.out
            omega)
          have F3 : Hid (Good R E → skip0 (l.drop (m + E)) = skip0 l) := Lib.hid (fun hg => by
            have hq := HSE.out
            unfold Good at hg
            simp only [hg, Bool.false_eq_true, if_false] at hq
            rw [hq, HRD.out, List.drop_drop])
          have hui := HU.out
          have hnz : 0 ≤ (n : Int) := by omega
          go_wp2_with fail
          refine HTR.out.mono ?_; rintro e w1 ⟨rfl, hb⟩
          have HB1 := Lib.hid (HB.out.trans (hb.mono HB.out.size))
          clear hb hui
          go_wp2_with fail
          refine (HP.out _).mono ?_; rintro e w2 ⟨rfl, rfl⟩
          go_wp2_with fail
          refine (HI.out _).mono ?_; rintro e w3 ⟨rfl, hb⟩
          have HB2 := Lib.hid (HB1.out.trans (hb.mono HB1.out.size))
          clear hb
          go_wp2_with fail
          go_loop [2, 31] (fun n2 i => ∃ k : Nat, i = .int .i64 k ∧ n2 = .int .i64 m ∧ k ≤ E ∧ Hid (Good R k)) (fun _ i => E - (intOf i).toNat)
          case atStart => exact ⟨0, rfl, rfl, Nat.zero_le _, Lib.hid rfl⟩
          case round =>
            obtain ⟨k, rfl, rfl, hk, HG⟩ := hrel
            by_cases hlt : k < E
            · have hkt : k < t.size := by omega
              obtain ⟨x, hx⟩ : ∃ x : UInt8, t[k]'hkt = x := ⟨_, rfl⟩
              have hkR : k < R.length := by have := HTZ.out; omega
              have HXR : Hid (R[k]'hkR = x) := Lib.hid (by
                rw [← hx]
                have e : R[k]? = some (t[k]'hkt) := by rw [← HTL.out]; exact Lib.data_getElem? t k hkt
                rw [List.getElem?_eq_getElem hkR] at e
                exact Option.some.inj e)
              by_cases hb1 : x.toNat < 32
              · by_cases hb2 : x = 9
                · subst hb2
                  have HG2 : Hid (Good R (k + 1)) := Lib.hid (HG.out.step hkR (by rw [HXR.out]; rfl))
                  go_wp2_with fail
                  go_round
                  case rel => exact ⟨k + 1, by go_num, rfl, by omega, HG2⟩
                  case measure => simp [intOf]; omega
                · have hb3 : ¬ ((x.toNat : Int) = 9) := u8_ne 9 x (fun e => hb2 e.symm)
                  have hb4 : (x.toNat : Int) < 32 := by omega
                  have F4 := Lib.hid (F0.out k hkR hlt (by rw [HXR.out]; unfold badC; simp [hb1, hb2]) HG.out)
                  clear hb2 hb1
                  go_wp2_with fail
                  go_ret2
                  exact ⟨ret_nb F4.out.1 F4.out.2, HB2.out⟩
              · have hb4 : ¬ ((x.toNat : Int) < 32) := by omega
                have HG2 : Hid (Good R (k + 1)) := Lib.hid (HG.out.step hkR (by rw [HXR.out]; unfold badC; simp [hb1]))
                clear hb1
                go_wp2_with fail
                go_round
                case rel => exact ⟨k + 1, by go_num, rfl, by omega, HG2⟩
                case measure => simp [intOf]; omega
            · have hke : k = E := by omega
              have F5 : Hid (skip0 (l.drop (m + E)) = skip0 l) := Lib.hid (F3.out (hke ▸ HG.out))
              clear hke
              have hmt := HMT.out
              obtain ⟨g, rfl⟩ : ∃ g, g0 = g + (m + E - n) := ⟨g0 - (m + E - n), by omega⟩
              go_wp2_with fail
              go_roundg g
              case measure => have := HMT.out; omega
              case rel => have := HMT.out; exact ⟨m + E, by go_num, by omega, F5, HB2⟩
    · have hn : n = s.size := by omega
      have hF := HS.out
      rw [hn, List.drop_of_length_le (by rw [HLL.out]; exact Nat.le_refl _)] at hF
      have F1 : Hid ((n : Int) = kk) := Lib.hid (by rw [← HKK.out, ← hF]; show (n : Int) = ((s.size - 0 : Nat) : Int); omega)
      have F2 : Hid (true = bb) := Lib.hid (by rw [← HBB.out, ← hF]; rfl)
      clear hF hn
      go_wp2_with fail
      go_ret2
      exact ⟨ret_nb F1.out F2.out, HB.out⟩
end Go.Proofs.YtgaknbnhmoddcaaGreatDoor
namespace Go.Proofs.YtgaknbnhmoddcaaGreatDoor
theorem skip_suf : ∀ (f : Nat) (t : List UInt8), ∃ n, (skipG f t).1 = t.drop n
  | 0, t => ⟨0, by simp [skipG]⟩
  | f + 1, t => by
    have hd := hid_drop t.length t (Nat.le_refl _)
    rw [skipG]
    cases hx : hid0 t with
    | nil => exact ⟨t.length, by simp⟩
    | cons c r =>
      rw [hx] at hd
      simp only
      split
      · split
        · exact ⟨_, by show List.drop _ (c :: r) = _; conv => lhs; rw [hd]
                       rw [List.drop_drop]⟩
        · obtain ⟨n, hn⟩ := skip_suf f ((c :: r).dropWhile lineC)
          rw [hn, (while_drop lineC (c :: r)).1]
          exact ⟨_, by conv => lhs; rw [hd]
                       rw [List.drop_drop, List.drop_drop]⟩
      · exact ⟨_, hd⟩
theorem skip_drop (t : List UInt8) : (skip0 t).1 = t.drop (t.length - (skip0 t).1.length) ∧ (skip0 t).1.length ≤ t.length := by
  obtain ⟨n, hn⟩ := skip_suf (t.length + 1) t
  have hn : (skip0 t).1 = t.drop n := hn
  rw [hn, List.length_drop]
  refine ⟨?_, by omega⟩
  by_cases h : n ≤ t.length
  · congr 1; omega
  · rw [List.drop_of_length_le (by omega), List.drop_of_length_le (by omega)]
theorem lex_bad (k a : Nat) (t acc : List _) (h : (skip0 t).2 = false) : lexG k a t acc = .error (170, a + (t.length - (skip0 t).1.length)) := by
  cases k <;> (rw [lexG]; simp only; rw [h]; rfl)
theorem lex_done (k a : Nat) (t : List UInt8) (acc : List Tok) (h : (skip0 t).2 = true) (he : (skip0 t).1 = []) : lexG k a t acc = .ok (acc ++ [⟨0, [], ((a + (t.length - (skip0 t).1.length) : Nat) : Int)⟩]) := by
  cases k <;> (rw [lexG]; simp only; rw [h, he]; rfl)
theorem lex_fuel (a : Nat) (t : List UInt8) (acc : List Tok) (h : (skip0 t).2 = true) (he : (skip0 t).1 ≠ []) : lexG 0 a t acc = .error (171, a + (t.length - (skip0 t).1.length)) := by
  rw [lexG]; simp only; rw [h]
  cases hx : (skip0 t).1 with
  | nil => exact absurd hx he
  | cons c r => rfl
theorem lex_none (k a : Nat) (t : List UInt8) (acc : List Tok) (h : (skip0 t).2 = true) (he : (skip0 t).1 ≠ []) (hn : tokG (skip0 t).1 = none) : lexG (k + 1) a t acc = .error (170, a + (t.length - (skip0 t).1.length)) := by
  rw [lexG]; simp only; rw [h, hn]
  cases hx : (skip0 t).1 with
  | nil => exact absurd hx he
  | cons c r => rfl
theorem lex_some (k a : Nat) (t : List UInt8) (acc : List Tok) (kd : UInt8) (tx : List UInt8) (n : Nat) (h : (skip0 t).2 = true) (he : (skip0 t).1 ≠ []) (hn : tokG (skip0 t).1 = some (kd, tx, n)) : lexG (k + 1) a t acc = lexG k (a + (t.length - (skip0 t).1.length) + n) ((skip0 t).1.drop n) (acc ++ [⟨kd, tx, ((a + (t.length - (skip0 t).1.length) : Nat) : Int)⟩]) := by
  conv => lhs; rw [lexG]
  simp only; rw [h, hn]
  cases hx : (skip0 t).1 with
  | nil => exact absurd hx he
  | cons c r => rfl
/-- What each of the four readers tells of a rest. -/
def rdT (j : Nat) (l : List UInt8) : Option (UInt8 × List UInt8 × Nat) := match j with
  | 0 => (nameT l).map fun a => (1, a, a.length)
  | 1 => (numTk l).map fun a => (2, a, a.length)
  | 2 => (txtT l).map fun x => (3, x.1, x.2)
  | _ => (punT l).map fun a => (4, a, a.length)
def tellY (o : Option (UInt8 × List UInt8 × Nat)) : Value := match o with
  | some (k, a, n) => .tuple #[tokV k a 0, .int .i64 (n : Int)]
  | none => .tuple #[tokV 0 [] 0, .int .i64 0]
theorem tok_rd (l : List UInt8) : tokG l = (rdT 0 l).or ((rdT 1 l).or ((rdT 2 l).or (rdT 3 l))) := by
  unfold tokG rdT
  cases nameT l with
  | some a => rfl
  | none =>
    cases numTk l with
    | some a => rfl
    | none =>
      cases txtT l with
      | some x => rfl
      | none => rfl
theorem rd_pos (j : Nat) (l : List UInt8) (hl : l.length ≤ 16384) (hp : ∀ i, i < j → rdT i l = none) (hj : j < 4) (k : UInt8) (a : List UInt8) (n : Nat) (h : rdT j l = some (k, a, n)) : tokG l = some (k, a, n) ∧ 0 < n ∧ n ≤ l.length := by
  have ht : tokG l = some (k, a, n) := by
    rw [tok_rd]
    match j, hj with
    | 0, _ => rw [h]; rfl
    | 1, _ => rw [hp 0 (by omega), h]; rfl
    | 2, _ => rw [hp 0 (by omega), hp 1 (by omega), h]; rfl
    | 3, _ => rw [hp 0 (by omega), hp 1 (by omega), hp 2 (by omega), h]; rfl
  obtain ⟨g1, g2, g3, g4, g5⟩ := tok_may l a k n 0 hl ht
  exact ⟨ht, g4, g5⟩
end Go.Proofs.YtgaknbnhmoddcaaGreatDoor
namespace Go.Proofs.YtgaknbnhmoddcaaGreatDoor
open Go.Lib
/-- So far: what has been put, whether a backslash stands ahead, what is left, how many bytes have been passed. -/
def Sc (r pre : List UInt8) (q : Bool) (t : List UInt8) (k : Nat) : Prop := scanT false r = (scanT q t).map fun x => (pre ++ x.1, x.2 + k)
theorem Sc.start (r : List UInt8) : Sc r [] false r 0 := by
  unfold Sc
  cases scanT false r <;> simp
theorem Sc.step {r pre t : List UInt8} {q : Bool} {c : UInt8} {k : Nat} (h : Sc r pre q (c :: t) k) (hc : (!q && c == 34) = false) :
    Sc r (pre ++ (if c == 9 && !q then [92, 116] else [c])) (!q && c == 92) t (k + 1) := by
  unfold Sc at *
  rw [h, scanT, hc]
  simp only [Bool.false_eq_true, if_false, Option.map_map]
  cases scanT (!q && c == 92) t with
  | none => rfl
  | some x =>
    simp only [Option.map_some, Function.comp]
    rw [List.append_assoc, Nat.add_assoc, Nat.add_comm 1 k]
theorem Sc.stop {r pre t : List UInt8} {k : Nat} (h : Sc r pre false (34 :: t) k) : scanT false r = some (pre, k + 1) := by
  unfold Sc at h
  rw [h, scanT]
  simp [Nat.add_comm]
theorem txt_quote (c : UInt8) (r : List UInt8) (h : c ≠ 34) : txtT (c :: r) = none := by
  unfold txtT
  dsimp only
  rw [if_pos (Or.inl h)]
end Go.Proofs.YtgaknbnhmoddcaaGreatDoor
namespace Go.Proofs.YtgaknbnhmoddcaaGreatDoor
open Go.RowKit
def rdErr (o : Except Int (List Cel)) : Int := match o with | .error e => e | .ok _ => 0
def rdOut (o : Except Int (List Cel)) : List Cel := match o with | .error _ => [] | .ok l => l
theorem CelSl.nil (W : World) : CelSl (.slice none 0 0) [] W := (OwnC.nil 0 W).sl
theorem PReadE.sl {B : Nat} {o : Except Int (List Cel)} {x : Ending} {W : World} (h : PReadE B o x W) : (rdOut o).length ≤ 2048 ∧ ∃ u, x = .returned (.tuple #[u, .int .i64 (rdErr o)]) ∧ CelSl u (rdOut o) W := by
  cases o with
  | error e => exact ⟨by simp [rdOut], _, h, CelSl.nil W⟩
  | ok out => obtain ⟨h1, u, h2, h3⟩ := h; exact ⟨h1, u, h2, h3.sl⟩
end Go.Proofs.YtgaknbnhmoddcaaGreatDoor
namespace Go.Proofs.YtgaknbnhmoddcaaGreatDoor
open Go.RowKit Go.Lib
def EnvV (p : Nat) (W : World) : Prop := ∀ W', Below p W W' → EnvU W'
theorem EnvV.to {p : Nat} {W W' : World} (h : EnvV p W) (hb : Below p W W') : EnvV p W' := fun W2 h2 => h W2 (hb.trans h2)
end Go.Proofs.YtgaknbnhmoddcaaGreatDoor
namespace Go.Proofs.YtgaknbnhmoddcaaGreatDoor
open Go.RowKit
/-- A builder in block b that holds these bytes. -/
def Bld (B b : Nat) (l : List UInt8) (w : World) : Prop := Lib.IsBuilder 261 5 B b (Lib.byteCells l) w
theorem wdone (B b : Nat) (l : List UInt8) (w : World) (h : Bld B b l w) (hBw : B ≤ w.heap.size) :
    Calls Tryz.prog 207 #[.pointer (some ⟨b, 0, none⟩)] w fun e w' => e = .returned (.string ⟨l.toArray⟩) ∧ Below B w w' :=
  Tryz.Builder_String_any B b l w h hBw
end Go.Proofs.YtgaknbnhmoddcaaGreatDoor
namespace Go.Proofs.YtgaknbnhmoddcaaGreatDoor
open Go.RowKit
/-- What a reader tells: kind, text, how many bytes. -/
def tellX (k : UInt8) (o : Option (List UInt8 × Nat)) : Value := match o with
  | some (a, n) => .tuple #[tokV k a 0, .int .i64 (n : Int)]
  | none => .tuple #[tokV 0 [] 0, .int .i64 0]
/-- While a text is read: the token's cells, the builder. -/
structure TX (w : World) (pre : List UInt8) (W : World) : Prop where
  ht : W.heap[w.heap.size + 1]? = some (.cells #[.int .u8 0, .string ⟨#[]⟩, .int .i64 0] 72 (0, 0))
  hb : Bld (w.heap.size + 2) (w.heap.size + 2) pre W
  bel : Below w.heap.size w W
  sz : w.heap.size + 2 ≤ W.heap.size
theorem TX.step {w W W' : World} {pre pre' : List UInt8} (h : TX w pre W) (hb : Bld (w.heap.size + 2) (w.heap.size + 2) pre' W') (h1 : Below (w.heap.size + 2) W W') : TX w pre' W' :=
  ⟨(h1.block _ (by omega)).trans h.ht, hb, h.bel.trans (h1.mono (by omega)), Nat.le_trans h.sz h1.size⟩
theorem TX.start (w : World) : TX w [] (((w.alloc (.cells #[] 99)).alloc (.cells #[.int .u8 0, .string ⟨#[]⟩, .int .i64 0] 72)).alloc (.cells #[.pointer none, .slice none 0 0] 261)) := by
  refine ⟨?_, ?_, ?_, by simp⟩
  · exact heap_old (heap_new _ _ _ (by simp))
  · exact Or.inl ⟨by omega, .slice none 0 0, heap_new _ _ _ (by simp), World.ownsRow_nil _ _ _ _, by simp [Value.ownBlock]⟩
  · exact (((Below.refl _ _).alloc (Nat.le_refl _) _).alloc (by simp) _).alloc (by simp; omega) _
/-- The token's cells, and nothing older has turned. -/
structure TZ (w : World) (A : Array Value) (W : World) : Prop where
  ht : W.heap[w.heap.size + 1]? = some (.cells A 72 (0, 0))
  bel : Below w.heap.size w W
theorem TZ.step {w W W' : World} {A : Array Value} (h : TZ w A W) (hb : Below W.heap.size W W') : TZ w A W' := ⟨(hb.block _ (heap_lt h.ht)).trans h.ht, h.bel.trans (hb.mono h.bel.size)⟩
theorem TX.done {w W : World} {pre : List UInt8} (h : TX w pre W) : Calls Tryz.prog 207 #[.pointer (some ⟨w.heap.size + 1 + 1, 0, none⟩)] W fun e w' => e = .returned (.string ⟨pre.toArray⟩) ∧ TZ w #[.int .u8 0, .string ⟨#[]⟩, .int .i64 0] w' :=
  (wdone (w.heap.size + 2) (w.heap.size + 2) pre W h.hb h.sz).mono fun e w' ⟨h1, h2⟩ => ⟨h1, (h2.block _ (by omega)).trans h.ht, h.bel.trans (h2.mono (by omega))⟩
set_option maxRecDepth 100000 in
theorem txt_no (s : ByteArray) (h0 : 0 < s.size) (hs : s.size ≤ 17000) (hq : s[0] ≠ 34) (w : World) :
    Calls Tryz.prog 203 #[.agg #[], .string s] w fun e w' => e = .returned (tellX 3 none) ∧ Below w.heap.size w w' := by
  have hq2 : ¬ ((s[0].toNat : Int) = 34) := fun e => hq (by
    rw [← UInt8.ofNat_toNat (x := s[0]), show s[0].toNat = 34 from by omega]; rfl)
  obtain ⟨V, hV⟩ : ∃ V, tellX 3 none = V := ⟨_, rfl⟩
  rw [hV]
  have HV := Lib.hid hV
  clear hV hq
  go_enter Tryz.func203, Tryz.ntmps203
  go_wp2_with fail
  obtain ⟨⟨c0, c1, c2⟩, ⟨g0, g1, g2⟩, hz⟩ := tcellsL (cells_new w (.cells #[] 99) (.int .u8 0) (.string ⟨#[]⟩) (.int .i64 0))
  refine bodyPost_ret (v := .tuple #[.agg #[(.int .u8 0), .string ⟨#[]⟩, .int .i64 0], .int .i64 0]) (by simp [results, Tryz.results203, go_sem, *]) rfl ⟨by rw [← HV.out]; rfl, ((Below.refl _ _).alloc (Nat.le_refl _) _).alloc (by simp) _⟩
end Go.Proofs.YtgaknbnhmoddcaaGreatDoor
namespace Go.Proofs.YtgaknbnhmoddcaaGreatDoor
open Go.RowKit
theorem tok_info : (Tryz.prog.info? 72).map (fun i => (i.zero, i.size, i.bytes)) = some (some (.agg #[.int .u8 0, .string ⟨#[]⟩, .int .i64 0]), 3, 32) := by kernel_rfl
def tokCells : List Tok → List Value
  | [] => []
  | t :: r => .int .u8 (t.kind.toNat : Int) :: .string ⟨t.text.toArray⟩ :: .int .i64 t.pos :: tokCells r
theorem tokCells_len : ∀ L : List Tok, (tokCells L).length = L.length * 3
  | [] => rfl
  | t :: r => by rw [tokCells]; simp [tokCells_len r]; omega
theorem tokCells_app : ∀ L M : List Tok, tokCells (L ++ M) = tokCells L ++ tokCells M
  | [], _ => rfl
  | t :: r, M => by rw [List.cons_append, tokCells, tokCells_app r M, tokCells]; rfl
theorem tokCells_one : ∀ L : List Tok, ∀ u ∈ tokCells L, u.oneCell' = true
  | [], u, h => by cases h
  | t :: r, u, h => by
    rw [tokCells] at h
    rcases List.mem_cons.1 h with h | h
    · rw [h]; rfl
    rcases List.mem_cons.1 h with h | h
    · rw [h]; rfl
    rcases List.mem_cons.1 h with h | h
    · rw [h]; rfl
    · exact tokCells_one r u h
theorem tokCells_get : ∀ (L : List Tok) (k : Nat) (h : k < L.length), (tokCells L)[k * 3]? = some (.int .u8 (L[k].kind.toNat : Int)) ∧ (tokCells L)[k * 3 + 1]? = some (.string ⟨L[k].text.toArray⟩) ∧ (tokCells L)[k * 3 + 2]? = some (.int .i64 L[k].pos)
  | [], k, h => by simp at h
  | t :: r, 0, h => by simp [tokCells]
  | t :: r, k + 1, h => by
    have ih := tokCells_get r k (by simpa using h)
    rw [show (k + 1) * 3 = k * 3 + 1 + 1 + 1 from by omega, show k * 3 + 1 + 1 + 1 + 1 = k * 3 + 1 + 1 + 1 + 1 from rfl]
    simp only [tokCells, List.getElem?_cons_succ, List.getElem_cons_succ]
    exact ih
theorem row_cells : ∀ (L : List Tok) (b off : Nat) (w : World), TokRow b off L w → ∀ j u, (tokCells L)[j]? = some u → w.cell? ⟨b, off + j, none⟩ = some u
  | [], b, off, w, h, j, u, hu => by simp [tokCells] at hu
  | t :: r, b, off, w, h, j, u, hu => by
    obtain ⟨c0, c1, c2⟩ := h 0 (by simp)
    rw [tokCells] at hu
    match j, hu with
    | 0, hu => rw [← hu]; simpa using c0
    | 1, hu => rw [← hu]; simpa using c1
    | 2, hu => rw [← hu]; simpa using c2
    | j + 3, hu =>
      have ht : TokRow b (off + 3) r w := by
        intro k hk
        have := h (k + 1) (by simpa using hk)
        rw [show off + (k + 1) * 3 = off + 3 + k * 3 from by omega] at this
        exact this
      have := row_cells r b (off + 3) w ht j u (by simpa using hu)
      rw [show off + (j + 3) = off + 3 + j from by omega]
      exact this
theorem addr_addT (b o j : Nat) : (⟨b, o, none⟩ : Addr).add j = ⟨b, o + j, none⟩ := by
  unfold Addr.add
  split
  · rename_i hz; rw [hz]; rfl
  · rfl
/-- A slice of tokens of the call's own. -/
def OwnT (B : Nat) (v : Value) (L : List Tok) (W : World) : Prop := W.ownsRow B 72 3 v L.length (tokCells L)
theorem OwnT.nil (B : Nat) (W : World) : OwnT B (.slice none 0 0) [] W := World.ownsRow_nil W B 72 3
theorem OwnT.below {B : Nat} {v : Value} {l : List Tok} {w w' : World} (h : OwnT B v l w) (hb : Below w.heap.size w w') : OwnT B v l w' := by
  obtain ⟨h1, h2⟩ := h
  refine ⟨h1, ?_⟩
  rcases h2 with h2 | ⟨g, cap, cur, hv, hB, hg, hrest⟩
  · exact Or.inl h2
  · have hlt : g < w.heap.size := (Array.getElem?_eq_some_iff.1 hg).1
    exact Or.inr ⟨g, cap, cur, hv, hB, (hb.block g hlt).trans hg, hrest⟩
theorem OwnT.alloc {B : Nat} {v : Value} {l : List Tok} {w : World} (h : OwnT B v l w) (o : Obj) : OwnT B v l (w.alloc o) := World.ownsRow.alloc h o
theorem OwnT.lt {B : Nat} {v : Value} {l : List Tok} {w : World} (h : OwnT B v l w) : ∀ k, v.ownBlock = some k → B ≤ k := fun k hk => (World.ownsRow.lt h k hk).1
/-- A slice of no token that was just laid. -/
theorem OwnT.fresh0 (W : World) : OwnT W.heap.size (.slice (some ⟨W.heap.size, 0, none⟩) 0 0) [] (W.alloc (.cells #[] 72)) :=
  ⟨rfl, Or.inr ⟨W.heap.size, 0, #[], rfl, Nat.le_refl _, heap_alloc_new W _, by simp, by unfold maxLen; omega, by simp, by simp [tokCells]⟩⟩
theorem OwnT.sl {B : Nat} {v : Value} {L : List Tok} {w : World} (h : OwnT B v L w) : TokSl v L w := by
  obtain ⟨h1, h2⟩ := h
  rcases h2 with ⟨rfl, h2⟩ | ⟨g, cap, cur, rfl, hB, hg, hn, hc, hcs, ht⟩
  · exact Or.inl ⟨_, _, rfl, List.eq_nil_of_length_eq_zero h2, fun _ => rfl⟩
  · refine Or.inr ⟨g, 0, cap, rfl, ?_⟩
    intro k hk
    obtain ⟨g0, g1, g2⟩ := tokCells_get L k hk
    have F : ∀ j u, (tokCells L)[j]? = some u → w.cell? ⟨g, 0 + j, none⟩ = some u := by
      intro j u hj
      have hjl : j < L.length * 3 := by rw [← tokCells_len]; exact (List.getElem?_eq_some_iff.1 hj).1
      rw [← ht, List.getElem?_take, if_pos hjl] at hj
      rw [Nat.zero_add]
      refine (Lib.cell_of_heap hg j).trans ?_
      simpa using hj
    exact ⟨F _ _ g0, F _ _ g1, F _ _ g2⟩
/-- 'append(v, u..)' of tokens that stand in a row. -/
theorem wpList_appT {ops : Array Oper} {rest : List Oper} {o : Oper} {a : Act} {Q : Exit → Act → World → Prop} {w : World} (hgd : o.guard = none) (s x : Operand)
    (ho : o.op = .call { callee := .builtin .append, args := #[s, x], argTypes := #[32, 32] }) (B : Nat) (v u : Value) (L M : List Tok) (hs : a.eval s = v) (hown : OwnT B v L w)
    (hx : a.eval x = u) (hu : TokSl u M w) (hlen : L.length + M.length ≤ 1000000) (hB : B ≤ w.heap.size)
    (h : ∀ v' w', OwnT B v' (L ++ M) w' → w.grownBy w' v.ownBlock → wpList Tryz.prog ops Q rest (a.put o.dst v') w') : wpList Tryz.prog ops Q (o :: rest) a w := by
  obtain ⟨i0, hi, hz0, hz1, hz2⟩ := info_parts tok_info
  have fin : ∀ (ad : Addr) (c : Nat), u = .slice (some ad) M.length c → (∀ j q, (tokCells M)[j]? = some q → w.cell? (ad.add j) = some q) → wpList Tryz.prog ops Q (o :: rest) a w := by
    intro ad c hu2 hcells
    refine wpList_append_own w hgd s x 32 ho B 72 i0 (.agg #[.int .u8 0, .string ⟨#[]⟩, .int .i64 0]) 3 32 Tryz.underlying32 hi hz0 hz1 hz2 rfl (by decide) v L.length (tokCells L) hs hown ad M.length c (tokCells M) (hx.trans hu2) (tokCells_len M) hcells (tokCells_one M) (by unfold maxLen; omega) (by omega) hB ?_
    intro v' w' h1 h2 _
    refine h v' w' ?_ h2
    unfold OwnT
    rw [List.length_append, tokCells_app]
    exact h1
  rcases hu with ⟨ua, uc, hu2, rfl, hcap⟩ | ⟨b, off, cap, hu2, hr⟩
  · rcases ua with _ | ad
    · refine wpList_append_own_none hgd s x 32 ho B 72 i0 3 Tryz.underlying32 hi v L.length (tokCells L) hs hown (by rw [hx, hu2, hcap rfl]) ?_
      have := h v w (by rw [List.append_nil]; exact hown) (World.grownBy.refl w _)
      exact this
    · exact fin ad uc hu2 (fun j q hq => by simp [tokCells] at hq)
  · exact fin ⟨b, off, none⟩ cap hu2 (fun j q hq => by rw [addr_addT]; exact row_cells M b off w hr j q hq)
end Go.Proofs.YtgaknbnhmoddcaaGreatDoor
namespace Go.Proofs.YtgaknbnhmoddcaaGreatDoor
open Go.RowKit
set_option maxRecDepth 100000 in
theorem add_any (F f : Nat) (hf : f ≤ 100000) (W : World) (hh : W.heap[F]? = some (.cells #[.int .i32 (f : Int)] 96 (0, 0))) :
    Calls Tryz.prog 51 #[.pointer (some ⟨F, 0, none⟩), .int .i32 1] W fun e w' => e = .returned (.int .i32 ((f : Int) + 1)) ∧ w' = W.setCell ⟨F, 0, none⟩ (.int .i32 ((f : Int) + 1)) := by
  have hc : W.cell? ⟨F, 0, none⟩ = some (.int .i32 (f : Int)) := by rw [Lib.cell_of_heap hh]; rfl
  have hz : W.frozen? ⟨F, 0, none⟩ = false := Lib.frozen_of_heap hh 0
  have hw : IntKind.i32.wrap ((f : Int) + 1) = (f : Int) + 1 := by
    rw [IntKind.wrap_i32]; omega
  have hadd := run_call_add (P := Tryz.prog) Tryz.func79 (by kernel_rfl) (by kernel_rfl) (by kernel_rfl) .i32 (by kernel_rfl) (y := 1) (s := (f : Int) + 1) hc hz (by simp [go_sem, hw])
  clear hw
  go_enter Tryz.func51, Tryz.ntmps51
  go_wp2
  go_ret
  exact ⟨rfl, rfl⟩
/-- What Lex holds: its fuel, its readers, the tokens so far. -/
structure LX (w : World) (F f : Nat) (v : Value) (L : List Tok) (W : World) : Prop where
  hf : W.heap[F]? = some (.cells #[.int .i32 (f : Int)] 96 (0, 0))
  ha : W.heap[F + 1]? = some (.cells #[.iface 97 (.agg #[]), .iface 98 (.agg #[]), .iface 99 (.agg #[]), .iface 100 (.agg #[])] 106 (0, 0))
  own : OwnT (F + 2) v L W
  bel : Below w.heap.size w W
  le : w.heap.size ≤ F
section
variable {w W W' : World} {F f : Nat} {v v' : Value} {L L' : List Tok}
theorem LX.lt (h : LX w F f v L W) : F + 1 < W.heap.size := heap_lt h.ha
theorem LX.below (h : LX w F f v L W) (hb : Below W.heap.size W W') : LX w F f v L W' :=
  ⟨(hb.block _ (heap_lt h.hf)).trans h.hf, (hb.block _ (heap_lt h.ha)).trans h.ha, h.own.below hb, h.bel.trans (hb.mono h.bel.size), h.le⟩
theorem own_at {B b : Nat} (h : OwnT B v L W) (u : Value) (i : Nat) (hne : v.ownBlock ≠ some b) : OwnT B v L (W.setCell ⟨b, i, none⟩ u) := by
  obtain ⟨h1, h2⟩ := h
  refine ⟨h1, ?_⟩
  rcases h2 with h2 | ⟨g, cap, cur, hv, hB, hg, hrest⟩
  · exact Or.inl h2
  · refine Or.inr ⟨g, cap, cur, hv, hB, ?_, hrest⟩
    rw [Below.heap_setCell _ _ _ _ (show g ≠ b from fun e => hne (by rw [hv, ← e]; rfl))]
    exact hg
theorem LX.fuel (h : LX w F f v L W) : LX w F (f + 1) v L (W.setCell ⟨F, 0, none⟩ (.int .i32 ((f : Int) + 1))) := by
  refine ⟨?_, ?_, own_at h.own _ _ (fun e => ?_), h.bel.setCell (p := ⟨F, 0, none⟩) h.le _, h.le⟩
  · exact pset h.hf _ rfl
  · rw [Below.heap_setCell _ _ _ _ (show F + 1 ≠ F by omega)]; exact h.ha
  · have := h.own.lt F e; omega
theorem LX.set {b : Nat} (h : LX w F f v L W) (i : Nat) (u : Value) (hb : F + 2 ≤ b) (hne : v.ownBlock ≠ some b) : LX w F f v L (W.setCell ⟨b, i, none⟩ u) := by
  refine ⟨?_, ?_, own_at h.own _ _ hne, h.bel.setCell (p := ⟨b, i, none⟩) (by have := h.le; show w.heap.size ≤ b; omega) _, h.le⟩
  · rw [Below.heap_setCell _ _ _ _ (show F ≠ b by omega)]; exact h.hf
  · rw [Below.heap_setCell _ _ _ _ (show F + 1 ≠ b by omega)]; exact h.ha
theorem LX.grown (h : LX w F f v L W) (ho : OwnT (F + 2) v' L' W') (hg : W.grownBy W' v.ownBlock) : LX w F f v' L' W' := by
  have hlt := h.lt
  refine ⟨?_, ?_, ho, ?_, h.le⟩
  · rw [hg.block F (by omega) (fun e => by have := h.own.lt F e.symm; omega)]; exact h.hf
  · rw [hg.block (F + 1) (by omega) (fun e => by have := h.own.lt (F + 1) e.symm; omega)]; exact h.ha
  · exact h.bel.grown hg h.bel.size (fun k hk => by have := h.own.lt k hk; have := h.le; omega)
theorem LX.own_lt (h : LX w F f v L W) (k : Nat) (hk : v.ownBlock = some k) : k < W.heap.size := by
  rcases h.own.2 with h2 | ⟨g, cap, cur, hv, hB, hg, hrest⟩
  · rw [h2.1] at hk; cases hk
  · rw [hv] at hk; injection hk with hk; subst hk; exact heap_lt hg
end
/-- .. and the token that was read. -/
structure LY (w : World) (F f : Nat) (v : Value) (L : List Tok) (b : Nat) (A : Array Value) (W : World) : Prop where
  x : LX w F f v L W
  ht : W.heap[b]? = some (.cells A 72 (0, 0))
  hb : F + 2 ≤ b
  ne : v.ownBlock ≠ some b
theorem LY.new1 {w W w5 : World} {F f : Nat} {v : Value} {L : List Tok} (h : LX w F f v L W) (hb : Below W.drew.heap.size W.drew w5) (a0 a1 a2 : Value) : LY w F f v L w5.heap.size #[a0, a1, a2] (w5.alloc (.cells #[a0, a1, a2] 72)) := by
  have h1 : LX w F f v L w5 := (h.below (Below.refl W.heap.size W).drew).below hb
  refine ⟨h1.below ((Below.refl _ _).alloc (Nat.le_refl _) _), heap_alloc_new w5 _, h1.lt, fun e => ?_⟩
  have := h1.own_lt _ e; omega
theorem LY.new2 {w W w5 : World} {F f : Nat} {v : Value} {L : List Tok} {O : Obj} (h : LX w F f v L W) (hb : Below (W.alloc O).drew.heap.size (W.alloc O).drew w5) (b0 b1 b2 : Value) (hh : w5.heap[W.heap.size]? = some (.cells #[b0, b1, b2] 72 (0, 0))) (a0 a1 a2 : Value) : LY w F f v L W.heap.size #[a0, a1, a2] (((w5.setCell ⟨W.heap.size, 0, none⟩ a0).setCell ⟨W.heap.size, 1, none⟩ a1).setCell ⟨W.heap.size, 2, none⟩ a2) := by
  have hne : v.ownBlock ≠ some W.heap.size := fun e => by have := h.own_lt _ e; omega
  have h1 : LX w F f v L w5 := ((h.below ((Below.refl W.heap.size W).alloc (Nat.le_refl _) O)).below (Below.refl (W.alloc O).heap.size (W.alloc O)).drew).below hb
  exact ⟨((h1.set 0 a0 h.lt hne).set 1 a1 h.lt hne).set 2 a2 h.lt hne, pset (pset (pset hh a0 rfl) a1 rfl) a2 rfl, h.lt, hne⟩
theorem tok_new (W : World) (k : UInt8) (a : List UInt8) (p : Int) : TokSl (.slice (some ⟨W.heap.size, 0, none⟩) 1 1) [⟨k, a, p⟩] (W.alloc (.cells #[.int .u8 (k.toNat : Int), .string ⟨a.toArray⟩, .int .i64 p] 72)) := by
  refine Or.inr ⟨_, _, _, rfl, ?_⟩
  intro j hj
  have : j = 0 := by simp at hj; omega
  subst this
  have h := heap_alloc_new W (.cells #[.int .u8 (k.toNat : Int), .string ⟨a.toArray⟩, .int .i64 p] 72 (0, 0))
  exact ⟨(Lib.cell_of_heap h 0).trans rfl, (Lib.cell_of_heap h 1).trans rfl, (Lib.cell_of_heap h 2).trans rfl⟩
theorem tok_newn (n : Nat) (W : World) (hn : n = W.heap.size) (k : UInt8) (a : List UInt8) (p : Int) : TokSl (.slice (some ⟨n, 0, none⟩) 1 1) [⟨k, a, p⟩] (W.alloc (.cells #[.int .u8 (k.toNat : Int), .string ⟨a.toArray⟩, .int .i64 p] 72)) := by
  subst hn; exact tok_new W k a p
/-- What Lex answers. -/
def LexE (B : Nat) (o : Except (Int × Nat) (List Tok)) (x : Ending) (W : World) : Prop := match o with
  | .error (e, a) => x = .returned (.tuple #[.slice none 0 0, .int .i64 (a : Int), .int .i64 e])
  | .ok L => ∃ v, x = .returned (.tuple #[v, .int .i64 0, .int .i64 0]) ∧ OwnT B v L W
theorem LexE.err {B : Nat} {o : Except (Int × Nat) (List Tok)} {a : Nat} {i e : Int} {W : World} (h : o = .error (e, a)) (hi : (a : Int) = i) : LexE B o (.returned (.tuple #[.slice none 0 0, .int .i64 i, .int .i64 e])) W := by
  rw [h, ← hi]; rfl
theorem OwnT.less {B B' : Nat} {v : Value} {L : List Tok} {W : World} (h : OwnT B v L W) (hB : B' ≤ B) : OwnT B' v L W := by
  obtain ⟨h1, h2⟩ := h
  refine ⟨h1, ?_⟩
  rcases h2 with h2 | ⟨g, cap, cur, hv, hg, hrest⟩
  · exact Or.inl h2
  · exact Or.inr ⟨g, cap, cur, hv, Nat.le_trans hB hg, hrest⟩
theorem rd_form (j : Nat) (l : List UInt8) : ∃ (kv : Int) (xs : ByteArray) (n : Int), tellY (rdT j l) = .tuple #[.agg #[.int .u8 kv, .string xs, .int .i64 0], .int .i64 n] ∧ ((rdT j l = none ∧ n = 0) ∨ ∃ k a m, rdT j l = some (k, a, m) ∧ kv = (k.toNat : Int) ∧ xs = ⟨a.toArray⟩ ∧ n = (m : Int)) := by
  cases h : rdT j l with
  | none => exact ⟨0, ⟨#[]⟩, 0, rfl, Or.inl ⟨rfl, rfl⟩⟩
  | some x => obtain ⟨k, a, m⟩ := x; exact ⟨_, _, _, rfl, Or.inr ⟨k, a, m, rfl, rfl, rfl, rfl⟩⟩
theorem tell_rd (k : UInt8) (o : Option (List UInt8)) : tellV k o = tellY (o.map fun a => (k, a, a.length)) := by cases o <;> rfl
theorem tell_rx (o : Option (List UInt8 × Nat)) : tellX 3 o = tellY (o.map fun x => (3, x.1, x.2)) := by cases o with | none => rfl | some x => rfl
theorem nil_0 (n : Nat) (w : World) : (nilAhead (n + 1) 97 (.agg #[]) "provost/lex.read").run Tryz.prog w = .ok (some false) w := by kernel_rfl
theorem meth_0 (n : Nat) (w : World) : (method (n + 1) 97 (.agg #[]) "provost/lex.read").run Tryz.prog w = .ok (198, .agg #[]) w := by kernel_rfl
theorem nil_1 (n : Nat) (w : World) : (nilAhead (n + 1) 98 (.agg #[]) "provost/lex.read").run Tryz.prog w = .ok (some false) w := by kernel_rfl
theorem meth_1 (n : Nat) (w : World) : (method (n + 1) 98 (.agg #[]) "provost/lex.read").run Tryz.prog w = .ok (199, .agg #[]) w := by kernel_rfl
theorem nil_2 (n : Nat) (w : World) : (nilAhead (n + 1) 99 (.agg #[]) "provost/lex.read").run Tryz.prog w = .ok (some false) w := by kernel_rfl
theorem meth_2 (n : Nat) (w : World) : (method (n + 1) 99 (.agg #[]) "provost/lex.read").run Tryz.prog w = .ok (203, .agg #[]) w := by kernel_rfl
theorem nil_3 (n : Nat) (w : World) : (nilAhead (n + 1) 100 (.agg #[]) "provost/lex.read").run Tryz.prog w = .ok (some false) w := by kernel_rfl
theorem meth_3 (n : Nat) (w : World) : (method (n + 1) 100 (.agg #[]) "provost/lex.read").run Tryz.prog w = .ok (230, .agg #[]) w := by kernel_rfl
end Go.Proofs.YtgaknbnhmoddcaaGreatDoor
namespace Go.Proofs.YtgaknbnhmoddcaaGreatDoor
open Go.Lib
/-- Are these a text's tokens, and is its end where the text ends? -/
def isL (l : List UInt8) (want : List (UInt8 × List UInt8)) : Bool := match lex0 l with
  | .error _ => false
  | .ok L => L.map kt == want ++ [(0, [])] && (L.getLastD ⟨0, [], -1⟩).pos == (l.length : Int)
end Go.Proofs.YtgaknbnhmoddcaaGreatDoor
namespace Go.Proofs.YtgaknbnhmoddcaaGreatDoor
open Go.RowKit
set_option maxRecDepth 100000 in
theorem lex_chk (s : ByteArray) (w : World) (e : Int) (he : e ≠ 0) (HC : Hid (Calls Tryz.prog 49 #[.string s] w fun x w' => x = .returned (.int .i64 e) ∧ Below w.heap.size w w')) :
    Calls Tryz.prog 21 #[.string s] w fun x w' => x = .returned (.tuple #[.slice none 0 0, .int .i64 0, .int .i64 e]) ∧ Below w.heap.size w w' := by
  have te : (e != 0) = true := by simpa using he
  clear he
  go_enter Tryz.func21, Tryz.ntmps21
  go_wp2_with fail
  go_step3
  go_wp2_with fail
  refine HC.out.mono ?_; rintro x w1 ⟨rfl, hb⟩
  go_wp2_with fail
  (try rw [Exit.noGoto_ret])
  go_ret3
  exact ⟨rfl, hb⟩
theorem OwnT.form {B : Nat} {v : Value} {L : List Tok} {W : World} (h : OwnT B v L W) : ∃ a n c, v = .slice a n c ∧ n = L.length := by
  rcases h.2 with ⟨h1, h2⟩ | ⟨g, cap, cur, hv, _⟩
  · exact ⟨none, 0, 0, h1, h2.symm⟩
  · exact ⟨_, _, _, hv, rfl⟩
/-- A slice of the call's own stays when another one grows. -/
theorem OwnT.other {B : Nat} {v : Value} {L : List Tok} {W W' : World} {r : Option Nat} (h : OwnT B v L W) (hg : W.grownBy W' r) (hne : ∀ k, v.ownBlock = some k → r ≠ some k) : OwnT B v L W' := by
  obtain ⟨h1, h2⟩ := h
  refine ⟨h1, ?_⟩
  rcases h2 with h2 | ⟨g, cap, cur, hv, hB, hgg, hrest⟩
  · exact Or.inl h2
  · refine Or.inr ⟨g, cap, cur, hv, hB, ?_, hrest⟩
    rw [hg.block g (heap_lt hgg) (fun e => hne g (by rw [hv]; rfl) e.symm)]
    exact hgg
theorem OwnT.blk {B : Nat} {v : Value} {L : List Tok} {W : World} (h : OwnT B v L W) (k : Nat) (hk : v.ownBlock = some k) : k < W.heap.size := by
  rcases h.2 with h2 | ⟨g, cap, cur, hv, hB, hg, hrest⟩
  · rw [h2.1] at hk; cases hk
  · rw [hv] at hk; injection hk with hk; subst hk; exact heap_lt hg
/-- Its last one. -/
theorem OwnT.last {B : Nat} {v : Value} {L : List Tok} {W : World} (h : OwnT B v L W) (h0 : 0 < L.length) : ∃ g cap, v = .slice (some ⟨g, 0, none⟩) L.length cap ∧ W.cell? ⟨g, (L.length - 1) * 3 + 2, none⟩ = some (.int .i64 (L.getLastD ⟨0, [], -1⟩).pos) := by
  rcases h.2 with ⟨h1, h2⟩ | ⟨g, cap, cur, hv, hB, hg, hn, hc, hcs, ht⟩
  · omega
  · refine ⟨g, cap, hv, ?_⟩
    obtain ⟨_, _, g2⟩ := tokCells_get L (L.length - 1) (by omega)
    have hl := tokCells_len L
    have hj : (L.length - 1) * 3 + 2 < L.length * 3 := by omega
    rw [Lib.cell_of_heap hg, ← Array.getElem?_toList]
    rw [← ht, List.getElem?_take, if_pos hj] at g2
    rw [g2]
    congr 3
    rw [List.getLastD_eq_getLast?, List.getLast?_eq_getElem?, List.getElem?_eq_getElem (by omega)]
    rfl
end Go.Proofs.YtgaknbnhmoddcaaGreatDoor
namespace Go.Proofs.YtgaknbnhmoddcaaGreatDoor
open Go.Lib
/-- A text's tokens, or none. -/
def lexT (l : List UInt8) : List Tok := match lex0 l with
  | .ok T => T
  | .error _ => []
theorem lexT_ok (l : List UInt8) (h : lexT l ≠ []) : lex0 l = .ok (lexT l) := by
  unfold lexT at *
  cases hx : lex0 l with
  | ok T => rfl
  | error e => rw [hx] at h; exact absurd rfl h
def celE (a b : Cel) : Bool := a.kind == b.kind && a.name == b.name && a.text == b.text && a.num == b.num && a.many == b.many
def celsE : List Cel → List Cel → Bool
  | [], [] => true
  | a :: r, b :: s => celE a b && celsE r s
  | _, _ => false
theorem celsE_eq : ∀ a b : List Cel, celsE a b = true → a = b
  | [], [], _ => rfl
  | [], _ :: _, h => by cases h
  | _ :: _, [], h => by cases h
  | ⟨k, n, t, u, m⟩ :: r, ⟨k', n', t', u', m'⟩ :: s, h => by
    rw [celsE, Bool.and_eq_true] at h
    unfold celE at h
    simp only [Bool.and_eq_true, beq_iff_eq] at h
    obtain ⟨⟨⟨⟨⟨h1, h2⟩, h3⟩, h4⟩, h5⟩, h6⟩ := h
    rw [h1, h2, h3, h4, h5, celsE_eq r s h6]
def okLit (T : List Tok) (fixed : Bool) (a : Nat) (w : List Cel) : Bool := !T.isEmpty && (match litP fixed T 0 with
  | .ok x => x.1 == a && celsE x.2 w
  | .error _ => false)
def exAlive : List UInt8 := [91, 36, 120, 44, 123, 97, 58, 82, 69, 68, 125, 93, 32, 122]
theorem el_alive : okLit (lexT exAlive) false 9 [⟨6, [], [], 0, 2⟩, ⟨5, [], [120], 0, 0⟩, ⟨7, [], [], 0, 1⟩, ⟨4, [97], [82, 69, 68], 0, 0⟩] = true := by decide +kernel
end Go.Proofs.YtgaknbnhmoddcaaGreatDoor
namespace Go.Proofs.YtgaknbnhmoddcaaGreatDoor
open Go.Lib
def nmT (s : List UInt8) : Tok := ⟨1, s, 0⟩
def mkT (s : List UInt8) : Tok := ⟨4, s, 0⟩
def litK (c : Cel) : List Tok :=
  if c.kind = 0 then [nmT [110, 117, 108, 108]] else if c.kind = 1 then [nmT (if c.num = 1 then [116, 114, 117, 101] else [102, 97, 108, 115, 101])]
  else if c.kind = 2 then [⟨2, Lib.itoa c.num, 0⟩] else if c.kind = 3 then [⟨3, c.text, 0⟩] else if c.kind = 4 then [nmT c.text] else [mkT [36], nmT c.text]
def preK (isO : Bool) (l : List Cel) : List Tok := if isO then [nmT (l.headD ⟨0, [], [], 0, 0⟩).name, mkT [58]] else []
/-- The tokens of so many items, members. -/
def kidsK (val : List Cel → Option Nat) (tk : List Cel → List Tok) (isO : Bool) : Nat → List Cel → List Tok
  | 0, _ => []
  | n + 1, l => preK isO l ++ (tk l ++ kidsK val tk isO n (l.drop ((val l).getD 0)))
def opnK (c : Cel) : Tok := mkT (if c.kind == 6 then [91] else [123])
def shtK (c : Cel) : Tok := mkT (if c.kind == 6 then [93] else [125])
def headK (kids : Cel → List Cel → List Tok) : List Cel → List Tok
  | [] => []
  | c :: r => if nestC c then opnK c :: (kids c r ++ [shtK c]) else litK c
/-- The tokens of the value that begins a list. -/
def tokK : Nat → List Cel → List Tok
  | 0 => headK fun _ _ => []
  | d + 1 => headK fun c r => kidsK (valN d) (tokK d) (!(c.kind == 6)) c.many.toNat r
theorem headK_cons (kids : Cel → List Cel → List Tok) (c : Cel) (r : List Cel) : headK kids (c :: r) = if nestC c then opnK c :: (kids c r ++ [shtK c]) else litK c := rfl
theorem tokK_zero (l : List Cel) : tokK 0 l = headK (fun _ _ => []) l := rfl
theorem tokK_more (d : Nat) (l : List Cel) : tokK (d + 1) l = headK (fun c r => kidsK (valN d) (tokK d) (!(c.kind == 6)) c.many.toNat r) l := rfl
theorem litK_len (c : Cel) : (litK c).length ≤ 2 := by
  unfold litK
  repeat' split
  all_goals simp
theorem preK_len (isO : Bool) (l : List Cel) : (preK isO l).length ≤ 2 := by
  unfold preK
  split <;> simp
theorem kidsK_len (f : List Cel → Option Nat) (tf : List Cel → List Tok) (h : ∀ l k, f l = some k → (tf l).length + 2 ≤ 4 * k) (isL isO : Bool) : ∀ (n : Nat) (nm : List (List UInt8)) (l : List Cel) (k : Nat), kidsN f isL n nm l = some k → (kidsK f tf isO n l).length ≤ 4 * k
  | 0, nm, l, k, _ => by simp [kidsK]
  | n + 1, nm, [], k, hk => by cases hk
  | n + 1, nm, c :: r, k, hk => by
    rw [kidsN] at hk
    split at hk
    · split at hk
      · cases hk
      · rename_i k1 hk1
        have h1 := h _ _ hk1
        rw [Option.map_eq_some_iff] at hk
        obtain ⟨k2, hk2, hk3⟩ := hk
        have ih := kidsK_len f tf h isL isO n _ _ k2 hk2
        rw [kidsK, hk1, Option.getD_some, List.length_append, List.length_append]
        have := preK_len isO (c :: r)
        omega
    · cases hk
/-- A value of so many cells has four times as many tokens at most. -/
theorem tokK_len : ∀ (d : Nat) (l : List Cel) (k : Nat), valN d l = some k → (tokK d l).length + 2 ≤ 4 * k
  | 0, [], k, h => by cases h
  | 0, c :: r, k, h => by
    have hk := (valN_le 0 _ _ h).1
    rw [valN_zero, headN_cons] at h
    rw [tokK_zero, headK_cons]
    cases h1 : oneC c with
    | false => rw [h1] at h; cases h
    | true =>
      cases h2 : nestC c with
      | true => rw [h1, h2] at h; cases h
      | false => rw [if_neg (by decide)]; have := litK_len c; omega
  | d + 1, [], k, h => by cases h
  | d + 1, c :: r, k, h => by
    have hk := (valN_le (d + 1) _ _ h).1
    rw [valN_more, headN_cons] at h
    rw [tokK_more, headK_cons]
    cases h1 : oneC c with
    | false => rw [h1] at h; cases h
    | true =>
      cases h2 : nestC c with
      | false => rw [if_neg (by decide)]; have := litK_len c; omega
      | true =>
        rw [h1, h2, if_pos rfl, if_pos rfl, Option.map_eq_some_iff] at h
        obtain ⟨k2, hk2, hk3⟩ := h
        rw [if_pos rfl]
        have := kidsK_len (valN d) (tokK d) (fun l k hl => tokK_len d l k hl) _ (!(c.kind == 6)) _ _ _ k2 hk2
        rw [List.length_cons, List.length_append, List.length_singleton]
        omega
end Go.Proofs.YtgaknbnhmoddcaaGreatDoor
namespace Go.Proofs.YtgaknbnhmoddcaaGreatDoor
open Go.Lib
theorem mrk_look {T : List Tok} {a : Nat} {s : List UInt8} (h : mrkP T a s = true) : (lookP T a).kind = 4 ∧ (lookP T a).text = s := by
  unfold mrkP at h
  rw [Bool.and_eq_true, beq_iff_eq, beq_iff_eq] at h
  exact h
/-- Tokens that may stand in a text. -/
def OkK (T : List Tok) : Prop := ∀ t ∈ T, okT t = true ∧ (tellT t).length ≤ 16384
def wordsK : List (List UInt8) := [[110, 117, 108, 108], [116, 114, 117, 101], [102, 97, 108, 115, 101]]
/-- May a literal be? -/
def litB (V : List Cel) : Bool := mayB V && V.all fun c => (c.name.isEmpty || nameB c.name) && !(c.kind == 4 && wordsK.contains c.text)
end Go.Proofs.YtgaknbnhmoddcaaGreatDoor
namespace Go.Proofs.YtgaknbnhmoddcaaGreatDoor
open Go.RowKit
theorem ix_indexByteString_run (s : ByteArray) (c : Int) (w : World) :
    (callFunc 118 #[.string s, .int .u8 c]).run Tryz.prog w = .ok (.value (.int .i64 (Lib.indexByte s.data.toList c.toNat.toUInt8))) w := by
  rw [run_callFunc_extern Tryz.func118 (by kernel_rfl) (by kernel_rfl) (by kernel_rfl) (e := Extern.BytealgIndexByte.indexByte) (by kernel_rfl), Lib.run_indexByteString]
  rfl
theorem ix_slIndexByte_any (s : ByteArray) (c : Int) (w : World) :
    Calls Tryz.prog 97 #[.string s, .int .u8 c] w fun e w' => e = .returned (.int .i64 (Lib.indexByte s.data.toList c.toNat.toUInt8)) ∧ w = w' := by
  have h := ix_indexByteString_run s c
  generalize Lib.indexByte s.data.toList c.toNat.toUInt8 = r at *
  go_enter Tryz.func97, Tryz.ntmps97
  go_wp2_with fail
  go_ret
  exact ⟨rfl, rfl⟩
theorem ix_index_one (s : ByteArray) (c : UInt8) (w : World) :
    Calls Tryz.prog 174 #[.string s, .string ⟨#[c]⟩] w fun e w' => e = .returned (.int .i64 (Lib.indexByte s.data.toList c)) ∧ w = w' := by
  by_cases h : s.data.toList = [c]
  · have hs : s = ⟨#[c]⟩ := by
      obtain ⟨d⟩ := s
      have : d = #[c] := by apply Array.ext'; simpa using h
      rw [this]
    subst hs
    have e : Lib.indexByte (⟨#[c]⟩ : ByteArray).data.toList c = 0 := by rw [h]; simp [Lib.indexByte]
    rw [e]
    go_enter Tryz.func174, Tryz.ntmps174
    go_wp2_with fail
    go_ret
    exact ⟨rfl, rfl⟩
  · have hb : ([c] == s.toList) = false := by
      rw [beq_eq_false_iff_ne, ByteArray.toList_eq]; exact fun e => h e.symm
    have H := Lib.hid (fun w => ix_slIndexByte_any s (c.toNat : Int) w)
    rw [show ((c.toNat : Int)).toNat.toUInt8 = c by simp] at H
    clear h
    go_enter Tryz.func174, Tryz.ntmps174
    go_wp2_with fail
    refine (H.out _).mono ?_; rintro e w1 ⟨rfl, rfl⟩
    go_wp2_with fail
    go_ret
    exact ⟨rfl, rfl⟩
theorem ix_sindex (s : ByteArray) (c : UInt8) (w : World) :
    Calls Tryz.prog 165 #[.string s, .string ⟨#[c]⟩] w fun e w' => e = .returned (.int .i64 (Lib.indexByte s.data.toList c)) ∧ w = w' := by
  have H := Lib.hid (fun w => ix_index_one s c w)
  generalize Lib.indexByte s.data.toList c = r at *
  go_enter Tryz.func165, Tryz.ntmps165
  go_wp2_with fail
  refine (H.out _).mono ?_; rintro e w1 ⟨rfl, rfl⟩
  go_wp2_with fail
  go_ret
  exact ⟨rfl, rfl⟩
theorem ix_contains (s : ByteArray) (c : UInt8) (w : World) :
    Calls Tryz.prog 149 #[.string s, .string ⟨#[c]⟩] w fun e w' => e = .returned (.bool (s.data.toList.contains c)) ∧ w = w' := by
  have H := fun w => ix_sindex s c w
  rcases ib_cases c s.data.toList with ⟨g1, n, g2⟩ | ⟨g1, g2⟩
  all_goals
    rw [g1]
    rw [g2] at H
    have HI := Lib.hid H
    clear H g1 g2
    go_enter Tryz.func149, Tryz.ntmps149
    go_wp2_with fail
    refine (HI.out _).mono ?_; rintro e w1 ⟨rfl, rfl⟩
    go_wp2_with fail
    go_ret
    first | exact ⟨rfl, rfl⟩ | exact ⟨ret_b (decide_eq_true (p := (0 : Int) ≤ n) (by omega)), rfl⟩
end Go.Proofs.YtgaknbnhmoddcaaGreatDoor
namespace Go.Proofs.YtgaknbnhmoddcaaGreatDoor
open Go.RowKit
theorem dw_all (p : UInt8 → Bool) : ∀ l : List UInt8, (l.dropWhile p).isEmpty = l.all p
  | [] => rfl
  | a :: l => by
    rw [List.dropWhile_cons, List.all_cons]
    cases p a with
    | true => simpa using dw_all p l
    | false => rfl
theorem dw_all2 (p : UInt8 → Bool) : ∀ l : List UInt8, (l.dropWhile p).all p = l.all p
  | [] => rfl
  | a :: l => by
    rw [List.dropWhile_cons, List.all_cons]
    cases h : p a with
    | true => simpa using dw_all2 p l
    | false => simp [h]
theorem trimS_all (l cs : List UInt8) : (Lib.trimS l cs).isEmpty = l.all (cs.contains ·) := by
  unfold Lib.trimS Lib.trimLeftS Lib.trimRightS
  rw [dw_all, List.all_reverse, dw_all2, List.all_reverse]
theorem nameC_ascii (c : UInt8) (h : nameC c = true) : c.toNat < 128 := by
  unfold nameC at h
  rw [decide_eq_true_eq] at h
  omega
theorem crune_any (c : UInt8) (h : nameC c = true) (w : World) :
    Calls Tryz.prog 120 #[.string ⟨#[95, 97, 98, 99, 100, 101, 102, 103, 104, 105, 106, 107, 108, 109, 110, 111, 112, 113, 114, 115, 116, 117, 118, 119, 120, 121, 122, 65, 66, 67, 68, 69, 70, 71, 72, 73, 74, 75, 76, 77, 78, 79, 80, 81, 82, 83, 84, 85, 86, 87, 88, 89, 90, 48, 49, 50, 51, 52, 53, 54, 55, 56, 57]⟩, .int .i32 (c.toNat : Int)] w fun e w' => e = .returned (.bool true) ∧ w = w' := by
  have ha := nameC_ascii c h
  refine (Tryz.strings_ContainsRune_ascii ⟨#[95, 97, 98, 99, 100, 101, 102, 103, 104, 105, 106, 107, 108, 109, 110, 111, 112, 113, 114, 115, 116, 117, 118, 119, 120, 121, 122, 65, 66, 67, 68, 69, 70, 71, 72, 73, 74, 75, 76, 77, 78, 79, 80, 81, 82, 83, 84, 85, 86, 87, 88, 89, 90, 48, 49, 50, 51, 52, 53, 54, 55, 56, 57]⟩ (c.toNat : Int) w (by omega) (by omega)).mono ?_
  rintro e w' ⟨h1, h2⟩
  refine ⟨?_, h2.symm⟩
  rw [h1, show ((c.toNat : Int)).toNat.toUInt8 = c by simp]
  rcases ib_cases c nameMs with ⟨g1, k, g2⟩ | ⟨g1, g2⟩
  · have : Lib.indexByte (⟨#[95, 97, 98, 99, 100, 101, 102, 103, 104, 105, 106, 107, 108, 109, 110, 111, 112, 113, 114, 115, 116, 117, 118, 119, 120, 121, 122, 65, 66, 67, 68, 69, 70, 71, 72, 73, 74, 75, 76, 77, 78, 79, 80, 81, 82, 83, 84, 85, 86, 87, 88, 89, 90, 48, 49, 50, 51, 52, 53, 54, 55, 56, 57]⟩ : ByteArray).data.toList c = k := g2
    rw [this]
    simp
  · rw [name_ms, h] at g1; cases g1
set_option maxRecDepth 100000 in
theorem nclo_any (c : UInt8) (h : nameC c = true) (w : World) :
    Calls Tryz.prog 151 #[.int .i32 (c.toNat : Int)] w fun e w' => e = .returned (.bool false) ∧ w = w' := by
  have H := Lib.hid (fun w => crune_any c h w)
  clear h
  generalize (c.toNat : Int) = n at *
  go_enter Tryz.func151, Tryz.ntmps151
  go_wp2_with fail
  refine (H.out _).mono ?_; rintro e w1 ⟨rfl, rfl⟩
  go_wp2_with fail
  go_ret
  exact ⟨rfl, rfl⟩
set_option maxRecDepth 100000 in
theorem nindex_any (s : ByteArray) (h : s.data.toList.all nameC = true) (hs : s.size ≤ 1000000) (w : World) :
    Calls Tryz.prog 175 #[.string s, .func (.func 151) #[] #[], .bool true] w fun e w' => e = .returned (.int .i64 (-1)) ∧ Below w.heap.size w w' := by
  have HA : Hid (∀ (k : Nat) (hk : k < s.size), nameC s[k] = true) := Lib.hid fun k hk => List.all_eq_true.1 h s[k] (by rw [show s[k] = s.data.toList[k]'(by rw [len_z]; exact hk) from by simp; rfl]; exact List.getElem_mem _)
  clear h
  go_enter Tryz.func175, Tryz.ntmps175
  go_wp2_with fail
  go_loopg [8] s.size (fun g v wr => ∃ k : Nat, g + k = s.size ∧ wr = w.iter s k) 
  case atStart => exact ⟨0, by omega, rfl⟩
  case round =>
    obtain ⟨k, hk, rfl⟩ := hrel
    by_cases hlt : k < s.size
    · have n0 := fun ty => run_next_ascii (P := Tryz.prog) w s k ty hlt (nameC_ascii _ (HA.out k hlt))
      have H := Lib.hid (fun w => nclo_any s[k] (HA.out k hlt) w)
      obtain ⟨g, rfl⟩ : ∃ g, gk = g + 1 := ⟨gk - 1, by omega⟩
      generalize (s[k].toNat : Int) = n at *
      go_wp2_with fail
      refine (H.out _).mono ?_; rintro e w1 ⟨rfl, rfl⟩
      clear n0
      go_wp2_with fail
      go_roundg g
      case measure => omega
      case rel => exact ⟨k + 1, by omega, rfl⟩
    · have n0 := fun ty => run_next_end (P := Tryz.prog) w s k ty hlt
      go_wp2_with fail
      go_ret
      refine ⟨rfl, ?_⟩
      unfold World.iter
      exact (Below.refl _ _).alloc (Nat.le_refl _) _
set_option maxRecDepth 100000 in
theorem ncontains_any (s : ByteArray) (h : s.data.toList.all nameC = true) (hs : s.size ≤ 1000000) (w : World) :
    Calls Tryz.prog 150 #[.string s, .func (.func 151) #[] #[]] w fun e w' => e = .returned (.bool false) ∧ Below w.heap.size w w' := by
  have H := Lib.hid (fun w => nindex_any s h hs w)
  clear h
  have HI : Hid (∀ w, Calls Tryz.prog 166 #[.string s, .func (.func 151) #[] #[]] w fun e w' => e = .returned (.int .i64 (-1)) ∧ Below w.heap.size w w') := Lib.hid fun w => by
    go_enter Tryz.func166, Tryz.ntmps166
    go_wp2_with fail
    refine (H.out _).mono ?_; rintro e w1 ⟨rfl, hb⟩
    go_wp2_with fail
    go_ret
    exact ⟨rfl, hb⟩
  go_enter Tryz.func150, Tryz.ntmps150
  go_wp2_with fail
  refine (HI.out _).mono ?_; rintro e w1 ⟨rfl, hb⟩
  go_wp2_with fail
  go_ret
  exact ⟨rfl, hb⟩
theorem cname_no (s : ByteArray) (h1 : s.toList = []) (h2 : s.toList.isEmpty = true) (w : World) :
    Calls Tryz.prog 134 #[.string s] w fun e w' => e = .returned (.bool false) ∧ Below w.heap.size w w' := by
  go_enter Tryz.func134, Tryz.ntmps134
  go_wp2_with fail
  go_ret
  exact ⟨rfl, Below.refl _ _⟩
theorem cname_trim (s : ByteArray) (hs : s.size ≤ 1000000) (w : World) :
    Calls Tryz.prog 126 #[.string s, .string ⟨#[95, 97, 98, 99, 100, 101, 102, 103, 104, 105, 106, 107, 108, 109, 110, 111, 112, 113, 114, 115, 116, 117, 118, 119, 120, 121, 122, 65, 66, 67, 68, 69, 70, 71, 72, 73, 74, 75, 76, 77, 78, 79, 80, 81, 82, 83, 84, 85, 86, 87, 88, 89, 90, 48, 49, 50, 51, 52, 53, 54, 55, 56, 57]⟩] w fun e w' => e = .returned (.string ⟨(Lib.trimS s.data.toList nameMs).toArray⟩) ∧ Below w.heap.size w w' :=
  Any.strings_Trim_laid Tryz.lays160 (by kernel_rfl) s ⟨#[95, 97, 98, 99, 100, 101, 102, 103, 104, 105, 106, 107, 108, 109, 110, 111, 112, 113, 114, 115, 116, 117, 118, 119, 120, 121, 122, 65, 66, 67, 68, 69, 70, 71, 72, 73, 74, 75, 76, 77, 78, 79, 80, 81, 82, 83, 84, 85, 86, 87, 88, 89, 90, 48, 49, 50, 51, 52, 53, 54, 55, 56, 57]⟩ w (by omega) (by decide) (ascii_of_all (by decide))
set_option maxRecDepth 100000 in
theorem cname_out (s t : ByteArray) (h1 : ¬ s.toList = []) (h2 : s.toList.isEmpty = false) (H : Hid (∀ w, Calls Tryz.prog 126 #[.string s, .string ⟨#[95, 97, 98, 99, 100, 101, 102, 103, 104, 105, 106, 107, 108, 109, 110, 111, 112, 113, 114, 115, 116, 117, 118, 119, 120, 121, 122, 65, 66, 67, 68, 69, 70, 71, 72, 73, 74, 75, 76, 77, 78, 79, 80, 81, 82, 83, 84, 85, 86, 87, 88, 89, 90, 48, 49, 50, 51, 52, 53, 54, 55, 56, 57]⟩] w fun e w' => e = .returned (.string t) ∧ Below w.heap.size w w'))
    (h3 : ¬ t.toList = []) (h4 : t.toList.isEmpty = false) (w : World) :
    Calls Tryz.prog 134 #[.string s] w fun e w' => e = .returned (.bool false) ∧ Below w.heap.size w w' := by
  go_enter Tryz.func134, Tryz.ntmps134
  go_wp2_with fail
  refine (H.out _).mono ?_; rintro e w1 ⟨rfl, hb⟩
  go_wp2_with fail
  go_ret
  exact ⟨rfl, hb⟩
set_option maxRecDepth 100000 in
theorem cname_in (s : ByteArray) (d : Bool) (hsz : 0 < s.size) (h1 : ¬ s.toList = []) (h2 : s.toList.isEmpty = false) (H : Hid (∀ w, Calls Tryz.prog 126 #[.string s, .string ⟨#[95, 97, 98, 99, 100, 101, 102, 103, 104, 105, 106, 107, 108, 109, 110, 111, 112, 113, 114, 115, 116, 117, 118, 119, 120, 121, 122, 65, 66, 67, 68, 69, 70, 71, 72, 73, 74, 75, 76, 77, 78, 79, 80, 81, 82, 83, 84, 85, 86, 87, 88, 89, 90, 48, 49, 50, 51, 52, 53, 54, 55, 56, 57]⟩] w fun e w' => e = .returned (.string ⟨#[]⟩) ∧ Below w.heap.size w w'))
    (HC : Hid (∀ w, Calls Tryz.prog 149 #[.string ⟨#[48, 49, 50, 51, 52, 53, 54, 55, 56, 57]⟩, .string (s.extract 0 1)] w fun e w' => e = .returned (.bool d) ∧ w = w'))
    (HF : Hid (∀ w, Calls Tryz.prog 150 #[.string s, .func (.func 151) #[] #[]] w fun e w' => e = .returned (.bool false) ∧ Below w.heap.size w w')) (w : World) :
    Calls Tryz.prog 134 #[.string s] w fun e w' => e = .returned (.bool !d) ∧ Below w.heap.size w w' := by
  cases d with
  | true =>
    go_enter Tryz.func134, Tryz.ntmps134
    go_wp2_with fail
    refine (H.out _).mono ?_; rintro e w1 ⟨rfl, hb⟩
    go_wp2_with fail
    refine (HC.out _).mono ?_; rintro e w2 ⟨rfl, rfl⟩
    go_wp2_with fail
    go_ret
    exact ⟨rfl, hb⟩
  | false =>
    go_enter Tryz.func134, Tryz.ntmps134
    go_wp2_with fail
    refine (H.out _).mono ?_; rintro e w1 ⟨rfl, hb⟩
    have HB := Lib.hid hb
    have hz := hb.size
    clear hb
    go_wp2_with fail
    refine (HC.out _).mono ?_; rintro e w2 ⟨rfl, rfl⟩
    go_wp2_with fail
    refine (HF.out _).mono ?_; rintro e w3 ⟨rfl, hb⟩
    have HB2 := Lib.hid (HB.out.trans (hb.mono hz))
    clear hb
    go_wp2_with fail
    go_ret
    exact ⟨rfl, HB2.out⟩
theorem cname_any (s : ByteArray) (hs : s.size ≤ 1000000) (w : World) :
    Calls Tryz.prog 134 #[.string s] w fun e w' => e = .returned (.bool (nameB s.data.toList)) ∧ Below w.heap.size w w' := by
  rcases empty_z s with ⟨h0, h1, h2, h3⟩ | ⟨h0, h1, h2, h3⟩
  · have hd := head_z s h0
    have hT := trimS_all s.data.toList nameMs
    rw [show (nameMs.contains ·) = nameC from funext name_ms] at hT
    have hnb : nameB s.data.toList = (!isDig s[0] && s.data.toList.all nameC) := by rw [hd]; rfl
    cases hall : s.data.toList.all nameC with
    | false =>
      rw [hall] at hT
      rw [hnb, hall, Bool.and_false]
      refine cname_out s ⟨(Lib.trimS s.data.toList nameMs).toArray⟩ h1 h2 (Lib.hid fun w => cname_trim s hs w) ?_ ?_ w
      · rw [ByteArray.toList_eq]; intro e
        have : Lib.trimS s.data.toList nameMs = [] := by simpa using e
        rw [this] at hT; cases hT
      · rw [ByteArray.toList_eq]; simpa using hT
    | true =>
      rw [hall] at hT
      rw [hnb, hall, Bool.and_true]
      refine cname_in s (isDig s[0]) h0 h1 h2 (Lib.hid fun w => ?_) (Lib.hid fun w => ?_) (Lib.hid fun w => ncontains_any s hall hs w) w
      · have := cname_trim s hs w
        rw [List.isEmpty_iff.1 hT] at this
        exact this
      · have he : s.extract 0 1 = ⟨#[s[0]]⟩ := by
          have hx : (s.extract 0 1).data.toList = [s[0]] := by
            have := Lib.extract_data s 0 1
            rw [this, hd]; simp
          exact bytes_ext' hx
        rw [he]
        have := ix_contains ⟨#[48, 49, 50, 51, 52, 53, 54, 55, 56, 57]⟩ s[0] w
        rw [show (⟨#[48, 49, 50, 51, 52, 53, 54, 55, 56, 57]⟩ : ByteArray).data.toList = ([48, 49, 50, 51, 52, 53, 54, 55, 56, 57] : List UInt8) from rfl, dig_ms] at this
        exact this
  · rw [h3]
    exact cname_no s h1 h2 w
end Go.Proofs.YtgaknbnhmoddcaaGreatDoor
namespace Go.Proofs.YtgaknbnhmoddcaaGreatDoor
open Go.RowKit
def ctext (k : Nat) (x : List UInt8) : Bool := if k = 3 then textB x else if k = 4 then nameB x else if k = 5 then nameB x else x.isEmpty
def cnum (k : Nat) (n : Int) : Bool := if k = 1 then (n == 0 || n == 1) else if k = 2 then true else n == 0
def cnest (k : Nat) : Bool := k == 6 || k == 7
theorem nest_kind (c : Cel) : nestC c = cnest c.kind.toNat := by
  unfold nestC cnest
  have h6 : (c.kind == 6) = (c.kind.toNat == 6) := by
    rw [Bool.eq_iff_iff, beq_iff_eq, beq_iff_eq]
    exact ⟨fun h => by rw [h]; rfl, fun h => UInt8.toNat_inj.1 h⟩
  have h7 : (c.kind == 7) = (c.kind.toNat == 7) := by
    rw [Bool.eq_iff_iff, beq_iff_eq, beq_iff_eq]
    exact ⟨fun h => by rw [h]; rfl, fun h => UInt8.toNat_inj.1 h⟩
  rw [h6, h7]
theorem one_kind (c : Cel) : oneC c = (decide (c.kind.toNat ≤ 7) && (ctext c.kind.toNat c.text && cnum c.kind.toNat c.num && (if cnest c.kind.toNat then decide (0 ≤ c.many) else c.many == 0))) := by
  have key : ∀ k : Nat, (c.kind.toNat = k) ↔ c.kind = UInt8.ofNat k ∧ k < 256 := by
    intro k
    constructor
    · intro h
      have hlt := UInt8.toNat_lt c.kind
      refine ⟨UInt8.toNat_inj.1 ?_, by omega⟩
      rw [UInt8.toNat_ofNat', h]
      omega
    · rintro ⟨h, h2⟩
      rw [h, UInt8.toNat_ofNat']
      omega
  have big : 7 < c.kind.toNat → oneC c = false := by
    intro h
    unfold oneC
    have ne : ∀ k : UInt8, k.toNat ≤ 7 → c.kind ≠ k := fun k hk e => by rw [e] at h; omega
    rw [if_neg (ne 0 (by decide)), if_neg (ne 1 (by decide)), if_neg (ne 2 (by decide)), if_neg (ne 3 (by decide)), if_neg (by rintro (e | e); exact ne 4 (by decide) e; exact ne 5 (by decide) e), if_neg (by rintro (e | e); exact ne 6 (by decide) e; exact ne 7 (by decide) e)]
  by_cases hb : c.kind.toNat ≤ 7
  · rw [decide_eq_true hb, Bool.true_and]
    have h8 : c.kind.toNat = 0 ∨ c.kind.toNat = 1 ∨ c.kind.toNat = 2 ∨ c.kind.toNat = 3 ∨ c.kind.toNat = 4 ∨ c.kind.toNat = 5 ∨ c.kind.toNat = 6 ∨ c.kind.toNat = 7 := by omega
    unfold oneC ctext cnum cnest
    rcases h8 with h | h | h | h | h | h | h | h <;> (have hk := ((key _).1 h).1; rw [h, hk]; simp; try (cases c.text <;> cases (c.many == 0) <;> simp))
  · rw [decide_eq_false hb, Bool.false_and]
    exact big (by omega)
def tfun (k : Nat) : Nat := if k = 3 then 133 else if k = 4 then 134 else if k = 5 then 134 else 129
def nfun (k : Nat) : Nat := if k = 1 then 131 else if k = 2 then 132 else 130
def kindsA : Array Value := #[.func (.func 129) #[] #[], .func (.func 130) #[] #[], .bool false, .func (.func 129) #[] #[], .func (.func 131) #[] #[], .bool false, .func (.func 129) #[] #[], .func (.func 132) #[] #[], .bool false, .func (.func 133) #[] #[], .func (.func 130) #[] #[], .bool false, .func (.func 134) #[] #[], .func (.func 130) #[] #[], .bool false, .func (.func 134) #[] #[], .func (.func 130) #[] #[], .bool false, .func (.func 129) #[] #[], .func (.func 130) #[] #[], .bool true, .func (.func 129) #[] #[], .func (.func 130) #[] #[], .bool true]
theorem kindsA_get (k : Nat) (h : k ≤ 7) : kindsA[k * 3]? = some (.func (.func (tfun k)) #[] #[]) ∧ kindsA[k * 3 + 1]? = some (.func (.func (nfun k)) #[] #[]) ∧ kindsA[k * 3 + 2]? = some (.bool (cnest k)) := by
  have h8 : k = 0 ∨ k = 1 ∨ k = 2 ∨ k = 3 ∨ k = 4 ∨ k = 5 ∨ k = 6 ∨ k = 7 := by omega
  rcases h8 with rfl | rfl | rfl | rfl | rfl | rfl | rfl | rfl <;> exact ⟨rfl, rfl, rfl⟩
theorem ent_none : ∀ args w, (callFunc 129 args).run Tryz.prog w = .ok (.enter 129 args) w := enters_of Tryz.func129 (by kernel_rfl) rfl
theorem ent_zero : ∀ args w, (callFunc 130 args).run Tryz.prog w = .ok (.enter 130 args) w := enters_of Tryz.func130 (by kernel_rfl) rfl
theorem ent_name : ∀ args w, (callFunc 134 args).run Tryz.prog w = .ok (.enter 134 args) w := enters_of Tryz.func134 (by kernel_rfl) rfl
theorem ent_k1 : ∀ args w, (callFunc 131 args).run Tryz.prog w = .ok (.enter 131 args) w := enters_of Tryz.func131 (by kernel_rfl) rfl
theorem ent_k2 : ∀ args w, (callFunc 132 args).run Tryz.prog w = .ok (.enter 132 args) w := enters_of Tryz.func132 (by kernel_rfl) rfl
theorem ent_k3 : ∀ args w, (callFunc 133 args).run Tryz.prog w = .ok (.enter 133 args) w := enters_of Tryz.func133 (by kernel_rfl) rfl
theorem tfun_ent (k : Nat) : ∀ args w, (callFunc (tfun k) args).run Tryz.prog w = .ok (.enter (tfun k) args) w := by
  unfold tfun
  split
  · exact ent_k3
  · split
    · exact ent_name
    · split
      · exact ent_name
      · exact ent_none
theorem nfun_ent (k : Nat) : ∀ args w, (callFunc (nfun k) args).run Tryz.prog w = .ok (.enter (nfun k) args) w := by
  unfold nfun
  split
  · exact ent_k1
  · split
    · exact ent_k2
    · exact ent_zero
theorem none_any (s : ByteArray) (w : World) : Calls Tryz.prog 129 #[.string s] w fun e w' => e = .returned (.bool s.data.toList.isEmpty) ∧ Below w.heap.size w w' := by
  rcases empty_z s with ⟨h0, h1, h2, h3⟩ | ⟨h0, h1, h2, h3⟩
  · have : s.data.toList.isEmpty = false := by rw [← ByteArray.toList_eq]; exact h2
    rw [this]
    go_enter Tryz.func129, Tryz.ntmps129
    go_wp2_with fail
    go_ret
    exact ⟨rfl, Below.refl _ _⟩
  · have : s.data.toList.isEmpty = true := by rw [← ByteArray.toList_eq]; exact h2
    rw [this]
    go_enter Tryz.func129, Tryz.ntmps129
    go_wp2_with fail
    go_ret
    exact ⟨rfl, Below.refl _ _⟩
theorem zero_any (n : Int) (w : World) : Calls Tryz.prog 130 #[.int .i64 n] w fun e w' => e = .returned (.bool (n == 0)) ∧ Below w.heap.size w w' := by
  go_enter Tryz.func130, Tryz.ntmps130
  go_wp2_with fail
  go_ret
  exact ⟨rfl, Below.refl _ _⟩
theorem k1_any (n : Int) (w : World) : Calls Tryz.prog 131 #[.int .i64 n] w fun e w' => e = .returned (.bool (n == 0 || n == 1)) ∧ Below w.heap.size w w' := by
  by_cases h : n = 0
  · have h0 : (n == 0) = true := beq_iff_eq.2 h
    have hr : Hid ((n == 0 || n == 1) = true) := Lib.hid (by rw [h0]; rfl)
    clear h
    go_enter Tryz.func131, Tryz.ntmps131
    go_wp2_with fail
    go_ret
    exact ⟨ret_b hr.out.symm, Below.refl _ _⟩
  · have h0 : (n == 0) = false := beq_eq_false_iff_ne.2 h
    have hr : Hid ((n == 0 || n == 1) = (n == 1)) := Lib.hid (by rw [h0]; rfl)
    clear h
    go_enter Tryz.func131, Tryz.ntmps131
    go_wp2_with fail
    go_ret
    exact ⟨ret_b hr.out.symm, Below.refl _ _⟩
theorem k2_any (n : Int) (w : World) : Calls Tryz.prog 132 #[.int .i64 n] w fun e w' => e = .returned (.bool true) ∧ Below w.heap.size w w' := by
  go_enter Tryz.func132, Tryz.ntmps132
  go_wp2_with fail
  go_ret
  exact ⟨rfl, Below.refl _ _⟩
theorem chkE_text (l : List UInt8) : textB l = (chkE l == 0) := by
  unfold textB chkE
  by_cases q : 16384 < l.length
  · rw [if_pos q, decide_eq_false (by omega)]; rfl
  · rw [if_neg q, decide_eq_true (by omega), Bool.true_and]
    cases Lib.validD l <;> rfl
theorem chkE_cases (l : List UInt8) : chkE l = 0 ∨ chkE l = 4 ∨ chkE l = 10 := by
  unfold chkE
  by_cases q : 16384 < l.length
  · rw [if_pos q]; right; left; rfl
  · rw [if_neg q]
    cases Lib.validD l
    · right; right; rfl
    · left; rfl
theorem k3_any (s : ByteArray) (hs : s.size ≤ 1000000) (w : World) (hE : EnvU w) : Calls Tryz.prog 133 #[.string s] w fun e w' => e = .returned (.bool (textB s.data.toList)) ∧ Below w.heap.size w w' := by
  have H := Lib.hid (tcheck_any s hs w hE)
  rw [chkE_text]
  have hc := chkE_cases s.data.toList
  clear hE
  generalize chkE s.data.toList = c at *
  rcases hc with rfl | rfl | rfl
  all_goals
    go_enter Tryz.func133, Tryz.ntmps133
    go_wp2_with fail
    refine H.out.mono ?_; rintro e w1 ⟨rfl, hb⟩
    go_wp2_with fail
    go_ret
    exact ⟨rfl, hb⟩
theorem tfun_any (k : Nat) (s : ByteArray) (hs : s.size ≤ 1000000) (w : World) (hE : EnvU w) : Calls Tryz.prog (tfun k) #[.string s] w fun e w' => e = .returned (.bool (ctext k s.data.toList)) ∧ Below w.heap.size w w' := by
  unfold tfun ctext
  by_cases h3 : k = 3
  · rw [if_pos h3, if_pos h3]; exact k3_any s hs w hE
  rw [if_neg h3, if_neg h3]
  by_cases h4 : k = 4
  · rw [if_pos h4, if_pos h4]; exact cname_any s hs w
  rw [if_neg h4, if_neg h4]
  by_cases h5 : k = 5
  · rw [if_pos h5, if_pos h5]; exact cname_any s hs w
  rw [if_neg h5, if_neg h5]; exact none_any s w
theorem nfun_any (k : Nat) (n : Int) (w : World) : Calls Tryz.prog (nfun k) #[.int .i64 n] w fun e w' => e = .returned (.bool (cnum k n)) ∧ Below w.heap.size w w' := by
  unfold nfun cnum
  by_cases h1 : k = 1
  · rw [if_pos h1, if_pos h1]; exact k1_any n w
  rw [if_neg h1, if_neg h1]
  by_cases h2 : k = 2
  · rw [if_pos h2, if_pos h2]; exact k2_any n w
  rw [if_neg h2, if_neg h2]; exact zero_any n w
theorem kindsA_one : kindsA.all (·.oneCell') = true := by kernel_rfl
set_option maxRecDepth 100000 in
theorem kinds_any (w : World) : Calls Tryz.prog 112 #[] w fun e w' => e = .returned (.agg kindsA) ∧ Below w.heap.size w w' := by
  have hn : Hid (∀ O, (w.alloc O).heap[w.heap.size]? = some O) := Lib.hid (heap_alloc_new w)
  go_enter Tryz.func112, Tryz.ntmps112
  go_wp2_with (refine wpList_store_row rfl 184 _ _ rfl w.heap.size kindsA rfl rfl 184 #[.nilFunc, .nilFunc, .bool false, .nilFunc, .nilFunc, .bool false, .nilFunc, .nilFunc, .bool false, .nilFunc, .nilFunc, .bool false, .nilFunc, .nilFunc, .bool false, .nilFunc, .nilFunc, .bool false, .nilFunc, .nilFunc, .bool false, .nilFunc, .nilFunc, .bool false] (hn.out _) (by kernel_rfl) rfl kindsA_one ?_)
  refine bodyPost_ret (v := .agg kindsA) (results_cell_row rfl _ _ w.heap.size 184 kindsA (0, 0) _ rfl (setRow_heap _ _ _ kindsA _ _ (hn.out _)) Tryz.underlying184 rfl (by kernel_rfl)) rfl ⟨rfl, ?_⟩
  exact below_setRow ((Below.refl _ _).alloc (Nat.le_refl _) _) (Nat.le_refl _) _
end Go.Proofs.YtgaknbnhmoddcaaGreatDoor
namespace Go.Proofs.YtgaknbnhmoddcaaGreatDoor
open Go.RowKit
/-- A slice that reads as texts. -/
def StrSl (v : Value) (l : List ByteArray) (W : World) : Prop := (∃ a cap, v = .slice a 0 cap ∧ l = []) ∨ ∃ b off cap, v = .slice (some ⟨b, off, none⟩) l.length cap ∧ ∀ (j : Nat) x, l[j]? = some x → W.cell? ⟨b, off + j, none⟩ = some (.string x)
theorem OwnS.sl {B : Nat} {v : Value} {l : List ByteArray} {w : World} (h : OwnS B v l w) : StrSl v l w := by
  rcases h.cells with ⟨h1, h2⟩ | ⟨g, cap, h1, h2, h3, h4⟩
  · exact Or.inl ⟨_, _, h1, h2⟩
  · exact Or.inr ⟨g, 0, cap, h1, h4⟩
end Go.Proofs.YtgaknbnhmoddcaaGreatDoor
namespace Go.Proofs.YtgaknbnhmoddcaaGreatDoor
open Go.RowKit
theorem StrSl.below {v : Value} {l : List ByteArray} {w w' : World} (h : StrSl v l w) (hb : Below w.heap.size w w') : StrSl v l w' := by
  rcases h with h | ⟨b, off, cap, h1, h2⟩
  · exact Or.inl h
  · refine Or.inr ⟨b, off, cap, h1, fun j x hj => ?_⟩
    exact (hb.cell (p := ⟨b, _, none⟩) (lt_of_cell (h2 j x hj))).trans (h2 j x hj)
end Go.Proofs.YtgaknbnhmoddcaaGreatDoor
namespace Go.Proofs.YtgaknbnhmoddcaaGreatDoor
open Go.RowKit
/-- What behind's inner function finds: the cells, the kinds, itself, the ends. -/
structure BH (w0 : World) (V : List Cel) (b off cap bv ba bw be g : Nat) (es : Array Value) (W : World) : Prop where
  hv : W.heap[bv]? = some (.cells #[.slice (some ⟨b, off, none⟩) V.length cap] 22 (0, 0))
  ha : W.heap[ba]? = some (.cells kindsA 184 (0, 0))
  hw : W.heap[bw]? = some (.cells #[.func (.func 113) #[] #[.pointer (some ⟨bv, 0, none⟩), .pointer (some ⟨ba, 0, none⟩), .pointer (some ⟨bw, 0, none⟩), .pointer (some ⟨be, 0, none⟩)]] 186 (0, 0))
  he : W.heap[be]? = some (.cells #[.slice (some ⟨g, 0, none⟩) V.length V.length] 131 (0, 0))
  hg : W.heap[g]? = some (.cells es 3 (0, 0))
  size : es.size = V.length
  bel : Below w0.heap.size w0 W
  lv : w0.heap.size ≤ bv
  la : w0.heap.size ≤ ba
  lw : w0.heap.size ≤ bw
  le : w0.heap.size ≤ be
  lg : w0.heap.size ≤ g
  nv : bv ≠ g
  na : ba ≠ g
  nw : bw ≠ g
  ne : be ≠ g
section
variable {w0 : World} {V : List Cel} {b off cap bv ba bw be g : Nat} {es : Array Value} {W W' : World}
theorem BH.below (h : BH w0 V b off cap bv ba bw be g es W) (hb : Below W.heap.size W W') : BH w0 V b off cap bv ba bw be g es W' :=
  { h with
    hv := (hb.block _ (heap_lt h.hv)).trans h.hv
    ha := (hb.block _ (heap_lt h.ha)).trans h.ha
    hw := (hb.block _ (heap_lt h.hw)).trans h.hw
    he := (hb.block _ (heap_lt h.he)).trans h.he
    hg := (hb.block _ (heap_lt h.hg)).trans h.hg
    bel := h.bel.trans (hb.mono h.bel.size) }
theorem BH.alloc (h : BH w0 V b off cap bv ba bw be g es W) (o : Obj) : BH w0 V b off cap bv ba bw be g es (W.alloc o) := h.below ((Below.refl _ _).alloc (Nat.le_refl _) _)
theorem BH.grown (h : BH w0 V b off cap bv ba bw be g es W) (hb : W.grownBy W' (some g)) {es' : Array Value} (hg : W'.heap[g]? = some (.cells es' 3 (0, 0))) (hs : es'.size = es.size) : BH w0 V b off cap bv ba bw be g es' W' :=
  { h with
    hv := (hb.block _ (heap_lt h.hv) (fun e => h.nv (Option.some.inj e))).trans h.hv
    ha := (hb.block _ (heap_lt h.ha) (fun e => h.na (Option.some.inj e))).trans h.ha
    hw := (hb.block _ (heap_lt h.hw) (fun e => h.nw (Option.some.inj e))).trans h.hw
    he := (hb.block _ (heap_lt h.he) (fun e => h.ne (Option.some.inj e))).trans h.he
    hg := hg
    size := hs.trans h.size
    bel := h.bel.grown hb h.bel.size (fun k hk => by have := Option.some.inj hk; have := h.lg; omega) }
end
theorem grown_below {W W' : World} (hb : Below W.heap.size W W') (row : Option Nat) : W.grownBy W' row := ⟨hb.os, hb.tape, hb.output, hb.size, fun k hk _ => hb.block k hk⟩
theorem grown_trans {W W' W'' : World} {row : Option Nat} (h : W.grownBy W' row) (h' : W'.grownBy W'' row) : W.grownBy W'' row :=
  ⟨h'.os.trans h.os, h'.tape.trans h.tape, h'.output.trans h.output, Nat.le_trans h.size h'.size, fun k hk hne => (h'.block k (Nat.lt_of_lt_of_le hk h.size) hne).trans (h.block k hk hne)⟩
/-- What a call of behind's inner function hands back: the place, and the ends that it wrote. -/
def BEnd (V : List Cel) (k d g : Nat) (es : Array Value) (r : Int) (e : Ending) (W W' : World) : Prop :=
  e = .returned (.int .i64 r) ∧ W.grownBy W' (some g) ∧ ∃ es' : Array Value, W'.heap[g]? = some (.cells es' 3 (0, 0)) ∧ es'.size = es.size ∧
    ∀ n, valN d (V.drop k) = some n → (∀ i, i < k ∨ k + n ≤ i → es'[i]? = es[i]?) ∧ ∀ i, k ≤ i → i < k + n → es'[i]? = some (.int .i64 (endI V i 16))
theorem bend_no {V : List Cel} {k d g : Nat} {es : Array Value} {W W' : World} (hn : valN d (V.drop k) = none) (hg : W.heap[g]? = some (.cells es 3 (0, 0))) (hb : Below W.heap.size W W') : BEnd V k d g es (endI V k d) (.returned (.int .i64 (-1))) W W' := by
  have : endI V k d = -1 := by unfold endI; rw [hn]
  rw [this]
  refine ⟨rfl, grown_below hb _, es, (hb.block _ (heap_lt hg)).trans hg, rfl, ?_⟩
  intro n h
  rw [hn] at h; cases h
set_option maxRecDepth 100000 in
set_option maxHeartbeats 1000000 in
theorem bw_big (w0 : World) (V : List Cel) (b off cap bv ba bw be g : Nat) (es : Array Value) (W : World) (k d : Nat) (hB : BH w0 V b off cap bv ba bw be g es W) (kk : Nat) (nx tx : ByteArray) (nu mn : Int)
    (hk : k < V.length) (hl : V.length ≤ 100000) (hd : d ≤ 16)
    (c0 : W.cell? ⟨b, off + k * 5, none⟩ = some (.int .u8 (kk : Int))) (c1 : W.cell? ⟨b, off + k * 5 + 1, none⟩ = some (.string nx)) (c2 : W.cell? ⟨b, off + k * 5 + 2, none⟩ = some (.string tx)) (c3 : W.cell? ⟨b, off + k * 5 + 3, none⟩ = some (.int .i64 nu)) (c4 : W.cell? ⟨b, off + k * 5 + 4, none⟩ = some (.int .i64 mn))
    (h7 : 7 < kk) (h8 : kk ≤ 255) :
    Calls Tryz.prog 113 #[.int .i64 (k : Int), .int .i64 (d : Int), .pointer (some ⟨bv, 0, none⟩), .pointer (some ⟨ba, 0, none⟩), .pointer (some ⟨bw, 0, none⟩), .pointer (some ⟨be, 0, none⟩)] W fun e w' => e = .returned (.int .i64 (-1)) ∧ Below W.heap.size W w' := by
  have v0 : W.cell? ⟨bv, 0, none⟩ = some (.slice (some ⟨b, off, none⟩) V.length cap) := by rw [Lib.cell_of_heap hB.hv]; rfl
  clear hB
  go_enter Tryz.func113, Tryz.ntmps113
  go_wp2_with fail
  go_ret
  exact ⟨rfl, (Below.refl _ _).alloc (Nat.le_refl _) _⟩
set_option maxRecDepth 100000 in
set_option maxHeartbeats 1000000 in
theorem bw_text (w0 : World) (V : List Cel) (b off cap bv ba bw be g : Nat) (es : Array Value) (W : World) (k d : Nat) (hB : BH w0 V b off cap bv ba bw be g es W) (kk : Nat) (nx tx : ByteArray) (nu mn : Int)
    (hk : k < V.length) (hl : V.length ≤ 100000) (hd : d ≤ 16)
    (c0 : W.cell? ⟨b, off + k * 5, none⟩ = some (.int .u8 (kk : Int))) (c1 : W.cell? ⟨b, off + k * 5 + 1, none⟩ = some (.string nx)) (c2 : W.cell? ⟨b, off + k * 5 + 2, none⟩ = some (.string tx)) (c3 : W.cell? ⟨b, off + k * 5 + 3, none⟩ = some (.int .i64 nu)) (c4 : W.cell? ⟨b, off + k * 5 + 4, none⟩ = some (.int .i64 mn))
    (hk7 : kk ≤ 7) (HT : Hid (∀ w : World, Below W.heap.size W w → Calls Tryz.prog (tfun kk) #[.string tx] w fun e w' => e = .returned (.bool false) ∧ Below w.heap.size w w')) :
    Calls Tryz.prog 113 #[.int .i64 (k : Int), .int .i64 (d : Int), .pointer (some ⟨bv, 0, none⟩), .pointer (some ⟨ba, 0, none⟩), .pointer (some ⟨bw, 0, none⟩), .pointer (some ⟨be, 0, none⟩)] W fun e w' => e = .returned (.int .i64 (-1)) ∧ Below W.heap.size W w' := by
  have v0 : W.cell? ⟨bv, 0, none⟩ = some (.slice (some ⟨b, off, none⟩) V.length cap) := by rw [Lib.cell_of_heap hB.hv]; rfl
  have lba := heap_lt hB.ha
  have lbv := heap_lt hB.hv
  obtain ⟨a0, a1, a2⟩ := kindsA_get kk hk7
  have k0 : W.cell? ⟨ba, kk * 3, none⟩ = some (.func (.func (tfun kk)) #[] #[]) := by rw [Lib.cell_of_heap hB.ha]; exact a0
  have k1 : W.cell? ⟨ba, kk * 3 + 1, none⟩ = some (.func (.func (nfun kk)) #[] #[]) := by rw [Lib.cell_of_heap hB.ha]; exact a1
  have k2 : W.cell? ⟨ba, kk * 3 + 2, none⟩ = some (.bool (cnest kk)) := by rw [Lib.cell_of_heap hB.ha]; exact a2
  have ht := tfun_ent kk
  have hn := nfun_ent kk
  clear a0 a1 a2
  generalize tfun kk = ft at *
  generalize nfun kk = fn at *
  generalize cnest kk = nest at *
  have HB := Lib.hid hB
  clear hB
  go_enter Tryz.func113, Tryz.ntmps113
  go_wp2_with fail
  refine (HT.out _ (((Below.refl _ _).alloc (Nat.le_refl _) _).alloc (by simp) _)).mono ?_; rintro e w1 ⟨rfl, hb⟩
  have hb1 : Below W.heap.size W w1 := (((Below.refl _ _).alloc (Nat.le_refl _) _).alloc (by simp) _).trans (hb.mono (by simp; omega))
  have hc : w1.heap[W.heap.size]? = some (.cells #[.int .u8 (kk : Int), .string nx, .string tx, .int .i64 nu, .int .i64 mn] 63 (0, 0)) := (hb.block _ (by simp; omega)).trans (heap_old (heap_new _ _ _ rfl))
  have hq : w1.heap[W.heap.size + 1]? = some (.cells #[.func (.func ft) #[] #[], .func (.func fn) #[] #[], .bool nest] 183 (0, 0)) := (hb.block _ (by simp)).trans (heap_new _ _ _ (by simp))
  clear hb
  have w1c0 : w1.cell? ⟨W.heap.size, 0, none⟩ = some (.int .u8 (kk : Int)) := by rw [Lib.cell_of_heap hc]; rfl
  have w1c1 : w1.cell? ⟨W.heap.size, 1, none⟩ = some (.string nx) := by rw [Lib.cell_of_heap hc]; rfl
  have w1c2 : w1.cell? ⟨W.heap.size, 2, none⟩ = some (.string tx) := by rw [Lib.cell_of_heap hc]; rfl
  have w1c3 : w1.cell? ⟨W.heap.size, 3, none⟩ = some (.int .i64 nu) := by rw [Lib.cell_of_heap hc]; rfl
  have w1c4 : w1.cell? ⟨W.heap.size, 4, none⟩ = some (.int .i64 mn) := by rw [Lib.cell_of_heap hc]; rfl
  have w1q0 : w1.cell? ⟨W.heap.size + 1, 0, none⟩ = some (.func (.func ft) #[] #[]) := by rw [Lib.cell_of_heap hq]; rfl
  have w1q1 : w1.cell? ⟨W.heap.size + 1, 1, none⟩ = some (.func (.func fn) #[] #[]) := by rw [Lib.cell_of_heap hq]; rfl
  have w1q2 : w1.cell? ⟨W.heap.size + 1, 2, none⟩ = some (.bool nest) := by rw [Lib.cell_of_heap hq]; rfl
  have HC := Lib.hid hc
  have HQ := Lib.hid hq
  have HB1 := Lib.hid hb1
  clear hc hq hb1
  go_wp2_with fail
  go_ret
  exact ⟨rfl, HB1.out⟩
set_option maxRecDepth 100000 in
set_option maxHeartbeats 1000000 in
theorem bw_num (w0 : World) (V : List Cel) (b off cap bv ba bw be g : Nat) (es : Array Value) (W : World) (k d : Nat) (hB : BH w0 V b off cap bv ba bw be g es W) (kk : Nat) (nx tx : ByteArray) (nu mn : Int)
    (hk : k < V.length) (hl : V.length ≤ 100000) (hd : d ≤ 16)
    (c0 : W.cell? ⟨b, off + k * 5, none⟩ = some (.int .u8 (kk : Int))) (c1 : W.cell? ⟨b, off + k * 5 + 1, none⟩ = some (.string nx)) (c2 : W.cell? ⟨b, off + k * 5 + 2, none⟩ = some (.string tx)) (c3 : W.cell? ⟨b, off + k * 5 + 3, none⟩ = some (.int .i64 nu)) (c4 : W.cell? ⟨b, off + k * 5 + 4, none⟩ = some (.int .i64 mn))
    (hk7 : kk ≤ 7) (HT : Hid (∀ w : World, Below W.heap.size W w → Calls Tryz.prog (tfun kk) #[.string tx] w fun e w' => e = .returned (.bool true) ∧ Below w.heap.size w w'))
    (HN : Hid (∀ w : World, Calls Tryz.prog (nfun kk) #[.int .i64 nu] w fun e w' => e = .returned (.bool false) ∧ Below w.heap.size w w')) :
    Calls Tryz.prog 113 #[.int .i64 (k : Int), .int .i64 (d : Int), .pointer (some ⟨bv, 0, none⟩), .pointer (some ⟨ba, 0, none⟩), .pointer (some ⟨bw, 0, none⟩), .pointer (some ⟨be, 0, none⟩)] W fun e w' => e = .returned (.int .i64 (-1)) ∧ Below W.heap.size W w' := by
  have v0 : W.cell? ⟨bv, 0, none⟩ = some (.slice (some ⟨b, off, none⟩) V.length cap) := by rw [Lib.cell_of_heap hB.hv]; rfl
  have lba := heap_lt hB.ha
  have lbv := heap_lt hB.hv
  obtain ⟨a0, a1, a2⟩ := kindsA_get kk hk7
  have k0 : W.cell? ⟨ba, kk * 3, none⟩ = some (.func (.func (tfun kk)) #[] #[]) := by rw [Lib.cell_of_heap hB.ha]; exact a0
  have k1 : W.cell? ⟨ba, kk * 3 + 1, none⟩ = some (.func (.func (nfun kk)) #[] #[]) := by rw [Lib.cell_of_heap hB.ha]; exact a1
  have k2 : W.cell? ⟨ba, kk * 3 + 2, none⟩ = some (.bool (cnest kk)) := by rw [Lib.cell_of_heap hB.ha]; exact a2
  have ht := tfun_ent kk
  have hn := nfun_ent kk
  clear a0 a1 a2
  generalize tfun kk = ft at *
  generalize nfun kk = fn at *
  generalize cnest kk = nest at *
  have HB := Lib.hid hB
  clear hB
  go_enter Tryz.func113, Tryz.ntmps113
  go_wp2_with fail
  refine (HT.out _ (((Below.refl _ _).alloc (Nat.le_refl _) _).alloc (by simp) _)).mono ?_; rintro e w1 ⟨rfl, hb⟩
  have hb1 : Below W.heap.size W w1 := (((Below.refl _ _).alloc (Nat.le_refl _) _).alloc (by simp) _).trans (hb.mono (by simp; omega))
  have hc : w1.heap[W.heap.size]? = some (.cells #[.int .u8 (kk : Int), .string nx, .string tx, .int .i64 nu, .int .i64 mn] 63 (0, 0)) := (hb.block _ (by simp; omega)).trans (heap_old (heap_new _ _ _ rfl))
  have hq : w1.heap[W.heap.size + 1]? = some (.cells #[.func (.func ft) #[] #[], .func (.func fn) #[] #[], .bool nest] 183 (0, 0)) := (hb.block _ (by simp)).trans (heap_new _ _ _ (by simp))
  clear hb
  have w1c0 : w1.cell? ⟨W.heap.size, 0, none⟩ = some (.int .u8 (kk : Int)) := by rw [Lib.cell_of_heap hc]; rfl
  have w1c1 : w1.cell? ⟨W.heap.size, 1, none⟩ = some (.string nx) := by rw [Lib.cell_of_heap hc]; rfl
  have w1c2 : w1.cell? ⟨W.heap.size, 2, none⟩ = some (.string tx) := by rw [Lib.cell_of_heap hc]; rfl
  have w1c3 : w1.cell? ⟨W.heap.size, 3, none⟩ = some (.int .i64 nu) := by rw [Lib.cell_of_heap hc]; rfl
  have w1c4 : w1.cell? ⟨W.heap.size, 4, none⟩ = some (.int .i64 mn) := by rw [Lib.cell_of_heap hc]; rfl
  have w1q0 : w1.cell? ⟨W.heap.size + 1, 0, none⟩ = some (.func (.func ft) #[] #[]) := by rw [Lib.cell_of_heap hq]; rfl
  have w1q1 : w1.cell? ⟨W.heap.size + 1, 1, none⟩ = some (.func (.func fn) #[] #[]) := by rw [Lib.cell_of_heap hq]; rfl
  have w1q2 : w1.cell? ⟨W.heap.size + 1, 2, none⟩ = some (.bool nest) := by rw [Lib.cell_of_heap hq]; rfl
  have HC := Lib.hid hc
  have HQ := Lib.hid hq
  have HB1 := Lib.hid hb1
  clear hc hq hb1
  go_wp2_with fail
  refine (HN.out _).mono ?_; rintro e w2 ⟨rfl, hb⟩
  clear w1c0 w1c1 w1c2 w1c3 w1c4 w1q0 w1q1 w1q2
  have hb2 : Below W.heap.size W w2 := HB1.out.trans (hb.mono HB1.out.size)
  have hc : w2.heap[W.heap.size]? = some (.cells #[.int .u8 (kk : Int), .string nx, .string tx, .int .i64 nu, .int .i64 mn] 63 (0, 0)) := (hb.block _ (heap_lt HC.out)).trans HC.out
  have hq : w2.heap[W.heap.size + 1]? = some (.cells #[.func (.func ft) #[] #[], .func (.func fn) #[] #[], .bool nest] 183 (0, 0)) := (hb.block _ (heap_lt HQ.out)).trans HQ.out
  clear hb
  have w2c0 : w2.cell? ⟨W.heap.size, 0, none⟩ = some (.int .u8 (kk : Int)) := by rw [Lib.cell_of_heap hc]; rfl
  have w2c1 : w2.cell? ⟨W.heap.size, 1, none⟩ = some (.string nx) := by rw [Lib.cell_of_heap hc]; rfl
  have w2c2 : w2.cell? ⟨W.heap.size, 2, none⟩ = some (.string tx) := by rw [Lib.cell_of_heap hc]; rfl
  have w2c3 : w2.cell? ⟨W.heap.size, 3, none⟩ = some (.int .i64 nu) := by rw [Lib.cell_of_heap hc]; rfl
  have w2c4 : w2.cell? ⟨W.heap.size, 4, none⟩ = some (.int .i64 mn) := by rw [Lib.cell_of_heap hc]; rfl
  have w2q0 : w2.cell? ⟨W.heap.size + 1, 0, none⟩ = some (.func (.func ft) #[] #[]) := by rw [Lib.cell_of_heap hq]; rfl
  have w2q1 : w2.cell? ⟨W.heap.size + 1, 1, none⟩ = some (.func (.func fn) #[] #[]) := by rw [Lib.cell_of_heap hq]; rfl
  have w2q2 : w2.cell? ⟨W.heap.size + 1, 2, none⟩ = some (.bool nest) := by rw [Lib.cell_of_heap hq]; rfl
  have HC2 := Lib.hid hc
  have HQ2 := Lib.hid hq
  have HB2 := Lib.hid hb2
  clear hc hq hb2 HC HQ HB1
  go_wp2_with fail
  go_ret
  exact ⟨rfl, HB2.out⟩
set_option maxRecDepth 100000 in
set_option maxHeartbeats 1000000 in
theorem bw_neg (w0 : World) (V : List Cel) (b off cap bv ba bw be g : Nat) (es : Array Value) (W : World) (k d : Nat) (hB : BH w0 V b off cap bv ba bw be g es W) (kk : Nat) (nx tx : ByteArray) (nu mn : Int)
    (hk : k < V.length) (hl : V.length ≤ 100000) (hd : d ≤ 16)
    (c0 : W.cell? ⟨b, off + k * 5, none⟩ = some (.int .u8 (kk : Int))) (c1 : W.cell? ⟨b, off + k * 5 + 1, none⟩ = some (.string nx)) (c2 : W.cell? ⟨b, off + k * 5 + 2, none⟩ = some (.string tx)) (c3 : W.cell? ⟨b, off + k * 5 + 3, none⟩ = some (.int .i64 nu)) (c4 : W.cell? ⟨b, off + k * 5 + 4, none⟩ = some (.int .i64 mn))
    (hk7 : kk ≤ 7) (HT : Hid (∀ w : World, Below W.heap.size W w → Calls Tryz.prog (tfun kk) #[.string tx] w fun e w' => e = .returned (.bool true) ∧ Below w.heap.size w w'))
    (HN : Hid (∀ w : World, Calls Tryz.prog (nfun kk) #[.int .i64 nu] w fun e w' => e = .returned (.bool true) ∧ Below w.heap.size w w'))
    (hm : mn < 0) :
    Calls Tryz.prog 113 #[.int .i64 (k : Int), .int .i64 (d : Int), .pointer (some ⟨bv, 0, none⟩), .pointer (some ⟨ba, 0, none⟩), .pointer (some ⟨bw, 0, none⟩), .pointer (some ⟨be, 0, none⟩)] W fun e w' => e = .returned (.int .i64 (-1)) ∧ Below W.heap.size W w' := by
  have v0 : W.cell? ⟨bv, 0, none⟩ = some (.slice (some ⟨b, off, none⟩) V.length cap) := by rw [Lib.cell_of_heap hB.hv]; rfl
  have lba := heap_lt hB.ha
  have lbv := heap_lt hB.hv
  obtain ⟨a0, a1, a2⟩ := kindsA_get kk hk7
  have k0 : W.cell? ⟨ba, kk * 3, none⟩ = some (.func (.func (tfun kk)) #[] #[]) := by rw [Lib.cell_of_heap hB.ha]; exact a0
  have k1 : W.cell? ⟨ba, kk * 3 + 1, none⟩ = some (.func (.func (nfun kk)) #[] #[]) := by rw [Lib.cell_of_heap hB.ha]; exact a1
  have k2 : W.cell? ⟨ba, kk * 3 + 2, none⟩ = some (.bool (cnest kk)) := by rw [Lib.cell_of_heap hB.ha]; exact a2
  have ht := tfun_ent kk
  have hn := nfun_ent kk
  clear a0 a1 a2
  generalize tfun kk = ft at *
  generalize nfun kk = fn at *
  generalize cnest kk = nest at *
  have HB := Lib.hid hB
  clear hB
  go_enter Tryz.func113, Tryz.ntmps113
  go_wp2_with fail
  refine (HT.out _ (((Below.refl _ _).alloc (Nat.le_refl _) _).alloc (by simp) _)).mono ?_; rintro e w1 ⟨rfl, hb⟩
  have hb1 : Below W.heap.size W w1 := (((Below.refl _ _).alloc (Nat.le_refl _) _).alloc (by simp) _).trans (hb.mono (by simp; omega))
  have hc : w1.heap[W.heap.size]? = some (.cells #[.int .u8 (kk : Int), .string nx, .string tx, .int .i64 nu, .int .i64 mn] 63 (0, 0)) := (hb.block _ (by simp; omega)).trans (heap_old (heap_new _ _ _ rfl))
  have hq : w1.heap[W.heap.size + 1]? = some (.cells #[.func (.func ft) #[] #[], .func (.func fn) #[] #[], .bool nest] 183 (0, 0)) := (hb.block _ (by simp)).trans (heap_new _ _ _ (by simp))
  clear hb
  have w1c0 : w1.cell? ⟨W.heap.size, 0, none⟩ = some (.int .u8 (kk : Int)) := by rw [Lib.cell_of_heap hc]; rfl
  have w1c1 : w1.cell? ⟨W.heap.size, 1, none⟩ = some (.string nx) := by rw [Lib.cell_of_heap hc]; rfl
  have w1c2 : w1.cell? ⟨W.heap.size, 2, none⟩ = some (.string tx) := by rw [Lib.cell_of_heap hc]; rfl
  have w1c3 : w1.cell? ⟨W.heap.size, 3, none⟩ = some (.int .i64 nu) := by rw [Lib.cell_of_heap hc]; rfl
  have w1c4 : w1.cell? ⟨W.heap.size, 4, none⟩ = some (.int .i64 mn) := by rw [Lib.cell_of_heap hc]; rfl
  have w1q0 : w1.cell? ⟨W.heap.size + 1, 0, none⟩ = some (.func (.func ft) #[] #[]) := by rw [Lib.cell_of_heap hq]; rfl
  have w1q1 : w1.cell? ⟨W.heap.size + 1, 1, none⟩ = some (.func (.func fn) #[] #[]) := by rw [Lib.cell_of_heap hq]; rfl
  have w1q2 : w1.cell? ⟨W.heap.size + 1, 2, none⟩ = some (.bool nest) := by rw [Lib.cell_of_heap hq]; rfl
  have HC := Lib.hid hc
  have HQ := Lib.hid hq
  have HB1 := Lib.hid hb1
  clear hc hq hb1
  go_wp2_with fail
  refine (HN.out _).mono ?_; rintro e w2 ⟨rfl, hb⟩
  clear w1c0 w1c1 w1c2 w1c3 w1c4 w1q0 w1q1 w1q2
  have hb2 : Below W.heap.size W w2 := HB1.out.trans (hb.mono HB1.out.size)
  have hc : w2.heap[W.heap.size]? = some (.cells #[.int .u8 (kk : Int), .string nx, .string tx, .int .i64 nu, .int .i64 mn] 63 (0, 0)) := (hb.block _ (heap_lt HC.out)).trans HC.out
  have hq : w2.heap[W.heap.size + 1]? = some (.cells #[.func (.func ft) #[] #[], .func (.func fn) #[] #[], .bool nest] 183 (0, 0)) := (hb.block _ (heap_lt HQ.out)).trans HQ.out
  clear hb
  have w2c0 : w2.cell? ⟨W.heap.size, 0, none⟩ = some (.int .u8 (kk : Int)) := by rw [Lib.cell_of_heap hc]; rfl
  have w2c1 : w2.cell? ⟨W.heap.size, 1, none⟩ = some (.string nx) := by rw [Lib.cell_of_heap hc]; rfl
  have w2c2 : w2.cell? ⟨W.heap.size, 2, none⟩ = some (.string tx) := by rw [Lib.cell_of_heap hc]; rfl
  have w2c3 : w2.cell? ⟨W.heap.size, 3, none⟩ = some (.int .i64 nu) := by rw [Lib.cell_of_heap hc]; rfl
  have w2c4 : w2.cell? ⟨W.heap.size, 4, none⟩ = some (.int .i64 mn) := by rw [Lib.cell_of_heap hc]; rfl
  have w2q0 : w2.cell? ⟨W.heap.size + 1, 0, none⟩ = some (.func (.func ft) #[] #[]) := by rw [Lib.cell_of_heap hq]; rfl
  have w2q1 : w2.cell? ⟨W.heap.size + 1, 1, none⟩ = some (.func (.func fn) #[] #[]) := by rw [Lib.cell_of_heap hq]; rfl
  have w2q2 : w2.cell? ⟨W.heap.size + 1, 2, none⟩ = some (.bool nest) := by rw [Lib.cell_of_heap hq]; rfl
  have HC2 := Lib.hid hc
  have HQ2 := Lib.hid hq
  have HB2 := Lib.hid hb2
  clear hc hq hb2 HC HQ HB1
  go_wp2_with fail
  go_ret
  exact ⟨rfl, HB2.out⟩
set_option maxRecDepth 100000 in
set_option maxHeartbeats 1000000 in
theorem bw_leaf (w0 : World) (V : List Cel) (b off cap bv ba bw be g : Nat) (es : Array Value) (W : World) (k d : Nat) (hB : BH w0 V b off cap bv ba bw be g es W) (kk : Nat) (nx tx : ByteArray) (nu mn : Int)
    (hk : k < V.length) (hl : V.length ≤ 100000) (hd : d ≤ 16)
    (c0 : W.cell? ⟨b, off + k * 5, none⟩ = some (.int .u8 (kk : Int))) (c1 : W.cell? ⟨b, off + k * 5 + 1, none⟩ = some (.string nx)) (c2 : W.cell? ⟨b, off + k * 5 + 2, none⟩ = some (.string tx)) (c3 : W.cell? ⟨b, off + k * 5 + 3, none⟩ = some (.int .i64 nu)) (c4 : W.cell? ⟨b, off + k * 5 + 4, none⟩ = some (.int .i64 mn))
    (hk7 : kk ≤ 7) (HT : Hid (∀ w : World, Below W.heap.size W w → Calls Tryz.prog (tfun kk) #[.string tx] w fun e w' => e = .returned (.bool true) ∧ Below w.heap.size w w'))
    (HN : Hid (∀ w : World, Calls Tryz.prog (nfun kk) #[.int .i64 nu] w fun e w' => e = .returned (.bool true) ∧ Below w.heap.size w w'))
    (hm0 : 0 ≤ mn) (hcn : cnest kk = false) (hm : 0 < mn) :
    Calls Tryz.prog 113 #[.int .i64 (k : Int), .int .i64 (d : Int), .pointer (some ⟨bv, 0, none⟩), .pointer (some ⟨ba, 0, none⟩), .pointer (some ⟨bw, 0, none⟩), .pointer (some ⟨be, 0, none⟩)] W fun e w' => e = .returned (.int .i64 (-1)) ∧ Below W.heap.size W w' := by
  have v0 : W.cell? ⟨bv, 0, none⟩ = some (.slice (some ⟨b, off, none⟩) V.length cap) := by rw [Lib.cell_of_heap hB.hv]; rfl
  have lba := heap_lt hB.ha
  have lbv := heap_lt hB.hv
  obtain ⟨a0, a1, a2⟩ := kindsA_get kk hk7
  have k0 : W.cell? ⟨ba, kk * 3, none⟩ = some (.func (.func (tfun kk)) #[] #[]) := by rw [Lib.cell_of_heap hB.ha]; exact a0
  have k1 : W.cell? ⟨ba, kk * 3 + 1, none⟩ = some (.func (.func (nfun kk)) #[] #[]) := by rw [Lib.cell_of_heap hB.ha]; exact a1
  have k2 : W.cell? ⟨ba, kk * 3 + 2, none⟩ = some (.bool (cnest kk)) := by rw [Lib.cell_of_heap hB.ha]; exact a2
  have ht := tfun_ent kk
  have hn := nfun_ent kk
  clear a0 a1 a2
  generalize tfun kk = ft at *
  generalize nfun kk = fn at *
  rw [hcn] at k2
  clear hcn
  have HB := Lib.hid hB
  clear hB
  go_enter Tryz.func113, Tryz.ntmps113
  go_wp2_with fail
  refine (HT.out _ (((Below.refl _ _).alloc (Nat.le_refl _) _).alloc (by simp) _)).mono ?_; rintro e w1 ⟨rfl, hb⟩
  have hb1 : Below W.heap.size W w1 := (((Below.refl _ _).alloc (Nat.le_refl _) _).alloc (by simp) _).trans (hb.mono (by simp; omega))
  have hc : w1.heap[W.heap.size]? = some (.cells #[.int .u8 (kk : Int), .string nx, .string tx, .int .i64 nu, .int .i64 mn] 63 (0, 0)) := (hb.block _ (by simp; omega)).trans (heap_old (heap_new _ _ _ rfl))
  have hq : w1.heap[W.heap.size + 1]? = some (.cells #[.func (.func ft) #[] #[], .func (.func fn) #[] #[], .bool false] 183 (0, 0)) := (hb.block _ (by simp)).trans (heap_new _ _ _ (by simp))
  clear hb
  have w1c0 : w1.cell? ⟨W.heap.size, 0, none⟩ = some (.int .u8 (kk : Int)) := by rw [Lib.cell_of_heap hc]; rfl
  have w1c1 : w1.cell? ⟨W.heap.size, 1, none⟩ = some (.string nx) := by rw [Lib.cell_of_heap hc]; rfl
  have w1c2 : w1.cell? ⟨W.heap.size, 2, none⟩ = some (.string tx) := by rw [Lib.cell_of_heap hc]; rfl
  have w1c3 : w1.cell? ⟨W.heap.size, 3, none⟩ = some (.int .i64 nu) := by rw [Lib.cell_of_heap hc]; rfl
  have w1c4 : w1.cell? ⟨W.heap.size, 4, none⟩ = some (.int .i64 mn) := by rw [Lib.cell_of_heap hc]; rfl
  have w1q0 : w1.cell? ⟨W.heap.size + 1, 0, none⟩ = some (.func (.func ft) #[] #[]) := by rw [Lib.cell_of_heap hq]; rfl
  have w1q1 : w1.cell? ⟨W.heap.size + 1, 1, none⟩ = some (.func (.func fn) #[] #[]) := by rw [Lib.cell_of_heap hq]; rfl
  have w1q2 : w1.cell? ⟨W.heap.size + 1, 2, none⟩ = some (.bool false) := by rw [Lib.cell_of_heap hq]; rfl
  have HC := Lib.hid hc
  have HQ := Lib.hid hq
  have HB1 := Lib.hid hb1
  clear hc hq hb1
  go_wp2_with fail
  refine (HN.out _).mono ?_; rintro e w2 ⟨rfl, hb⟩
  clear w1c0 w1c1 w1c2 w1c3 w1c4 w1q0 w1q1 w1q2
  have hb2 : Below W.heap.size W w2 := HB1.out.trans (hb.mono HB1.out.size)
  have hc : w2.heap[W.heap.size]? = some (.cells #[.int .u8 (kk : Int), .string nx, .string tx, .int .i64 nu, .int .i64 mn] 63 (0, 0)) := (hb.block _ (heap_lt HC.out)).trans HC.out
  have hq : w2.heap[W.heap.size + 1]? = some (.cells #[.func (.func ft) #[] #[], .func (.func fn) #[] #[], .bool false] 183 (0, 0)) := (hb.block _ (heap_lt HQ.out)).trans HQ.out
  clear hb
  have w2c0 : w2.cell? ⟨W.heap.size, 0, none⟩ = some (.int .u8 (kk : Int)) := by rw [Lib.cell_of_heap hc]; rfl
  have w2c1 : w2.cell? ⟨W.heap.size, 1, none⟩ = some (.string nx) := by rw [Lib.cell_of_heap hc]; rfl
  have w2c2 : w2.cell? ⟨W.heap.size, 2, none⟩ = some (.string tx) := by rw [Lib.cell_of_heap hc]; rfl
  have w2c3 : w2.cell? ⟨W.heap.size, 3, none⟩ = some (.int .i64 nu) := by rw [Lib.cell_of_heap hc]; rfl
  have w2c4 : w2.cell? ⟨W.heap.size, 4, none⟩ = some (.int .i64 mn) := by rw [Lib.cell_of_heap hc]; rfl
  have w2q0 : w2.cell? ⟨W.heap.size + 1, 0, none⟩ = some (.func (.func ft) #[] #[]) := by rw [Lib.cell_of_heap hq]; rfl
  have w2q1 : w2.cell? ⟨W.heap.size + 1, 1, none⟩ = some (.func (.func fn) #[] #[]) := by rw [Lib.cell_of_heap hq]; rfl
  have w2q2 : w2.cell? ⟨W.heap.size + 1, 2, none⟩ = some (.bool false) := by rw [Lib.cell_of_heap hq]; rfl
  have HC2 := Lib.hid hc
  have HQ2 := Lib.hid hq
  have HB2 := Lib.hid hb2
  clear hc hq hb2 HC HQ HB1
  go_wp2_with fail
  go_ret
  exact ⟨rfl, HB2.out⟩
set_option maxRecDepth 100000 in
set_option maxHeartbeats 1000000 in
theorem bw_deep (w0 : World) (V : List Cel) (b off cap bv ba bw be g : Nat) (es : Array Value) (W : World) (k d : Nat) (hB : BH w0 V b off cap bv ba bw be g es W) (kk : Nat) (nx tx : ByteArray) (nu mn : Int)
    (hk : k < V.length) (hl : V.length ≤ 100000) (hd : d ≤ 16)
    (c0 : W.cell? ⟨b, off + k * 5, none⟩ = some (.int .u8 (kk : Int))) (c1 : W.cell? ⟨b, off + k * 5 + 1, none⟩ = some (.string nx)) (c2 : W.cell? ⟨b, off + k * 5 + 2, none⟩ = some (.string tx)) (c3 : W.cell? ⟨b, off + k * 5 + 3, none⟩ = some (.int .i64 nu)) (c4 : W.cell? ⟨b, off + k * 5 + 4, none⟩ = some (.int .i64 mn))
    (hk7 : kk ≤ 7) (HT : Hid (∀ w : World, Below W.heap.size W w → Calls Tryz.prog (tfun kk) #[.string tx] w fun e w' => e = .returned (.bool true) ∧ Below w.heap.size w w'))
    (HN : Hid (∀ w : World, Calls Tryz.prog (nfun kk) #[.int .i64 nu] w fun e w' => e = .returned (.bool true) ∧ Below w.heap.size w w'))
    (hm0 : 0 ≤ mn) (hcn : cnest kk = true) (hd0 : d = 0) :
    Calls Tryz.prog 113 #[.int .i64 (k : Int), .int .i64 (d : Int), .pointer (some ⟨bv, 0, none⟩), .pointer (some ⟨ba, 0, none⟩), .pointer (some ⟨bw, 0, none⟩), .pointer (some ⟨be, 0, none⟩)] W fun e w' => e = .returned (.int .i64 (-1)) ∧ Below W.heap.size W w' := by
  have v0 : W.cell? ⟨bv, 0, none⟩ = some (.slice (some ⟨b, off, none⟩) V.length cap) := by rw [Lib.cell_of_heap hB.hv]; rfl
  have lba := heap_lt hB.ha
  have lbv := heap_lt hB.hv
  obtain ⟨a0, a1, a2⟩ := kindsA_get kk hk7
  have k0 : W.cell? ⟨ba, kk * 3, none⟩ = some (.func (.func (tfun kk)) #[] #[]) := by rw [Lib.cell_of_heap hB.ha]; exact a0
  have k1 : W.cell? ⟨ba, kk * 3 + 1, none⟩ = some (.func (.func (nfun kk)) #[] #[]) := by rw [Lib.cell_of_heap hB.ha]; exact a1
  have k2 : W.cell? ⟨ba, kk * 3 + 2, none⟩ = some (.bool (cnest kk)) := by rw [Lib.cell_of_heap hB.ha]; exact a2
  have ht := tfun_ent kk
  have hn := nfun_ent kk
  clear a0 a1 a2
  generalize tfun kk = ft at *
  generalize nfun kk = fn at *
  rw [hcn] at k2
  clear hcn
  have HB := Lib.hid hB
  clear hB
  go_enter Tryz.func113, Tryz.ntmps113
  go_wp2_with fail
  refine (HT.out _ (((Below.refl _ _).alloc (Nat.le_refl _) _).alloc (by simp) _)).mono ?_; rintro e w1 ⟨rfl, hb⟩
  have hb1 : Below W.heap.size W w1 := (((Below.refl _ _).alloc (Nat.le_refl _) _).alloc (by simp) _).trans (hb.mono (by simp; omega))
  have hc : w1.heap[W.heap.size]? = some (.cells #[.int .u8 (kk : Int), .string nx, .string tx, .int .i64 nu, .int .i64 mn] 63 (0, 0)) := (hb.block _ (by simp; omega)).trans (heap_old (heap_new _ _ _ rfl))
  have hq : w1.heap[W.heap.size + 1]? = some (.cells #[.func (.func ft) #[] #[], .func (.func fn) #[] #[], .bool true] 183 (0, 0)) := (hb.block _ (by simp)).trans (heap_new _ _ _ (by simp))
  clear hb
  have w1c0 : w1.cell? ⟨W.heap.size, 0, none⟩ = some (.int .u8 (kk : Int)) := by rw [Lib.cell_of_heap hc]; rfl
  have w1c1 : w1.cell? ⟨W.heap.size, 1, none⟩ = some (.string nx) := by rw [Lib.cell_of_heap hc]; rfl
  have w1c2 : w1.cell? ⟨W.heap.size, 2, none⟩ = some (.string tx) := by rw [Lib.cell_of_heap hc]; rfl
  have w1c3 : w1.cell? ⟨W.heap.size, 3, none⟩ = some (.int .i64 nu) := by rw [Lib.cell_of_heap hc]; rfl
  have w1c4 : w1.cell? ⟨W.heap.size, 4, none⟩ = some (.int .i64 mn) := by rw [Lib.cell_of_heap hc]; rfl
  have w1q0 : w1.cell? ⟨W.heap.size + 1, 0, none⟩ = some (.func (.func ft) #[] #[]) := by rw [Lib.cell_of_heap hq]; rfl
  have w1q1 : w1.cell? ⟨W.heap.size + 1, 1, none⟩ = some (.func (.func fn) #[] #[]) := by rw [Lib.cell_of_heap hq]; rfl
  have w1q2 : w1.cell? ⟨W.heap.size + 1, 2, none⟩ = some (.bool true) := by rw [Lib.cell_of_heap hq]; rfl
  have HC := Lib.hid hc
  have HQ := Lib.hid hq
  have HB1 := Lib.hid hb1
  clear hc hq hb1
  go_wp2_with fail
  refine (HN.out _).mono ?_; rintro e w2 ⟨rfl, hb⟩
  clear w1c0 w1c1 w1c2 w1c3 w1c4 w1q0 w1q1 w1q2
  have hb2 : Below W.heap.size W w2 := HB1.out.trans (hb.mono HB1.out.size)
  have hc : w2.heap[W.heap.size]? = some (.cells #[.int .u8 (kk : Int), .string nx, .string tx, .int .i64 nu, .int .i64 mn] 63 (0, 0)) := (hb.block _ (heap_lt HC.out)).trans HC.out
  have hq : w2.heap[W.heap.size + 1]? = some (.cells #[.func (.func ft) #[] #[], .func (.func fn) #[] #[], .bool true] 183 (0, 0)) := (hb.block _ (heap_lt HQ.out)).trans HQ.out
  clear hb
  have w2c0 : w2.cell? ⟨W.heap.size, 0, none⟩ = some (.int .u8 (kk : Int)) := by rw [Lib.cell_of_heap hc]; rfl
  have w2c1 : w2.cell? ⟨W.heap.size, 1, none⟩ = some (.string nx) := by rw [Lib.cell_of_heap hc]; rfl
  have w2c2 : w2.cell? ⟨W.heap.size, 2, none⟩ = some (.string tx) := by rw [Lib.cell_of_heap hc]; rfl
  have w2c3 : w2.cell? ⟨W.heap.size, 3, none⟩ = some (.int .i64 nu) := by rw [Lib.cell_of_heap hc]; rfl
  have w2c4 : w2.cell? ⟨W.heap.size, 4, none⟩ = some (.int .i64 mn) := by rw [Lib.cell_of_heap hc]; rfl
  have w2q0 : w2.cell? ⟨W.heap.size + 1, 0, none⟩ = some (.func (.func ft) #[] #[]) := by rw [Lib.cell_of_heap hq]; rfl
  have w2q1 : w2.cell? ⟨W.heap.size + 1, 1, none⟩ = some (.func (.func fn) #[] #[]) := by rw [Lib.cell_of_heap hq]; rfl
  have w2q2 : w2.cell? ⟨W.heap.size + 1, 2, none⟩ = some (.bool true) := by rw [Lib.cell_of_heap hq]; rfl
  have HC2 := Lib.hid hc
  have HQ2 := Lib.hid hq
  have HB2 := Lib.hid hb2
  clear hc hq hb2 HC HQ HB1
  go_wp2_with fail
  go_ret
  exact ⟨rfl, HB2.out⟩
end Go.Proofs.YtgaknbnhmoddcaaGreatDoor
namespace Go.Proofs.YtgaknbnhmoddcaaGreatDoor
open Go.RowKit
theorem heap_set {w : World} {b i : Nat} {cs : Array Value} {t : TypeId} (v : Value) (h : w.heap[b]? = some (.cells cs t (0, 0))) : (w.setCell ⟨b, i, none⟩ v).heap[b]? = some (.cells (cs.setIfInBounds i v) t (0, 0)) := by
  rw [setCell_eq_setRow w b i cs t (0, 0) v h]; exact setRow_heap w b cs _ t (0, 0) h
theorem grown_set {W w : World} {g i : Nat} (h : W.grownBy w (some g)) (v : Value) : W.grownBy (w.setCell ⟨g, i, none⟩ v) (some g) :=
  ⟨h.os, h.tape, h.output, by simpa using h.size, fun k hk hne => by
    rw [Below.heap_setCell _ _ _ _ (fun e => hne (by rw [e]))]
    exact h.block k hk hne⟩
theorem bend_yes {V : List Cel} {k d n g : Nat} {es ez : Array Value} {W wz : World} (hn : valN d (V.drop k) = some n) (hd : d ≤ 16) (hk : k < V.length) (hs : es.size = V.length) (hgz : wz.heap[g]? = some (.cells ez 3 (0, 0))) (hsz : ez.size = es.size) (hw : W.grownBy wz (some g))
    (h1 : ∀ i, i < k + 1 ∨ k + n ≤ i → ez[i]? = es[i]?) (h2 : ∀ i, k + 1 ≤ i → i < k + n → ez[i]? = some (.int .i64 (endI V i 16))) :
    BEnd V k d g es (endI V k d) (.returned (.int .i64 ((k + n : Nat) : Int))) W (wz.setCell ⟨g, k, none⟩ (.int .i64 ((k + n : Nat) : Int))) := by
  have he : endI V k d = ((k + n : Nat) : Int) := by unfold endI; rw [hn]
  have he16 : endI V k 16 = ((k + n : Nat) : Int) := by unfold endI; rw [valN_mono hd _ _ hn]
  rw [he]
  refine ⟨rfl, grown_set hw _, _, heap_set _ hgz, by simp [hsz], ?_⟩
  intro n' hn'
  obtain rfl : n = n' := by rw [hn] at hn'; exact Option.some.inj hn'
  have hpos := (valN_le _ _ _ hn).1
  refine ⟨?_, ?_⟩
  · intro i hi
    rw [Array.getElem?_setIfInBounds]
    rw [if_neg (by omega)]
    exact h1 i (by omega)
  · intro i hi1 hi2
    rw [Array.getElem?_setIfInBounds]
    by_cases hik : k = i
    · subst hik
      rw [if_pos rfl, if_pos (by omega), he16]
    · rw [if_neg hik]
      exact h2 i (by omega) hi2
set_option maxRecDepth 100000 in
set_option maxHeartbeats 1000000 in
theorem bw_zero_leaf (w0 : World) (V : List Cel) (b off cap bv ba bw be g : Nat) (es : Array Value) (W : World) (k d : Nat) (hB : BH w0 V b off cap bv ba bw be g es W) (kk : Nat) (nx tx : ByteArray) (nu : Int)
    (hk : k < V.length) (hl : V.length ≤ 100000) (hd : d ≤ 16)
    (c0 : W.cell? ⟨b, off + k * 5, none⟩ = some (.int .u8 (kk : Int))) (c1 : W.cell? ⟨b, off + k * 5 + 1, none⟩ = some (.string nx)) (c2 : W.cell? ⟨b, off + k * 5 + 2, none⟩ = some (.string tx)) (c3 : W.cell? ⟨b, off + k * 5 + 3, none⟩ = some (.int .i64 nu)) (c4 : W.cell? ⟨b, off + k * 5 + 4, none⟩ = some (.int .i64 0))
    (hk7 : kk ≤ 7) (HT : Hid (∀ w : World, Below W.heap.size W w → Calls Tryz.prog (tfun kk) #[.string tx] w fun e w' => e = .returned (.bool true) ∧ Below w.heap.size w w'))
    (HN : Hid (∀ w : World, Calls Tryz.prog (nfun kk) #[.int .i64 nu] w fun e w' => e = .returned (.bool true) ∧ Below w.heap.size w w'))
    (hcn : cnest kk = false) (hval : valN d (V.drop k) = some 1) :
    Calls Tryz.prog 113 #[.int .i64 (k : Int), .int .i64 (d : Int), .pointer (some ⟨bv, 0, none⟩), .pointer (some ⟨ba, 0, none⟩), .pointer (some ⟨bw, 0, none⟩), .pointer (some ⟨be, 0, none⟩)] W fun e w' => BEnd V k d g es (endI V k d) e W w' := by
  have v0 : W.cell? ⟨bv, 0, none⟩ = some (.slice (some ⟨b, off, none⟩) V.length cap) := by rw [Lib.cell_of_heap hB.hv]; rfl
  have HV := Lib.hid hval
  clear hval
  have lba := heap_lt hB.ha
  have lbv := heap_lt hB.hv
  obtain ⟨a0, a1, a2⟩ := kindsA_get kk hk7
  have k0 : W.cell? ⟨ba, kk * 3, none⟩ = some (.func (.func (tfun kk)) #[] #[]) := by rw [Lib.cell_of_heap hB.ha]; exact a0
  have k1 : W.cell? ⟨ba, kk * 3 + 1, none⟩ = some (.func (.func (nfun kk)) #[] #[]) := by rw [Lib.cell_of_heap hB.ha]; exact a1
  have k2 : W.cell? ⟨ba, kk * 3 + 2, none⟩ = some (.bool (cnest kk)) := by rw [Lib.cell_of_heap hB.ha]; exact a2
  have ht := tfun_ent kk
  have hn := nfun_ent kk
  clear a0 a1 a2
  generalize tfun kk = ft at *
  generalize nfun kk = fn at *
  rw [hcn] at k2
  clear hcn
  have HB := Lib.hid hB
  clear hB
  have HES : Hid (es.size = V.length) := Lib.hid HB.out.size
  go_enter Tryz.func113, Tryz.ntmps113
  go_wp2_with fail
  refine (HT.out _ (((Below.refl _ _).alloc (Nat.le_refl _) _).alloc (by simp) _)).mono ?_; rintro e w1 ⟨rfl, hb⟩
  have hb1 : Below W.heap.size W w1 := (((Below.refl _ _).alloc (Nat.le_refl _) _).alloc (by simp) _).trans (hb.mono (by simp; omega))
  have hc : w1.heap[W.heap.size]? = some (.cells #[.int .u8 (kk : Int), .string nx, .string tx, .int .i64 nu, .int .i64 0] 63 (0, 0)) := (hb.block _ (by simp; omega)).trans (heap_old (heap_new _ _ _ rfl))
  have hq : w1.heap[W.heap.size + 1]? = some (.cells #[.func (.func ft) #[] #[], .func (.func fn) #[] #[], .bool false] 183 (0, 0)) := (hb.block _ (by simp)).trans (heap_new _ _ _ (by simp))
  clear hb
  have w1c0 : w1.cell? ⟨W.heap.size, 0, none⟩ = some (.int .u8 (kk : Int)) := by rw [Lib.cell_of_heap hc]; rfl
  have w1c1 : w1.cell? ⟨W.heap.size, 1, none⟩ = some (.string nx) := by rw [Lib.cell_of_heap hc]; rfl
  have w1c2 : w1.cell? ⟨W.heap.size, 2, none⟩ = some (.string tx) := by rw [Lib.cell_of_heap hc]; rfl
  have w1c3 : w1.cell? ⟨W.heap.size, 3, none⟩ = some (.int .i64 nu) := by rw [Lib.cell_of_heap hc]; rfl
  have w1c4 : w1.cell? ⟨W.heap.size, 4, none⟩ = some (.int .i64 0) := by rw [Lib.cell_of_heap hc]; rfl
  have w1q0 : w1.cell? ⟨W.heap.size + 1, 0, none⟩ = some (.func (.func ft) #[] #[]) := by rw [Lib.cell_of_heap hq]; rfl
  have w1q1 : w1.cell? ⟨W.heap.size + 1, 1, none⟩ = some (.func (.func fn) #[] #[]) := by rw [Lib.cell_of_heap hq]; rfl
  have w1q2 : w1.cell? ⟨W.heap.size + 1, 2, none⟩ = some (.bool false) := by rw [Lib.cell_of_heap hq]; rfl
  have HC := Lib.hid hc
  have HQ := Lib.hid hq
  have HB1 := Lib.hid hb1
  clear hc hq hb1
  go_wp2_with fail
  refine (HN.out _).mono ?_; rintro e w2 ⟨rfl, hb⟩
  clear w1c0 w1c1 w1c2 w1c3 w1c4 w1q0 w1q1 w1q2
  have hb2 : Below W.heap.size W w2 := HB1.out.trans (hb.mono HB1.out.size)
  have hc : w2.heap[W.heap.size]? = some (.cells #[.int .u8 (kk : Int), .string nx, .string tx, .int .i64 nu, .int .i64 0] 63 (0, 0)) := (hb.block _ (heap_lt HC.out)).trans HC.out
  have hq : w2.heap[W.heap.size + 1]? = some (.cells #[.func (.func ft) #[] #[], .func (.func fn) #[] #[], .bool false] 183 (0, 0)) := (hb.block _ (heap_lt HQ.out)).trans HQ.out
  clear hb
  have w2c0 : w2.cell? ⟨W.heap.size, 0, none⟩ = some (.int .u8 (kk : Int)) := by rw [Lib.cell_of_heap hc]; rfl
  have w2c1 : w2.cell? ⟨W.heap.size, 1, none⟩ = some (.string nx) := by rw [Lib.cell_of_heap hc]; rfl
  have w2c2 : w2.cell? ⟨W.heap.size, 2, none⟩ = some (.string tx) := by rw [Lib.cell_of_heap hc]; rfl
  have w2c3 : w2.cell? ⟨W.heap.size, 3, none⟩ = some (.int .i64 nu) := by rw [Lib.cell_of_heap hc]; rfl
  have w2c4 : w2.cell? ⟨W.heap.size, 4, none⟩ = some (.int .i64 0) := by rw [Lib.cell_of_heap hc]; rfl
  have w2q0 : w2.cell? ⟨W.heap.size + 1, 0, none⟩ = some (.func (.func ft) #[] #[]) := by rw [Lib.cell_of_heap hq]; rfl
  have w2q1 : w2.cell? ⟨W.heap.size + 1, 1, none⟩ = some (.func (.func fn) #[] #[]) := by rw [Lib.cell_of_heap hq]; rfl
  have w2q2 : w2.cell? ⟨W.heap.size + 1, 2, none⟩ = some (.bool false) := by rw [Lib.cell_of_heap hq]; rfl
  have HC2 := Lib.hid hc
  have HQ2 := Lib.hid hq
  have HB2 := Lib.hid hb2
  clear hc hq hb2 HC HQ HB1
  have hbh := HB.out.below HB2.out
  have e0 : w2.cell? ⟨be, 0, none⟩ = some (.slice (some ⟨g, 0, none⟩) V.length V.length) := by rw [Lib.cell_of_heap hbh.he]; rfl
  have hks : k < es.size := by rw [hbh.size]; exact hk
  have e1 : w2.cell? ⟨g, k, none⟩ = some (es[k]) := by rw [Lib.cell_of_heap hbh.hg]; exact Array.getElem?_eq_getElem hks
  have e2 : w2.frozen? ⟨g, k, none⟩ = false := Lib.frozen_of_heap hbh.hg k
  generalize es[k] = ek at *
  have HBH := Lib.hid hbh
  clear hbh
  go_wp2_with fail
  refine wp_loop_rounds 1 ?_; rw [rounds_succ]
  go_wp2_with fail
  go_ret
  exact bend_yes (n := 1) HV.out hd hk HES.out HBH.out.hg rfl (grown_below HB2.out _) (fun i _ => rfl) (fun i h1 h2 => by omega)
set_option maxRecDepth 100000 in
set_option maxHeartbeats 1000000 in
theorem bw_zero_nest (w0 : World) (V : List Cel) (b off cap bv ba bw be g : Nat) (es : Array Value) (W : World) (k d : Nat) (hB : BH w0 V b off cap bv ba bw be g es W) (kk : Nat) (nx tx : ByteArray) (nu : Int)
    (hk : k < V.length) (hl : V.length ≤ 100000) (hd : d ≤ 16)
    (c0 : W.cell? ⟨b, off + k * 5, none⟩ = some (.int .u8 (kk : Int))) (c1 : W.cell? ⟨b, off + k * 5 + 1, none⟩ = some (.string nx)) (c2 : W.cell? ⟨b, off + k * 5 + 2, none⟩ = some (.string tx)) (c3 : W.cell? ⟨b, off + k * 5 + 3, none⟩ = some (.int .i64 nu)) (c4 : W.cell? ⟨b, off + k * 5 + 4, none⟩ = some (.int .i64 0))
    (hk7 : kk ≤ 7) (HT : Hid (∀ w : World, Below W.heap.size W w → Calls Tryz.prog (tfun kk) #[.string tx] w fun e w' => e = .returned (.bool true) ∧ Below w.heap.size w w'))
    (HN : Hid (∀ w : World, Calls Tryz.prog (nfun kk) #[.int .i64 nu] w fun e w' => e = .returned (.bool true) ∧ Below w.heap.size w w'))
    (hcn : cnest kk = true) (hd1 : 0 < d) (hval : valN d (V.drop k) = some 1) :
    Calls Tryz.prog 113 #[.int .i64 (k : Int), .int .i64 (d : Int), .pointer (some ⟨bv, 0, none⟩), .pointer (some ⟨ba, 0, none⟩), .pointer (some ⟨bw, 0, none⟩), .pointer (some ⟨be, 0, none⟩)] W fun e w' => BEnd V k d g es (endI V k d) e W w' := by
  have v0 : W.cell? ⟨bv, 0, none⟩ = some (.slice (some ⟨b, off, none⟩) V.length cap) := by rw [Lib.cell_of_heap hB.hv]; rfl
  have HV := Lib.hid hval
  clear hval
  have lba := heap_lt hB.ha
  have lbv := heap_lt hB.hv
  obtain ⟨a0, a1, a2⟩ := kindsA_get kk hk7
  have k0 : W.cell? ⟨ba, kk * 3, none⟩ = some (.func (.func (tfun kk)) #[] #[]) := by rw [Lib.cell_of_heap hB.ha]; exact a0
  have k1 : W.cell? ⟨ba, kk * 3 + 1, none⟩ = some (.func (.func (nfun kk)) #[] #[]) := by rw [Lib.cell_of_heap hB.ha]; exact a1
  have k2 : W.cell? ⟨ba, kk * 3 + 2, none⟩ = some (.bool (cnest kk)) := by rw [Lib.cell_of_heap hB.ha]; exact a2
  have ht := tfun_ent kk
  have hn := nfun_ent kk
  clear a0 a1 a2
  generalize tfun kk = ft at *
  generalize nfun kk = fn at *
  rw [hcn] at k2
  clear hcn
  have HB := Lib.hid hB
  clear hB
  have HES : Hid (es.size = V.length) := Lib.hid HB.out.size
  go_enter Tryz.func113, Tryz.ntmps113
  go_wp2_with fail
  refine (HT.out _ (((Below.refl _ _).alloc (Nat.le_refl _) _).alloc (by simp) _)).mono ?_; rintro e w1 ⟨rfl, hb⟩
  have hb1 : Below W.heap.size W w1 := (((Below.refl _ _).alloc (Nat.le_refl _) _).alloc (by simp) _).trans (hb.mono (by simp; omega))
  have hc : w1.heap[W.heap.size]? = some (.cells #[.int .u8 (kk : Int), .string nx, .string tx, .int .i64 nu, .int .i64 0] 63 (0, 0)) := (hb.block _ (by simp; omega)).trans (heap_old (heap_new _ _ _ rfl))
  have hq : w1.heap[W.heap.size + 1]? = some (.cells #[.func (.func ft) #[] #[], .func (.func fn) #[] #[], .bool true] 183 (0, 0)) := (hb.block _ (by simp)).trans (heap_new _ _ _ (by simp))
  clear hb
  have w1c0 : w1.cell? ⟨W.heap.size, 0, none⟩ = some (.int .u8 (kk : Int)) := by rw [Lib.cell_of_heap hc]; rfl
  have w1c1 : w1.cell? ⟨W.heap.size, 1, none⟩ = some (.string nx) := by rw [Lib.cell_of_heap hc]; rfl
  have w1c2 : w1.cell? ⟨W.heap.size, 2, none⟩ = some (.string tx) := by rw [Lib.cell_of_heap hc]; rfl
  have w1c3 : w1.cell? ⟨W.heap.size, 3, none⟩ = some (.int .i64 nu) := by rw [Lib.cell_of_heap hc]; rfl
  have w1c4 : w1.cell? ⟨W.heap.size, 4, none⟩ = some (.int .i64 0) := by rw [Lib.cell_of_heap hc]; rfl
  have w1q0 : w1.cell? ⟨W.heap.size + 1, 0, none⟩ = some (.func (.func ft) #[] #[]) := by rw [Lib.cell_of_heap hq]; rfl
  have w1q1 : w1.cell? ⟨W.heap.size + 1, 1, none⟩ = some (.func (.func fn) #[] #[]) := by rw [Lib.cell_of_heap hq]; rfl
  have w1q2 : w1.cell? ⟨W.heap.size + 1, 2, none⟩ = some (.bool true) := by rw [Lib.cell_of_heap hq]; rfl
  have HC := Lib.hid hc
  have HQ := Lib.hid hq
  have HB1 := Lib.hid hb1
  clear hc hq hb1
  go_wp2_with fail
  refine (HN.out _).mono ?_; rintro e w2 ⟨rfl, hb⟩
  clear w1c0 w1c1 w1c2 w1c3 w1c4 w1q0 w1q1 w1q2
  have hb2 : Below W.heap.size W w2 := HB1.out.trans (hb.mono HB1.out.size)
  have hc : w2.heap[W.heap.size]? = some (.cells #[.int .u8 (kk : Int), .string nx, .string tx, .int .i64 nu, .int .i64 0] 63 (0, 0)) := (hb.block _ (heap_lt HC.out)).trans HC.out
  have hq : w2.heap[W.heap.size + 1]? = some (.cells #[.func (.func ft) #[] #[], .func (.func fn) #[] #[], .bool true] 183 (0, 0)) := (hb.block _ (heap_lt HQ.out)).trans HQ.out
  clear hb
  have w2c0 : w2.cell? ⟨W.heap.size, 0, none⟩ = some (.int .u8 (kk : Int)) := by rw [Lib.cell_of_heap hc]; rfl
  have w2c1 : w2.cell? ⟨W.heap.size, 1, none⟩ = some (.string nx) := by rw [Lib.cell_of_heap hc]; rfl
  have w2c2 : w2.cell? ⟨W.heap.size, 2, none⟩ = some (.string tx) := by rw [Lib.cell_of_heap hc]; rfl
  have w2c3 : w2.cell? ⟨W.heap.size, 3, none⟩ = some (.int .i64 nu) := by rw [Lib.cell_of_heap hc]; rfl
  have w2c4 : w2.cell? ⟨W.heap.size, 4, none⟩ = some (.int .i64 0) := by rw [Lib.cell_of_heap hc]; rfl
  have w2q0 : w2.cell? ⟨W.heap.size + 1, 0, none⟩ = some (.func (.func ft) #[] #[]) := by rw [Lib.cell_of_heap hq]; rfl
  have w2q1 : w2.cell? ⟨W.heap.size + 1, 1, none⟩ = some (.func (.func fn) #[] #[]) := by rw [Lib.cell_of_heap hq]; rfl
  have w2q2 : w2.cell? ⟨W.heap.size + 1, 2, none⟩ = some (.bool true) := by rw [Lib.cell_of_heap hq]; rfl
  have HC2 := Lib.hid hc
  have HQ2 := Lib.hid hq
  have HB2 := Lib.hid hb2
  clear hc hq hb2 HC HQ HB1
  have hbh := HB.out.below HB2.out
  have e0 : w2.cell? ⟨be, 0, none⟩ = some (.slice (some ⟨g, 0, none⟩) V.length V.length) := by rw [Lib.cell_of_heap hbh.he]; rfl
  have hks : k < es.size := by rw [hbh.size]; exact hk
  have e1 : w2.cell? ⟨g, k, none⟩ = some (es[k]) := by rw [Lib.cell_of_heap hbh.hg]; exact Array.getElem?_eq_getElem hks
  have e2 : w2.frozen? ⟨g, k, none⟩ = false := Lib.frozen_of_heap hbh.hg k
  generalize es[k] = ek at *
  have HBH := Lib.hid hbh
  clear hbh
  go_wp2_with fail
  refine wp_loop_rounds 1 ?_; rw [rounds_succ]
  go_wp2_with fail
  go_ret
  exact bend_yes (n := 1) HV.out hd hk HES.out HBH.out.hg rfl (grown_below HB2.out _) (fun i _ => rfl) (fun i h1 h2 => by omega)
end Go.Proofs.YtgaknbnhmoddcaaGreatDoor
