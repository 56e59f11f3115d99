/- strings.IndexRune in the two bytes "/?" at what is no ASCII: none. -/
import Derived.Test.YtcocjmbhbddgiaaGreatDoorAt
import Derived.Test.YtcocjmbhbddgiaaGreatDoorAs
import Derived.Laws.RangeAny
import Derived.Laws.Cover4
import Derived.Laws.RangeString
import Derived.Deep.QuietTactic
import Derived.BigQuiet
set_option linter.unusedSimpArgs false
set_option linter.unusedVariables false
namespace Go.Proofs.YtcocjmbhbddgiaaGreatDoor
open Go.RowKit
theorem encode_high (r : Int) (h : 128 ≤ r) : 2 ≤ (Utf8.encode r).size ∧ ∀ (k : Nat) (hk : k < (Utf8.encode r).size), 128 ≤ ((Utf8.encode r)[k]).toNat := by
  have hc : ∃ c : Nat, 128 ≤ c ∧ c < 1114112 ∧ Utf8.encode r = (let b (n : Nat) : UInt8 := UInt8.ofNat n
      if c < 0x80 then ⟨#[b c]⟩
      else if c < 0x800 then ⟨#[b (0xC0 + c / 64), b (0x80 + c % 64)]⟩
      else if c < 0x10000 then ⟨#[b (0xE0 + c / 4096), b (0x80 + c / 64 % 64), b (0x80 + c % 64)]⟩
      else ⟨#[b (0xF0 + c / 262144), b (0x80 + c / 4096 % 64), b (0x80 + c / 64 % 64), b (0x80 + c % 64)]⟩) := by
    refine ⟨if Utf8.valid r then r.toNat else Utf8.runeError, ?_, ?_, rfl⟩
    · split
      · omega
      · decide
    · split
      · rename_i hv
        simp only [Utf8.valid, Bool.or_eq_true, Bool.and_eq_true, decide_eq_true_eq] at hv
        omega
      · decide
  obtain ⟨c, h1, h2, e⟩ := hc
  rw [e]
  simp only
  split
  · exfalso; omega
  split
  · refine ⟨by show 2 ≤ Array.size _; simp, ?_⟩
    intro k hk
    match k, hk with
    | 0, _ => show 128 ≤ (UInt8.ofNat (192 + c / 64)).toNat; rw [UInt8.toNat_ofNat']; omega
    | 1, _ => show 128 ≤ (UInt8.ofNat (128 + c % 64)).toNat; rw [UInt8.toNat_ofNat']; omega
  · split
    · refine ⟨by show 2 ≤ Array.size _; simp, ?_⟩
      intro k hk
      match k, hk with
      | 0, _ => show 128 ≤ (UInt8.ofNat (224 + c / 4096)).toNat; rw [UInt8.toNat_ofNat']; omega
      | 1, _ => show 128 ≤ (UInt8.ofNat (128 + c / 64 % 64)).toNat; rw [UInt8.toNat_ofNat']; omega
      | 2, _ => show 128 ≤ (UInt8.ofNat (128 + c % 64)).toNat; rw [UInt8.toNat_ofNat']; omega
    · refine ⟨by show 2 ≤ Array.size _; simp, ?_⟩
      intro k hk
      match k, hk with
      | 0, _ => show 128 ≤ (UInt8.ofNat (240 + c / 262144)).toNat; rw [UInt8.toNat_ofNat']; omega
      | 1, _ => show 128 ≤ (UInt8.ofNat (128 + c / 4096 % 64)).toNat; rw [UInt8.toNat_ofNat']; omega
      | 2, _ => show 128 ≤ (UInt8.ofNat (128 + c / 64 % 64)).toNat; rw [UInt8.toNat_ofNat']; omega
      | 3, _ => show 128 ≤ (UInt8.ofNat (128 + c % 64)).toNat; rw [UInt8.toNat_ofNat']; omega
set_option maxRecDepth 100000 in
theorem rune_none (r : Int) (h : 128 ≤ r) (h2 : r ≤ 2147483647) (w : World) :
    Calls Tryz.prog 27 #[.string ⟨#[47, 63]⟩, .int .i32 r] w fun e w' => e = .returned (.int .i64 (-1)) ∧ Below w.heap.size w w' := by
  have h0 : 0 ≤ r := by omega
  have h1 : ¬ r < 128 := by omega
  by_cases he : r = 65533
  · subst he
    have n0 := fun (w : World) ty => run_next_ascii (P := Tryz.prog) w ⟨#[47, 63]⟩ 0 ty (by decide) (by decide)
    have n1 := fun (w : World) ty => run_next_ascii (P := Tryz.prog) w ⟨#[47, 63]⟩ 1 ty (by decide) (by decide)
    have n2 := fun (w : World) ty => run_next_end (P := Tryz.prog) w ⟨#[47, 63]⟩ 2 ty (by decide)
    go_enter Tryz.func27, Tryz.ntmps27
    go_wp2_with fail
    refine wp_loop_rounds 3 ?_
    rw [rounds_succ]
    go_wp2_with fail
    rw [rounds_succ]
    go_wp2_with fail
    rw [rounds_succ]
    go_wp2_with fail
    go_ret
    refine ⟨rfl, ?_⟩
    unfold World.iter
    exact (Below.refl _ _).alloc (Nat.le_refl _) _
  · have HV := Lib.hid (fun w => Tryz.utf8_ValidRune r w)
    have HE := Lib.hid (encode_high r h)
    obtain ⟨vb, hvb⟩ : ∃ b, Lib.validRune r = b := ⟨_, rfl⟩
    rw [hvb] at HV
    clear hvb
    cases vb
    · go_enter Tryz.func27, Tryz.ntmps27
      go_wp2_with fail
      refine (HV.out _).mono ?_; rintro e w1 ⟨rfl, rfl⟩
      go_wp2_with fail
      go_ret
      exact ⟨rfl, Below.refl _ _⟩
    · obtain ⟨rs, hrs⟩ : ∃ rs : ByteArray, Utf8.encode r = rs := ⟨_, rfl⟩
      rw [hrs] at HE
      have hsz : 2 ≤ rs.size := HE.out.1
      have hsz4 : rs.size ≤ 1000 := by rw [← hrs]; have := encode_size_le r; omega
      have HX := Lib.hid (fun (s : ByteArray) (c : Int) (w : World) => Tryz.strings_IndexByte s c w)
      by_cases hs2 : rs.size = 2
      · have hl : 128 ≤ (rs[1]'(by omega)).toNat := HE.out.2 1 (by omega)
        go_enter Tryz.func27, Tryz.ntmps27
        go_wp2_with fail
        refine (HV.out _).mono ?_; rintro e w1 ⟨rfl, rfl⟩
        go_wp2_with fail
        have hne : (((⟨#[47, 63]⟩ : ByteArray)[1]'(by decide)).toNat : Int) = 63 := rfl
        have hwr : IntKind.i64.wrap 2 = 2 := by decide
        have hib : ∀ c : UInt8, Lib.indexByte [] c = -1 := fun _ => rfl
        have hl1 : ¬ ((63 : Int) = ((rs[1]'(by omega)).toNat : Int)) := by omega
        go_step3
        go_wp2_with fail
        refine wp_loop_rounds 1 ?_
        rw [rounds_succ]
        go_wp2_with fail
        go_step3
        go_wp2_with fail
        go_quiet (fail)
        go_wp2_with fail
        go_region_held3 (fun W => Below w1.heap.size w1 W) (first | assumption | exact ⟨rfl, rfl, rfl, Nat.le_refl _, fun _ _ => rfl⟩) (first | (go_at_call 52; refine (HX.out _ _ _).mono ?_; rintro e w3 ⟨rfl, rfl⟩) | fail)
        rename_i hS
        go_wp2_with fail
        rw [Exit.noGoto_ret]
        go_wp2_with fail
        rw [Exit.noGoto_ret]
        go_ret
        exact ⟨rfl, hS⟩
      · have hs3 : 3 ≤ rs.size := by omega
        go_enter Tryz.func27, Tryz.ntmps27
        go_wp2_with fail
        refine (HV.out _).mono ?_; rintro e w1 ⟨rfl, rfl⟩
        go_wp2_with fail
        have hlt : decide ((rs.size : Int) - 1 < 2) = false := by simp; omega
        have hlt2 : ¬ ((rs.size : Int) - 1 < 2) := by omega
        go_step3
        go_wp2_with fail
        refine wp_loop_rounds 1 ?_
        rw [rounds_succ]
        go_wp2_with fail
        rw [Exit.noGoto_ret]
        go_ret
        exact ⟨rfl, Below.refl _ _⟩
end Go.Proofs.YtcocjmbhbddgiaaGreatDoor
