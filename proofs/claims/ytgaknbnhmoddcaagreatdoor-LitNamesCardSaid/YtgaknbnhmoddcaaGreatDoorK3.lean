/- Walks and plain laws of this proof, joined from smaller texts (3). -/
import Derived.Carry
import Derived.Tactics
import Derived.Tactics2
import Derived.Defers
import Derived.Recover
import Derived.Laws.Pointers
import Derived.Test.YtgaknbnhmoddcaaGreatDoorShelf
import Derived.Laws.RangeAny
import Derived.Laws.Cover4
import Derived.Laws.RangeString
import Derived.Deep.QuietTactic
import Derived.BigQuiet
import Derived.ScopeJumps
import Derived.Lib.AsciiSet
import Derived.Deep.WholeRow
import Derived.Deep.LoopGhost
import Derived.Laws.ResultCell
import Derived.Shelf.Strings.SlTrimAscii
import Derived.Lib.IndexAny
import Derived.Lib.OthersKept
import Derived.Test.YtgaknbnhmoddcaaGreatDoorK2
set_option linter.unusedSimpArgs false
set_option linter.unusedVariables false
namespace Go.Proofs.YtgaknbnhmoddcaaGreatDoor
open Go.RowKit Go.Lib
set_option maxRecDepth 100000 in
set_option maxHeartbeats 4000000 in
theorem l_value_many_list {p tb off cap : Nat} {T : List Tok} {fx : Bool} {k : Nat} {op : Int} (v : Value) (L : List Cel) (name : ByteArray) (W : World) (h : LS p tb off cap T fx k op v W) (hown : OwnC (p + 1) v L W) (hL : L.length ≤ 2048) (hk : k ≤ 100000) (d : Nat) (hop : op + (d : Int) = 16) (h0 : 0 ≤ op) (hE : ∀ W', Below p W W' → Env W') (hf : L.length ≠ 2048) (mm : mrkP T k [91] = true) (hm : LManSpec d) :
    Calls Tryz.prog 91 #[.pointer (some ⟨p, 0, none⟩), .string name] W (LVE p tb off cap T fx W v op (manP fx T d name.data.toList k L)) := by
  have HV0 : Hid (LV p tb off cap T fx W v v L k op W) := Lib.hid ⟨h, hown, VK.refl _ _ _, fun k hk => Or.inl hk⟩
  have HLK := Lib.hid (fun (W : World) (hW : LS p tb off cap T fx k op v W) => l_look W hW)
  have HIS := Lib.hid (fun (s : ByteArray) (W : World) (hW : LS p tb off cap T fx k op v W) => l_is s W hW)
  have HNO := Lib.hid (fun (e : Int) (W : World) (hW : LS p tb off cap T fx k op v W) => l_no e W hW)
  have hw1 : IntKind.i64.wrap ((k : Int) + 1) = (k : Int) + 1 := IntWalk.i64_in _ (by omega)
  have hvl : ∃ a n c, v = .slice a n c ∧ n = L.length := by
    rcases HV0.out.own.2 with ⟨h1, h2⟩ | ⟨g, cap, cur, h1, _⟩
    · exact ⟨none, 0, 0, h1, h2.symm⟩
    · exact ⟨_, _, _, h1, rfl⟩
  obtain ⟨av, nv, cv, rfl, hnv⟩ := hvl
  have HNV := Lib.hid hnv
  have hnv8 : nv ≤ 2048 := by omega
  clear h hown
  have tf : ((nv : Int) == 2048) = false := by rw [beq_eq_false_iff_ne]; omega
  have hopn : opnP T k = true := by unfold opnP; rw [mm]; simp
  have HEE := Lib.hid hE
  have HMAN : Hid (∀ W', LS p tb off cap T fx k op (.slice av nv cv) W' → OwnC (p + 1) (.slice av nv cv) L W' → (∀ W2, Below p W' W2 → Env W2) → Calls Tryz.prog 110 #[.pointer (some ⟨p, 0, none⟩), .agg #[.int .u8 0, .string name, .string ⟨#[]⟩, .int .i64 0, .int .i64 0]] W' (LVE p tb off cap T fx W' (.slice av nv cv) op (manP fx T d name.data.toList k L))) := Lib.hid fun W' hW ho he => hm p tb off cap T fx k op _ L name W' hop h0 hW ho (by omega) hk hopn he
  obtain ⟨R, hR⟩ : ∃ R, manP fx T d name.data.toList k L = R := ⟨_, rfl⟩
  rw [hR] at HMAN ⊢
  clear hE hm hop h0 hopn hR
  have hkk := (mrk_one mm).1
  have m91 : mrkP T k [91] = true := mm
  have m123 : mrkP T k [123] = false := mrk_ne mm (by decide)
  have m36 : mrkP T k [36] = false := mrk_ne mm (by decide)
  have H91 : Hid (∀ W', LS p tb off cap T fx k op (.slice av nv cv) W' → Calls Tryz.prog 82 #[.pointer (some ⟨p, 0, none⟩), .int .u8 4, .string ⟨#[91]⟩] W' fun x w' => x = .returned (.bool true) ∧ Below W'.heap.size W' w') := Lib.hid fun W' hW => by
    have := HIS.out ⟨#[91]⟩ W' hW
    rw [show (⟨#[91]⟩ : ByteArray).data.toList = [91] from rfl, m91] at this; exact this
  have H123 : Hid (∀ W', LS p tb off cap T fx k op (.slice av nv cv) W' → Calls Tryz.prog 82 #[.pointer (some ⟨p, 0, none⟩), .int .u8 4, .string ⟨#[123]⟩] W' fun x w' => x = .returned (.bool false) ∧ Below W'.heap.size W' w') := Lib.hid fun W' hW => by
    have := HIS.out ⟨#[123]⟩ W' hW
    rw [show (⟨#[123]⟩ : ByteArray).data.toList = [123] from rfl, m123] at this; exact this
  have H36 : Hid (∀ W', LS p tb off cap T fx k op (.slice av nv cv) W' → Calls Tryz.prog 82 #[.pointer (some ⟨p, 0, none⟩), .int .u8 4, .string ⟨#[36]⟩] W' fun x w' => x = .returned (.bool false) ∧ Below W'.heap.size W' w') := Lib.hid fun W' hW => by
    have := HIS.out ⟨#[36]⟩ W' hW
    rw [show (⟨#[36]⟩ : ByteArray).data.toList = [36] from rfl, m36] at this; exact this
  obtain ⟨kd, hkd⟩ : ∃ kd : Int, ((lookP T k).kind.toNat : Int) = kd := ⟨_, rfl⟩
  obtain ⟨tb0, htb0⟩ : ∃ b : ByteArray, (⟨(lookP T k).text.toArray⟩ : ByteArray) = b := ⟨_, rfl⟩
  obtain ⟨ps, hps⟩ : ∃ ps : Int, (lookP T k).pos = ps := ⟨_, rfl⟩
  have HTX : Hid (tb0.data.toList = (lookP T k).text) := Lib.hid (by rw [← htb0])
  have HTB := Lib.hid htb0
  unfold tokW at HLK
  rw [hkd, htb0, hps] at HLK
  have hkd2 : kd = 4 := by rw [← hkd, hkk]; rfl
  subst hkd2
  clear hkd htb0 hps hkk hnv mm m91 m123 m36
  cases fx
  case' true =>
    go_enter Tryz.func91, Tryz.ntmps91
    go_wp2_with fail
    refine (HLK.out _ HV0.out.st).mono ?_; rintro x w1 ⟨rfl, hb⟩
    have HV1 := Lib.hid ((HV0.out.below hb).alloc (.cells #[.int .u8 4, .string tb0, .int .i64 ps] 72 (0, 0)))
    have HA1 : Hid ((w1.alloc (.cells #[.int .u8 4, .string tb0, .int .i64 ps] 72 (0, 0))).heap[w1.heap.size]? = some (.cells #[.int .u8 4, .string tb0, .int .i64 ps] 72 (0, 0))) := Lib.hid (heap_alloc_last _ _)
    obtain ⟨A, hA⟩ : ∃ A, w1.heap.size = A := ⟨_, rfl⟩
    rw [hA] at HA1
    have HAZ := Lib.hid hA
    clear hb
    go_wp2_with fail
    refine (H91.out _ HV1.out.st).mono ?_; rintro x w3 ⟨rfl, hb⟩
    have HV3 := Lib.hid (HV1.out.below hb)
    have HA3 := Lib.hid ((hb.block A (heap_lt HA1.out)).trans HA1.out)
    clear hb
  case' false =>
    go_enter Tryz.func91, Tryz.ntmps91
    go_wp2_with fail
    refine (HLK.out _ HV0.out.st).mono ?_; rintro x w1 ⟨rfl, hb⟩
    have HV1 := Lib.hid ((HV0.out.below hb).alloc (.cells #[.int .u8 4, .string tb0, .int .i64 ps] 72 (0, 0)))
    have HA1 : Hid ((w1.alloc (.cells #[.int .u8 4, .string tb0, .int .i64 ps] 72 (0, 0))).heap[w1.heap.size]? = some (.cells #[.int .u8 4, .string tb0, .int .i64 ps] 72 (0, 0))) := Lib.hid (heap_alloc_last _ _)
    obtain ⟨A, hA⟩ : ∃ A, w1.heap.size = A := ⟨_, rfl⟩
    rw [hA] at HA1
    have HAZ := Lib.hid hA
    clear hb
    go_wp2_with fail
    refine (H91.out _ HV1.out.st).mono ?_; rintro x w2 ⟨rfl, hb⟩
    have HV2 := Lib.hid (HV1.out.below hb)
    have HA2 := Lib.hid ((hb.block A (heap_lt HA1.out)).trans HA1.out)
    clear hb
    obtain ⟨c0, c1, c2, c3, c4⟩ := HV2.out.st.cells
    go_wp2_with fail
    refine (H36.out _ HV2.out.st).mono ?_; rintro x w3 ⟨rfl, hb⟩
    have HV3 := Lib.hid (HV2.out.below hb)
    have HA3 := Lib.hid ((hb.block A (heap_lt HA2.out)).trans HA2.out)
    clear hb
    clear c0 c1 c2 c3 c4
  all_goals
    obtain ⟨c0, c1, c2, c3, c4⟩ := HV3.out.st.cells
    obtain ⟨a0, a1, a2⟩ := tcells HA3.out
    have hA3 : A < w3.heap.size := heap_lt HA3.out
    have hp3 : p < w3.heap.size := HV3.out.st.lt
    go_wp2_with fail
    have HVc := Lib.hid (HV3.out.alloc (.cells #[.int .u8 0, .string name, .string ⟨#[]⟩, .int .i64 0, .int .i64 0] 63 (0, 0)))
    refine (HMAN.out _ HVc.out.st HVc.out.own (fun W2 hW2 => HEE.out _ (HVc.out.vk.1.trans hW2))).mono ?_; rintro x y4 hx
    have HX := Lib.hid (LVE.lift HVc.out hx)
    clear hx
    cases R with
    | error e =>
      obtain ⟨hxe, hb⟩ := HX.out.err
      subst hxe
      have HB9 := Lib.hid hb
      clear hb HX
      go_wp2_with fail
      exact ⟨rfl, rfl, HB9.out⟩
    | ok y =>
      obtain ⟨k9, out9⟩ := y
      obtain ⟨hxe, hl9, v9, hv9⟩ := HX.out.ok_
      subst hxe
      have HV9 := Lib.hid hv9
      clear hv9 HX
      go_wp2_with fail
      go_end0
      exact ⟨rfl, hl9, v9, HV9.out⟩
set_option maxRecDepth 100000 in
set_option maxHeartbeats 4000000 in
theorem l_value_many_obj {p tb off cap : Nat} {T : List Tok} {fx : Bool} {k : Nat} {op : Int} (v : Value) (L : List Cel) (name : ByteArray) (W : World) (h : LS p tb off cap T fx k op v W) (hown : OwnC (p + 1) v L W) (hL : L.length ≤ 2048) (hk : k ≤ 100000) (d : Nat) (hop : op + (d : Int) = 16) (h0 : 0 ≤ op) (hE : ∀ W', Below p W W' → Env W') (hf : L.length ≠ 2048) (mm : mrkP T k [123] = true) (hm : LManSpec d) :
    Calls Tryz.prog 91 #[.pointer (some ⟨p, 0, none⟩), .string name] W (LVE p tb off cap T fx W v op (manP fx T d name.data.toList k L)) := by
  have HV0 : Hid (LV p tb off cap T fx W v v L k op W) := Lib.hid ⟨h, hown, VK.refl _ _ _, fun k hk => Or.inl hk⟩
  have HLK := Lib.hid (fun (W : World) (hW : LS p tb off cap T fx k op v W) => l_look W hW)
  have HIS := Lib.hid (fun (s : ByteArray) (W : World) (hW : LS p tb off cap T fx k op v W) => l_is s W hW)
  have HNO := Lib.hid (fun (e : Int) (W : World) (hW : LS p tb off cap T fx k op v W) => l_no e W hW)
  have hw1 : IntKind.i64.wrap ((k : Int) + 1) = (k : Int) + 1 := IntWalk.i64_in _ (by omega)
  have hvl : ∃ a n c, v = .slice a n c ∧ n = L.length := by
    rcases HV0.out.own.2 with ⟨h1, h2⟩ | ⟨g, cap, cur, h1, _⟩
    · exact ⟨none, 0, 0, h1, h2.symm⟩
    · exact ⟨_, _, _, h1, rfl⟩
  obtain ⟨av, nv, cv, rfl, hnv⟩ := hvl
  have HNV := Lib.hid hnv
  have hnv8 : nv ≤ 2048 := by omega
  clear h hown
  have tf : ((nv : Int) == 2048) = false := by rw [beq_eq_false_iff_ne]; omega
  have hopn : opnP T k = true := by unfold opnP; rw [mm]; simp
  have HEE := Lib.hid hE
  have HMAN : Hid (∀ W', LS p tb off cap T fx k op (.slice av nv cv) W' → OwnC (p + 1) (.slice av nv cv) L W' → (∀ W2, Below p W' W2 → Env W2) → Calls Tryz.prog 110 #[.pointer (some ⟨p, 0, none⟩), .agg #[.int .u8 0, .string name, .string ⟨#[]⟩, .int .i64 0, .int .i64 0]] W' (LVE p tb off cap T fx W' (.slice av nv cv) op (manP fx T d name.data.toList k L))) := Lib.hid fun W' hW ho he => hm p tb off cap T fx k op _ L name W' hop h0 hW ho (by omega) hk hopn he
  obtain ⟨R, hR⟩ : ∃ R, manP fx T d name.data.toList k L = R := ⟨_, rfl⟩
  rw [hR] at HMAN ⊢
  clear hE hm hop h0 hopn hR
  have hkk := (mrk_one mm).1
  have m91 : mrkP T k [91] = false := mrk_ne mm (by decide)
  have m123 : mrkP T k [123] = true := mm
  have m36 : mrkP T k [36] = false := mrk_ne mm (by decide)
  have H91 : Hid (∀ W', LS p tb off cap T fx k op (.slice av nv cv) W' → Calls Tryz.prog 82 #[.pointer (some ⟨p, 0, none⟩), .int .u8 4, .string ⟨#[91]⟩] W' fun x w' => x = .returned (.bool false) ∧ Below W'.heap.size W' w') := Lib.hid fun W' hW => by
    have := HIS.out ⟨#[91]⟩ W' hW
    rw [show (⟨#[91]⟩ : ByteArray).data.toList = [91] from rfl, m91] at this; exact this
  have H123 : Hid (∀ W', LS p tb off cap T fx k op (.slice av nv cv) W' → Calls Tryz.prog 82 #[.pointer (some ⟨p, 0, none⟩), .int .u8 4, .string ⟨#[123]⟩] W' fun x w' => x = .returned (.bool true) ∧ Below W'.heap.size W' w') := Lib.hid fun W' hW => by
    have := HIS.out ⟨#[123]⟩ W' hW
    rw [show (⟨#[123]⟩ : ByteArray).data.toList = [123] from rfl, m123] at this; exact this
  have H36 : Hid (∀ W', LS p tb off cap T fx k op (.slice av nv cv) W' → Calls Tryz.prog 82 #[.pointer (some ⟨p, 0, none⟩), .int .u8 4, .string ⟨#[36]⟩] W' fun x w' => x = .returned (.bool false) ∧ Below W'.heap.size W' w') := Lib.hid fun W' hW => by
    have := HIS.out ⟨#[36]⟩ W' hW
    rw [show (⟨#[36]⟩ : ByteArray).data.toList = [36] from rfl, m36] at this; exact this
  obtain ⟨kd, hkd⟩ : ∃ kd : Int, ((lookP T k).kind.toNat : Int) = kd := ⟨_, rfl⟩
  obtain ⟨tb0, htb0⟩ : ∃ b : ByteArray, (⟨(lookP T k).text.toArray⟩ : ByteArray) = b := ⟨_, rfl⟩
  obtain ⟨ps, hps⟩ : ∃ ps : Int, (lookP T k).pos = ps := ⟨_, rfl⟩
  have HTX : Hid (tb0.data.toList = (lookP T k).text) := Lib.hid (by rw [← htb0])
  have HTB := Lib.hid htb0
  unfold tokW at HLK
  rw [hkd, htb0, hps] at HLK
  have hkd2 : kd = 4 := by rw [← hkd, hkk]; rfl
  subst hkd2
  clear hkd htb0 hps hkk hnv mm m91 m123 m36
  cases fx
  case' true =>
    go_enter Tryz.func91, Tryz.ntmps91
    go_wp2_with fail
    refine (HLK.out _ HV0.out.st).mono ?_; rintro x w1 ⟨rfl, hb⟩
    have HV1 := Lib.hid ((HV0.out.below hb).alloc (.cells #[.int .u8 4, .string tb0, .int .i64 ps] 72 (0, 0)))
    have HA1 : Hid ((w1.alloc (.cells #[.int .u8 4, .string tb0, .int .i64 ps] 72 (0, 0))).heap[w1.heap.size]? = some (.cells #[.int .u8 4, .string tb0, .int .i64 ps] 72 (0, 0))) := Lib.hid (heap_alloc_last _ _)
    obtain ⟨A, hA⟩ : ∃ A, w1.heap.size = A := ⟨_, rfl⟩
    rw [hA] at HA1
    have HAZ := Lib.hid hA
    clear hb
    go_wp2_with fail
    refine (H91.out _ HV1.out.st).mono ?_; rintro x w2 ⟨rfl, hb⟩
    have HV2 := Lib.hid (HV1.out.below hb)
    have HA2 := Lib.hid ((hb.block A (heap_lt HA1.out)).trans HA1.out)
    clear hb
    go_wp2_with fail
    refine (H123.out _ HV2.out.st).mono ?_; rintro x w4 ⟨rfl, hb⟩
    have HV4 := Lib.hid (HV2.out.below hb)
    have HA4 := Lib.hid ((hb.block A (heap_lt HA2.out)).trans HA2.out)
    clear hb
  case' false =>
    go_enter Tryz.func91, Tryz.ntmps91
    go_wp2_with fail
    refine (HLK.out _ HV0.out.st).mono ?_; rintro x w1 ⟨rfl, hb⟩
    have HV1 := Lib.hid ((HV0.out.below hb).alloc (.cells #[.int .u8 4, .string tb0, .int .i64 ps] 72 (0, 0)))
    have HA1 : Hid ((w1.alloc (.cells #[.int .u8 4, .string tb0, .int .i64 ps] 72 (0, 0))).heap[w1.heap.size]? = some (.cells #[.int .u8 4, .string tb0, .int .i64 ps] 72 (0, 0))) := Lib.hid (heap_alloc_last _ _)
    obtain ⟨A, hA⟩ : ∃ A, w1.heap.size = A := ⟨_, rfl⟩
    rw [hA] at HA1
    have HAZ := Lib.hid hA
    clear hb
    go_wp2_with fail
    refine (H91.out _ HV1.out.st).mono ?_; rintro x w2 ⟨rfl, hb⟩
    have HV2 := Lib.hid (HV1.out.below hb)
    have HA2 := Lib.hid ((hb.block A (heap_lt HA1.out)).trans HA1.out)
    clear hb
    go_wp2_with fail
    refine (H123.out _ HV2.out.st).mono ?_; rintro x w3 ⟨rfl, hb⟩
    have HV3 := Lib.hid (HV2.out.below hb)
    have HA3 := Lib.hid ((hb.block A (heap_lt HA2.out)).trans HA2.out)
    clear hb
    obtain ⟨c0, c1, c2, c3, c4⟩ := HV3.out.st.cells
    go_wp2_with fail
    refine (H36.out _ HV3.out.st).mono ?_; rintro x w4 ⟨rfl, hb⟩
    have HV4 := Lib.hid (HV3.out.below hb)
    have HA4 := Lib.hid ((hb.block A (heap_lt HA3.out)).trans HA3.out)
    clear hb
    clear c0 c1 c2 c3 c4
  all_goals
    obtain ⟨c0, c1, c2, c3, c4⟩ := HV4.out.st.cells
    obtain ⟨a0, a1, a2⟩ := tcells HA4.out
    have hA4 : A < w4.heap.size := heap_lt HA4.out
    have hp4 : p < w4.heap.size := HV4.out.st.lt
    go_wp2_with fail
    have HVc := Lib.hid (HV4.out.alloc (.cells #[.int .u8 0, .string name, .string ⟨#[]⟩, .int .i64 0, .int .i64 0] 63 (0, 0)))
    refine (HMAN.out _ HVc.out.st HVc.out.own (fun W2 hW2 => HEE.out _ (HVc.out.vk.1.trans hW2))).mono ?_; rintro x y4 hx
    have HX := Lib.hid (LVE.lift HVc.out hx)
    clear hx
    cases R with
    | error e =>
      obtain ⟨hxe, hb⟩ := HX.out.err
      subst hxe
      have HB9 := Lib.hid hb
      clear hb HX
      go_wp2_with fail
      exact ⟨rfl, rfl, HB9.out⟩
    | ok y =>
      obtain ⟨k9, out9⟩ := y
      obtain ⟨hxe, hl9, v9, hv9⟩ := HX.out.ok_
      subst hxe
      have HV9 := Lib.hid hv9
      clear hv9 HX
      go_wp2_with fail
      go_end0
      exact ⟨rfl, hl9, v9, HV9.out⟩
end Go.Proofs.YtgaknbnhmoddcaaGreatDoor
namespace Go.Proofs.YtgaknbnhmoddcaaGreatDoor
open Go.RowKit Go.Lib
section
variable {p tb off cap : Nat} {T : List Tok} {fx : Bool} {k : Nat} {op : Int} {v : Value}
theorem l_mark_yes {what : ByteArray} (hm : mrkP T k what.data.toList = true) (w : World) (h : LS p tb off cap T fx k op v w) (hk : k ≤ 100000) :
    Calls Tryz.prog 84 #[.pointer (some ⟨p, 0, none⟩), .string what] w fun x w' => x = .returned (.bool true) ∧ LS p tb off cap T fx (k + 1) op v w' ∧ RK p w w' := by
  have := l_mark what w h hk
  rw [hm] at this; exact this
theorem l_mark_not {what : ByteArray} (hm : mrkP T k what.data.toList = false) (w : World) (h : LS p tb off cap T fx k op v w) (hk : k ≤ 100000) :
    Calls Tryz.prog 84 #[.pointer (some ⟨p, 0, none⟩), .string what] w fun x w' => x = .returned (.bool false) ∧ LS p tb off cap T fx k op v w' ∧ RK p w w' := by
  have := l_mark what w h hk
  rw [hm] at this; exact this
theorem l_must_yes {what : ByteArray} (hm : mrkP T k what.data.toList = true) (w : World) (h : LS p tb off cap T fx k op v w) (hk : k ≤ 100000) :
    Calls Tryz.prog 85 #[.pointer (some ⟨p, 0, none⟩), .string what] w fun x w' => x = .returned (.tuple #[]) ∧ LS p tb off cap T fx (k + 1) op v w' ∧ RK p w w' := by
  have := l_must what w h hk
  rw [hm] at this; exact this
theorem l_must_not {what : ByteArray} (hm : mrkP T k what.data.toList = false) (w : World) (h : LS p tb off cap T fx k op v w) (hk : k ≤ 100000) :
    Calls Tryz.prog 85 #[.pointer (some ⟨p, 0, none⟩), .string what] w fun x w' => x = .panicked (stopP (180, k)) ∧ Below p w w' := by
  have := l_must what w h hk
  rw [hm] at this; exact this
theorem l_name_yes {s : List UInt8} (bm : Nat) (nm : List (List UInt8)) (hn : namP nm T k = .ok s) (w : World) (h : LS p tb off cap T fx k op v w) (hk : k ≤ 100000) (hM : NamesM bm nm w) (hpb : p < bm) (hnm : nm.length < 1000000) :
    Calls Tryz.prog 86 #[.pointer (some ⟨p, 0, none⟩), .map (some bm)] w fun x w' => x = .returned (.string ⟨s.toArray⟩) ∧ LS p tb off cap T fx (k + 1) op v w' ∧ NamesM bm (s :: nm) w' ∧ MK p bm w w' := by
  have := l_name bm nm w h hk hM hpb hnm
  rw [hn] at this; exact this
theorem l_name_not {e : ErrP} (bm : Nat) (nm : List (List UInt8)) (hn : namP nm T k = .error e) (w : World) (h : LS p tb off cap T fx k op v w) (hk : k ≤ 100000) (hM : NamesM bm nm w) (hpb : p < bm) (hnm : nm.length < 1000000) :
    Calls Tryz.prog 86 #[.pointer (some ⟨p, 0, none⟩), .map (some bm)] w fun x w' => x = .panicked (stopP e) ∧ Below p w w' := by
  have := l_name bm nm w h hk hM hpb hnm
  rw [hn] at this; exact this
end
def finP (at_ : Nat) : Except ErrP (Nat × Nat × List Cel) → Except ErrP (Nat × List Cel)
  | .error e => .error e
  | .ok (n, a2, o2) => .ok (a2, manyAt at_ n o2)
section
variable {p bm C tb off cap : Nat} {T : List Tok} {fx : Bool} {w : World} {v0 v : Value} {out : List Cel} {k k' : Nat} {op op' : Int} {nm nm' : List (List UInt8)} {cc : Array Value} {W W' : World}
theorem LI.cset (h : LI p bm C tb off cap T fx w v0 v out k op nm cc W) (i : Nat) (u : Value) (cc' : Array Value) (hc : cc.setIfInBounds i u = cc') : LI p bm C tb off cap T fx w v0 v out k op nm cc' (W.setCell ⟨C, i, none⟩ u) := by
  have h1 := h.lo; have h2 := h.lt; have h3 := h.pl
  refine ⟨h.vp.other C i u h.lo (by omega) h.nc, h.nm.keep (Below.heap_setCell _ _ _ _ (by show bm ≠ C; omega)), ?_, h.lo, h.lt, h.pl, h.ne, h.nc⟩
  exact pset h.cc u (by rw [← hc])
theorem LI.grown {v' : Value} {out' : List Cel} {H : Nat} (h : LI p bm C tb off cap T fx w v0 v out k op nm cc W) (ho : OwnC (p + 1) v' out' W') (hg : W.grownBy W' v.ownBlock) (hat : v'.ownBlock = v.ownBlock ∨ v'.ownBlock = some H) (hH : W.heap.size = H) : LS p tb off cap T fx k op v W' ∧ LI p bm C tb off cap T fx w v0 v' out' k op nm cc (W'.setCell ⟨p, 4, none⟩ v') := by
  have h1 := h.lo; have h2 := h.lt; have h3 := h.pl
  have hlc := heap_lt h.cc
  have hlb := h.nm.lt
  obtain ⟨hs, hl⟩ := h.vp.grown ho hg hat hH
  refine ⟨hs, hl, (h.nm.grown hg (fun e => h.ne e.symm)).rk (RK.set p 4 _ _) (by omega), ?_, h.lo, h.lt, h.pl, fun e => ?_, fun e => ?_⟩
  · rw [Below.heap_setCell _ _ _ _ (by show C ≠ p; omega), hg.block C hlc (fun e => h.nc e.symm)]; exact h.cc
  · rcases hat with e1 | e1
    · exact h.ne (e1 ▸ e)
    · rw [e1] at e; injection e with e; omega
  · rcases hat with e1 | e1
    · exact h.nc (e1 ▸ e)
    · rw [e1] at e; injection e with e; omega
end
end Go.Proofs.YtgaknbnhmoddcaaGreatDoor
namespace Go.Proofs.YtgaknbnhmoddcaaGreatDoor
open Go.RowKit Go.Lib
set_option maxRecDepth 100000 in
set_option maxHeartbeats 4000000 in
theorem l_many_obj_0 (p tb off cap : Nat) (T : List Tok) (fx : Bool) (k : Nat) (op : Int) (v : Value) (L : List Cel) (name : ByteArray) (W : World) (hop : op + (0 : Int) = 16) (h : LS p tb off cap T fx k op v W) (hown : OwnC (p + 1) v L W) (hL : L.length ≤ 2047) (hk : k ≤ 100000) (mm : mrkP T k [123] = true) :
    Calls Tryz.prog 110 #[.pointer (some ⟨p, 0, none⟩), .agg #[.int .u8 0, .string name, .string ⟨#[]⟩, .int .i64 0, .int .i64 0]] W (LVE p tb off cap T fx W v op (manP fx T 0 name.data.toList k L)) := by
  have HV0 : Hid (LV p tb off cap T fx W v v L k op W) := Lib.hid ⟨h, hown, VK.refl _ _ _, fun k hk => Or.inl hk⟩
  have m123 : mrkP T k [123] = true := mm
  have HIS : Hid (∀ W', LS p tb off cap T fx k op v W' → Calls Tryz.prog 82 #[.pointer (some ⟨p, 0, none⟩), .int .u8 4, .string ⟨#[123]⟩] W' fun x w' => x = .returned (.bool true) ∧ Below W'.heap.size W' w') := Lib.hid fun W' hW => by
    have := l_is ⟨#[123]⟩ W' hW
    rw [show (⟨#[123]⟩ : ByteArray).data.toList = [123] from rfl, m123] at this; exact this
  have HNO := Lib.hid (fun (e : Int) (W : World) (hW : LS p tb off cap T fx k op v W) => l_no e W hW)
  have hw1 : IntKind.i64.wrap ((k : Int) + 1) = (k : Int) + 1 := IntWalk.i64_in _ (by omega)
  have hkT := mrk_lt mm
  have hvl : ∃ a n c, v = .slice a n c ∧ n = L.length := by
    rcases HV0.out.own.2 with ⟨h1, h2⟩ | ⟨g, cap, cur, h1, _⟩
    · exact ⟨none, 0, 0, h1, h2.symm⟩
    · exact ⟨_, _, _, h1, rfl⟩
  obtain ⟨av, nv, cv, rfl, hnv⟩ := hvl
  have HNV := Lib.hid hnv
  have hnv8 : nv ≤ 2047 := by omega
  have t16 : (op == 16) = true := by rw [beq_iff_eq]; omega
  have HV1 := Lib.hid (HV0.out.alloc (.cells #[.int .u8 0, .string name, .string ⟨#[]⟩, .int .i64 0, .int .i64 0] 63 (0, 0)))
  have hp1 : p ≤ (W.alloc (.cells #[.int .u8 0, .string name, .string ⟨#[]⟩, .int .i64 0, .int .i64 0] 63 (0, 0))).heap.size := Nat.le_of_lt HV1.out.st.lt
  obtain ⟨c0, c1, c2, c3, c4⟩ := HV1.out.st.cells
  clear h hown hop hnv hkT mm m123
  go_enter Tryz.func110, Tryz.ntmps110
  go_wp2_with fail
  refine (HNO.out _ _ HV1.out.st).mono ?_; rintro x w2 ⟨rfl, hb⟩
  have HB9 := Lib.hid (HV1.out.vk.1.trans (hb.mono hp1))
  clear hb
  go_wp2_with fail
  exact ⟨rfl, rfl, HB9.out⟩
set_option maxRecDepth 100000 in
set_option maxHeartbeats 8000000 in
theorem l_many_obj (d : Nat) (hval : LValSpec d) (p tb off cap : Nat) (T : List Tok) (fx : Bool) (k : Nat) (op : Int) (v : Value) (L : List Cel) (name : ByteArray) (W : World) (hop : op + ((d + 1 : Nat) : Int) = 16) (h0 : 0 ≤ op) (h : LS p tb off cap T fx k op v W) (hown : OwnC (p + 1) v L W) (hL : L.length ≤ 2047) (hk : k ≤ 100000) (mm : mrkP T k [123] = true) (hE : ∀ W', Below p W W' → Env W') :
    Calls Tryz.prog 110 #[.pointer (some ⟨p, 0, none⟩), .agg #[.int .u8 0, .string name, .string ⟨#[]⟩, .int .i64 0, .int .i64 0]] W (LVE p tb off cap T fx W v op (manP fx T (d + 1) name.data.toList k L)) := by
  have HV0 : Hid (LV p tb off cap T fx W v v L k op W) := Lib.hid ⟨h, hown, VK.refl _ _ _, fun k hk => Or.inl hk⟩
  have m123 : mrkP T k [123] = true := mm
  have HIS : Hid (∀ W', LS p tb off cap T fx k op v W' → Calls Tryz.prog 82 #[.pointer (some ⟨p, 0, none⟩), .int .u8 4, .string ⟨#[123]⟩] W' fun x w' => x = .returned (.bool true) ∧ Below W'.heap.size W' w') := Lib.hid fun W' hW => by
    have := l_is ⟨#[123]⟩ W' hW
    rw [show (⟨#[123]⟩ : ByteArray).data.toList = [123] from rfl, m123] at this; exact this
  have HNO := Lib.hid (fun (e : Int) (W : World) (hW : LS p tb off cap T fx k op v W) => l_no e W hW)
  have hw1 : IntKind.i64.wrap ((k : Int) + 1) = (k : Int) + 1 := IntWalk.i64_in _ (by omega)
  have hkT := mrk_lt mm
  have hvl : ∃ a n c, v = .slice a n c ∧ n = L.length := by
    rcases HV0.out.own.2 with ⟨h1, h2⟩ | ⟨g, cap, cur, h1, _⟩
    · exact ⟨none, 0, 0, h1, h2.symm⟩
    · exact ⟨_, _, _, h1, rfl⟩
  obtain ⟨av, nv, cv, rfl, hnv⟩ := hvl
  have HNV := Lib.hid hnv
  have hnv8 : nv ≤ 2047 := by omega
  have t16 : (op == 16) = false := by rw [beq_eq_false_iff_ne]; omega
  have q6 : IntKind.i64.wrap (op + 1) = op + 1 := IntWalk.i64_in _ (by omega)
  have hop9 : op ≤ 16 := by omega
  have hT8 := HV0.out.st.2.2.2.1.1
  have hpl := h.lt
  have HEE := Lib.hid hE
  have HVL : Hid (∀ (s : ByteArray) (k1 : Nat) (out : List Cel) (v1 : Value) (W' : World), LS p tb off cap T fx k1 (op + 1) v1 W' → OwnC (p + 1) v1 out W' → out.length ≤ 2048 → k1 ≤ 100000 → (∀ W2, Below p W' W2 → Env W2) → Calls Tryz.prog 91 #[.pointer (some ⟨p, 0, none⟩), .string s] W' (LVE p tb off cap T fx W' v1 (op + 1) (valP fx T d s.data.toList k1 out))) := Lib.hid fun s k1 out v1 W' h1 h2 h3 h4 h5 =>
    hval p tb off cap T fx k1 (op + 1) v1 out s W' (by omega) (by omega) h1 h2 h3 h4 h5
  obtain ⟨Z, hZ⟩ : ∃ Z, manP fx T (d + 1) name.data.toList k L = Z := ⟨_, rfl⟩
  have HZ0 : Hid (finP nv (itmP (valP fx T d) true T (T.length + 1) 0 [] (k + 1) (L ++ [⟨7, name.data.toList, [], 0, 0⟩])) = Z) := Lib.hid (by
    rw [← hZ]; unfold manP; simp only [m123, if_true, hnv, Bool.false_eq_true, if_false]; rfl)
  have hol : (L ++ [(⟨7, name.data.toList, [], 0, 0⟩ : Cel)]).length = nv + 1 := by simp [hnv]
  have hl0 : manyAt nv 0 (L ++ [(⟨7, name.data.toList, [], 0, 0⟩ : Cel)]) = L ++ [⟨7, name.data.toList, [], 0, 0⟩] := many_last nv L _ hnv rfl
  have HL0 := Lib.hid hl0
  rw [hZ]
  obtain ⟨C, hC⟩ : ∃ C, W.heap.size = C := ⟨_, rfl⟩
  have HI0 : Hid (LI p (C + 1) C tb off cap T fx W (.slice av nv cv) (.slice av nv cv) L k op [] #[.int .u8 6, .string name, .string ⟨#[]⟩, .int .i64 0, .int .i64 0] ((W.alloc (.cells #[.int .u8 6, .string name, .string ⟨#[]⟩, .int .i64 0, .int .i64 0] 63 (0, 0))).alloc (.map #[] 0))) := Lib.hid (by
    have ho : ∀ j, C ≤ j → (Value.slice av nv cv).ownBlock ≠ some j := fun j hj e => by
      have := (World.ownsRow.lt HV0.out.own j e).2; omega
    have h1 := (HV0.out.alloc (.cells #[.int .u8 6, .string name, .string ⟨#[]⟩, .int .i64 0, .int .i64 0] 63 (0, 0))).alloc (.map #[] 0)
    have hsz : (W.alloc (.cells #[.int .u8 6, .string name, .string ⟨#[]⟩, .int .i64 0, .int .i64 0] 63 (0, 0))).heap.size = C + 1 := by simp [hC]
    refine ⟨h1, ?_, ?_, by omega, Nat.lt_succ_self C, hpl, ho (C + 1) (by omega), ho C (Nat.le_refl _)⟩
    · have := NamesM.made (W.alloc (.cells #[.int .u8 6, .string name, .string ⟨#[]⟩, .int .i64 0, .int .i64 0] 63 (0, 0)))
      rw [hsz] at this; exact this
    · refine heap_old ?_
      rw [← hC]; exact heap_alloc_last _ _)
  obtain ⟨bm, hbm⟩ : ∃ bm, C + 1 = bm := ⟨_, rfl⟩
  rw [hbm] at HI0
  have HV1 := Lib.hid (HV0.out.alloc (.cells #[.int .u8 0, .string name, .string ⟨#[]⟩, .int .i64 0, .int .i64 0] 63 (0, 0)))
  obtain ⟨c0, c1, c2, c3, c4⟩ := HV1.out.st.cells
  have hmm := @run_makeMap Tryz.prog
  clear h hown hop hZ hval hE hnv mm m123 hl0
  go_enter Tryz.func110, Tryz.ntmps110
  go_wp2_with fail
  try simp only [hC, hbm]
  refine (HIS.out _ HI0.out.vp.st).mono ?_; rintro x w1 ⟨rfl, hb⟩
  have HI1 := Lib.hid (HI0.out.below hb)
  clear hb c0 c1 c2 c3 c4 hmm HV1
  have HI2 := Lib.hid (HI1.out.cset 0 (.int .u8 7) #[.int .u8 7, .string name, .string ⟨#[]⟩, .int .i64 0, .int .i64 0] rfl)
  have g0 := Lib.frozen_of_heap HI1.out.cc 0
  obtain ⟨q0, q1, q2, q3, q4⟩ := ccells HI1.out.cc
  obtain ⟨c0, c1, c2, c3, c4⟩ := HI1.out.vp.st.cells
  go_upto_region 8 with fail
  obtain ⟨y5, hy5⟩ : ∃ y5, w1.setCell ⟨C, 0, none⟩ (.int .u8 7) = y5 := ⟨_, rfl⟩
  rw [hy5] at HI2 ⊢
  clear hy5 g0 q0 q1 q2 q3 q4 c0 c1 c2 c3 c4
  have HY5 := HI2
  have HCEL : Hid (celCells ⟨7, name.data.toList, [], 0, 0⟩ = #[.int .u8 7, .string name, .string ⟨#[]⟩, .int .i64 0, .int .i64 0]) := Lib.hid (by rfl)
  go_cut [] (fun wx => ∃ g6 cap6, p < g6 ∧ Hid (LI p bm C tb off cap T fx W (.slice av nv cv) (.slice (some ⟨g6, 0, none⟩) (nv + 1) cap6) (manyAt nv 0 (L ++ [⟨7, name.data.toList, [], 0, 0⟩])) k op [] #[.int .u8 7, .string name, .string ⟨#[]⟩, .int .i64 0, .int .i64 0] wx))
  case first =>
    have hlt5 := HY5.out.vp.st.lt
    have hC5 := heap_lt HY5.out.cc
    obtain ⟨_, _, _, _, c4⟩ := HY5.out.vp.st.cells
    have e4 : y5.drew.cell? ⟨p, 4, none⟩ = some (.slice av nv cv) := c4
    have e4' : ∀ o, (y5.drew.alloc o).cell? ⟨p, 4, none⟩ = some (.slice av nv cv) := fun o => by
      rw [World.cell?_alloc_lt _ _ _ (by exact hlt5)]; exact c4
    obtain ⟨q0, q1, q2, q3, q4⟩ := ccells (W := y5.drew) HY5.out.cc
    refine wp_region_held_drew (S := fun _ => True) (by kernel_rfl) trivial (fun hHeld => ?_)
    refine tky 0 (some 29) (v := ?_) rfl (by kernel_rfl) (by kernel_rfl) (by kernel_rfl) (fun _ _ _ h => h) ?_ hHeld ?_
    rotate_left
    focus (intro w hSw; go_simp; (try with_reducible rfl); done)
    simp only [Act.put, List.setIfInBounds_toArray, List.set_cons_zero, List.set_cons_succ]
    refine tky 1 (some 30) (v := ?_) rfl (by kernel_rfl) (by kernel_rfl) (by kernel_rfl) (fun _ _ _ h => h) ?_ hHeld ?_
    rotate_left
    focus (intro w hSw; go_simp; (try with_reducible rfl); done)
    simp only [Act.put, List.setIfInBounds_toArray, List.set_cons_zero, List.set_cons_succ]
    refine tky 2 (some 31) (v := ?_) rfl (by kernel_rfl) (by kernel_rfl) (by kernel_rfl) (fun _ _ _ h => h) ?_ hHeld ?_
    rotate_left
    focus (intro w hSw; go_simp; (try with_reducible rfl); done)
    simp only [Act.put, List.setIfInBounds_toArray, List.set_cons_zero, List.set_cons_succ]
    refine tky 3 (some 32) (v := ?_) rfl (by kernel_rfl) (by kernel_rfl) (by kernel_rfl) (fun _ _ _ h => h) ?_ hHeld ?_
    rotate_left
    focus (intro w hSw; go_simp; (try with_reducible rfl); done)
    simp only [Act.put, List.setIfInBounds_toArray, List.set_cons_zero, List.set_cons_succ]
    refine wpAnyH_ready (rs := [4, 5]) (by kernel_rfl) (by simp) ?_
    refine acons 4 rfl (fun K hK => ?_) ?_
    go_simp
    refine hK.out _ _ trivial (fun _ => ?_)
    clear hK K
    (try simp only [Act.put, List.setIfInBounds_toArray, List.set_cons_zero, List.set_cons_succ])
    refine rcons 5 rfl (by kernel_rfl) (fun K hK => ?_)
    go_simp
    refine hK.out _ _ trivial (fun _ => ?_)
    clear hK K
    (try simp only [Act.put, List.setIfInBounds_toArray, List.set_cons_zero, List.set_cons_succ])
    refine rcons 6 rfl (by kernel_rfl) (fun K hK => ?_)
    go_simp
    refine hK.out _ _ trivial (fun _ => ?_)
    clear hK K
    (try simp only [Act.put, List.setIfInBounds_toArray, List.set_cons_zero, List.set_cons_succ])
    rotate_left
    refine acons 5 rfl (fun K hK => ?_) ?_
    go_simp
    refine hK.out _ _ trivial (fun _ => ?_)
    clear hK K
    (try simp only [Act.put, List.setIfInBounds_toArray, List.set_cons_zero, List.set_cons_succ])
    refine wpAnyH_ready (rs := [4, 6]) (by kernel_rfl) (by simp) ?_
    refine acons 4 rfl (fun K hK => ?_) ?_
    go_simp
    refine hK.out _ _ trivial (fun _ => ?_)
    clear hK K
    (try simp only [Act.put, List.setIfInBounds_toArray, List.set_cons_zero, List.set_cons_succ])
    refine rcons 6 rfl (by kernel_rfl) (fun K hK => ?_)
    go_simp
    refine hK.out _ _ trivial (fun _ => ?_)
    clear hK K
    (try simp only [Act.put, List.setIfInBounds_toArray, List.set_cons_zero, List.set_cons_succ])
    rotate_left
    refine acons 6 rfl (fun K hK => ?_) ?_
    go_simp
    refine hK.out _ _ trivial (fun _ => ?_)
    clear hK K
    (try simp only [Act.put, List.setIfInBounds_toArray, List.set_cons_zero, List.set_cons_succ])
    refine rcons 4 rfl (by kernel_rfl) (fun K hK => ?_)
    go_simp
    refine hK.out _ _ trivial (fun _ => ?_)
    clear hK K
    (try simp only [Act.put, List.setIfInBounds_toArray, List.set_cons_zero, List.set_cons_succ])
    rotate_left
    exact AllReadyH.nil
    exact AllReadyH.nil
    all_goals
      refine rcons 7 rfl (by kernel_rfl) (fun K hK => ?_)
      rw [if_pos]
      rotate_left
      focus kernel_rfl
      refine wp_pushL _ _ rfl (p + 1) (.slice av nv cv) L rfl (by exact ((HY5.out.vp.drewN 1).alloc _).own) y5.heap.size 1 ⟨7, name.data.toList, [], 0, 0⟩ rfl (by rw [HCEL.out]; exact heap_alloc_last y5.drew _) (by omega) (by show _ ≤ Array.size _; simp; omega) ?_
      intro v' y6 hown' hgrow hat
      obtain ⟨g6, cap6, hvg, hpg6, -⟩ := hown'.form L.length (by simp)
      rw [hol] at hvg
      subst hvg
      have hbl : Below y5.heap.size y5 (World.alloc y5.drew (.cells #[.int .u8 7, .string name, .string ⟨#[]⟩, .int .i64 0, .int .i64 0] 63 (0, 0))) := (below_dN 1 (Below.refl y5.heap.size y5)).alloc (Nat.le_refl _) _
      obtain ⟨hst6, hy6⟩ := (HY5.out.below hbl).grown hown' hgrow hat rfl
      have HY6 := Lib.hid hy6
      obtain ⟨_, _, _, _, g4⟩ := hst6.cells
      have f6 := hst6.frozen 4
      clear hown' hgrow hat hst6 hy6 hbl
      (try dsimp only)
      refine hK.out _ _ trivial (fun _ => ?_)
      clear hK K
      (try simp only [Act.put, List.setIfInBounds_toArray, List.set_cons_zero, List.set_cons_succ])
      refine tky 8 (some 37) (v := ?_) rfl (by kernel_rfl) (by kernel_rfl) (by kernel_rfl) (fun _ _ _ h => h) ?_ hHeld ?_
      rotate_left
      focus (intro w hSw; go_simp; (try with_reducible rfl); done)
      simp only [Act.put, List.setIfInBounds_toArray, List.set_cons_zero, List.set_cons_succ]
      refine tky 9 (some 38) (v := ?_) rfl (by kernel_rfl) (by kernel_rfl) (by kernel_rfl) (fun _ _ _ h => h) ?_ hHeld ?_
      rotate_left
      focus (intro w hSw; go_simp; (try with_reducible rfl); done)
      simp only [Act.put, List.setIfInBounds_toArray, List.set_cons_zero, List.set_cons_succ]
      refine rcons 10 rfl (by kernel_rfl) (fun K hK => ?_)
      go_simp
      refine hK.out _ _ trivial (fun _ => ?_)
      clear hK K
      (try simp only [Act.put, List.setIfInBounds_toArray, List.set_cons_zero, List.set_cons_succ])
      refine wpAnyH_done (by kernel_rfl) ?_ _
      go_wp2_with fail
      go_meet
      exact ⟨g6, cap6, hpg6, by rw [HL0.out]; exact HY6⟩
  case rest =>
    obtain ⟨g6, cap6, hpg6, HY6⟩ := hcut
    obtain ⟨c0, c1, c2, c3, c4⟩ := HY6.out.vp.st.cells
    have f1 := HY6.out.vp.st.frozen 1
    have f2 := HY6.out.vp.st.frozen 2
    have f3 := HY6.out.vp.st.frozen 3
    have HY8 := Lib.hid ((HY6.out.go (k + 1) (by omega)).op_ (op + 1))
    go_wp2_with fail
    go_loopg [7] (T.length + 1) (fun gk nm7 wr => ∃ (n k1 : Nat) (nm : List (List UInt8)) (out : List Cel) (v1 : Value), k1 ≤ T.length ∧ T.length + 1 < gk + k1 ∧ n + nv < out.length ∧ nm.length ≤ n ∧ out.length ≤ 2048 ∧ Hid (LI p bm C tb off cap T fx W (.slice av nv cv) v1 (manyAt nv n out) k1 (op + 1) nm #[.int .u8 7, .string name, .string ⟨#[]⟩, .int .i64 0, .int .i64 0] wr) ∧ Hid (finP nv (itmP (valP fx T d) true T gk n nm k1 out) = Z))
    case atStart => exact ⟨0, k + 1, [], _, _, by omega, by omega, by rw [hol]; omega, Nat.le_refl _, by rw [hol]; omega, HY8, HZ0⟩
    case round =>
      clear c0 c1 c2 c3 c4 f1 f2 f3 HY6 HY8 HZ0 HI0 HI1 HI2 HY5 HL0
      rename World => wr
      obtain ⟨n, k1, nm, out, v1, hkT, hg, hn, hnm, hout, HI, HQ⟩ := hrel
      obtain ⟨g, rfl⟩ : ∃ g, gk = g + 1 := ⟨gk - 1, by omega⟩
      have hpb : p < bm := by have := HI.out.lo; have := HI.out.lt; have := HI.out.pl; omega
      cases ht : mrkP T k1 [125] with
      | true =>
        have HZ : Hid (.ok (k1 + 1, manyAt nv n out) = Z) := Lib.hid (by have := HQ.out; rw [itmP_end (isO := true) ht] at this; exact this)
        go_wp2_with fail
        refine (l_mark_yes (what := ⟨#[125]⟩) ht _ HI.out.vp.st (by omega)).mono ?_; rintro x w3 ⟨rfl, hst, hk3⟩
        have HI3 := Lib.hid (HI.out.rk hst hk3)
        clear hst hk3 ht HQ HI
        obtain ⟨c0, c1, c2, c3, c4⟩ := HI3.out.vp.st.cells
        have f3 := HI3.out.vp.st.frozen 3
        have q7 : IntKind.i64.wrap (op + 1 - 1) = op := by rw [IntWalk.i64_in _ (by omega)]; omega
        have q8 : op + 1 - 1 = op := by omega
        have q9 : IntKind.i64.wrap op = op := IntWalk.i64_in _ (by omega)
        have HV4 := Lib.hid (HI3.out.vp.op_ op)
        go_wp2_with fail
        go_end0
        rw [← HZ.out]
        exact ⟨rfl, by rw [manyln]; exact hout, _, HV4.out⟩
      | false =>
        have HQ1 := Lib.hid (itmP_go (val := valP fx T d) (isO := true) (f := g) (n := n) (nm := nm) (out := out) ht)
        rw [HQ1.out] at HQ
        clear HQ1
        go_wp2_with fail
        refine (l_mark_not (what := ⟨#[125]⟩) ht _ HI.out.vp.st (by omega)).mono ?_; rintro x w3 ⟨rfl, hst, hk3⟩
        have HI3 := Lib.hid (HI.out.rk hst hk3)
        clear hst hk3 ht HI
        obtain ⟨q0, q1, q2, q3, q4⟩ := ccells HI3.out.cc
        go_wp2_with fail
        cases hna : namP nm T k1 with
        | error e =>
          have hme : memP nm T k1 = .error e := by unfold memP; rw [hna]
          have HZ : Hid (.error e = Z) := Lib.hid (by have := HQ.out; simp only [if_true, hme] at this; exact this)
          refine (l_name_not bm nm hna _ HI3.out.vp.st (by omega) HI3.out.nm hpb (by omega)).mono ?_; rintro x w4 ⟨rfl, hb⟩
          have HB4 := Lib.hid (HI3.out.vp.vk.1.trans hb)
          clear hb hna hme HQ
          go_wp2_with fail
          refine ⟨rfl, ?_⟩
          rw [← HZ.out]
          exact ⟨rfl, HB4.out⟩
        | ok s =>
          have hk2 := (nam_lt hna).1
          have hme : memP nm T k1 = if mrkP T (k1 + 1) [58] then .ok (s, k1 + 2) else .error (180, k1 + 1) := by unfold memP; rw [hna]
          refine (l_name_yes bm nm hna _ HI3.out.vp.st (by omega) HI3.out.nm hpb (by omega)).mono ?_; rintro x w4 ⟨rfl, hst, hnm4, hmk⟩
          have HI4 := Lib.hid (HI3.out.mk_ hst hnm4 hmk)
          clear hst hnm4 hmk hna q0 q1 q2 q3 q4
          go_wp2_with fail
          cases hc : mrkP T (k1 + 1) [58] with
          | false =>
            rw [hc] at hme
            have HZ : Hid (.error (180, k1 + 1) = Z) := Lib.hid (by have := HQ.out; simp only [if_true, hme, Bool.false_eq_true, if_false] at this; exact this)
            refine (l_must_not (what := ⟨#[58]⟩) hc _ HI4.out.vp.st (by omega)).mono ?_; rintro x w5 ⟨rfl, hb⟩
            have HB5 := Lib.hid (HI4.out.vp.vk.1.trans hb)
            clear hb hc hme HQ
            go_wp2_with fail
            refine ⟨rfl, ?_⟩
            rw [← HZ.out]
            exact ⟨rfl, HB5.out⟩
          | true =>
            have hcT := mrk_lt hc
            rw [hc] at hme
            simp only [if_true, hme] at HQ
            refine (l_must_yes (what := ⟨#[58]⟩) hc _ HI4.out.vp.st (by omega)).mono ?_; rintro x w5 ⟨rfl, hst, hk5⟩
            have HI5 := Lib.hid (HI4.out.rk hst hk5)
            clear hst hk5 hc hme
            rw [show k1 + 1 + 1 = k1 + 2 from rfl] at HI5
            go_wp2_with fail
            have HVA := Lib.hid (HVL.out ⟨s.toArray⟩ (k1 + 2) (manyAt nv n out) v1 _ HI5.out.vp.st HI5.out.vp.own (by rw [manyln]; exact hout) (by omega) (fun W2 h2 => HEE.out _ (HI5.out.vp.vk.1.trans h2)))
            have hal := val_alk fx T d (s) (k1 + 2) (manyAt nv n out) out (manyln _ _ _)
            have hon := val_on fx T d (s) (k1 + 2) (manyAt nv n out)
            rw [show (⟨s.toArray⟩ : ByteArray).data.toList = s from rfl] at HVA
            cases hx : valP fx T d (s) (k1 + 2) (manyAt nv n out) with
            | error e =>
              rw [hx] at HVA hal
              have hal2 : valP fx T d (s) (k1 + 2) out = .error e := hal
              have HZ : Hid (.error e = Z) := Lib.hid (by have := HQ.out; simp only [hal2] at this; exact this)
              clear hx hal hal2 hon HQ
              refine HVA.out.mono ?_; rintro x wb hvx
              obtain ⟨hxe, hbb⟩ := hvx.err
              have HBB := Lib.hid (HI5.out.vp.vk.1.trans hbb)
              clear hvx hbb
              subst hxe
              go_wp2_with fail
              refine ⟨rfl, ?_⟩
              rw [← HZ.out]
              exact ⟨rfl, HBB.out⟩
            | ok y =>
              obtain ⟨k4, out4⟩ := y
              obtain ⟨hk4, hk4T⟩ := hon _ _ hx
              rw [hx] at HVA hal
              obtain ⟨new, rfl, hnew, hal2⟩ := hal
              have HQ4 : Hid (finP nv (itmP (valP fx T d) true T g (n + 1) (s :: nm) k4 (out ++ new)) = Z) := Lib.hid (by have := HQ.out; simp only [hal2] at this; exact this)
              rw [many_app2 nv n out new (by omega)] at HVA
              clear hx hal2 HQ
              refine HVA.out.mono ?_; rintro x wb hvx
              obtain ⟨hxe, ho2, v2, hvp⟩ := hvx.ok_
              have HIB := Lib.hid (HI5.out.val hvp)
              clear hvx hvp HVA
              subst hxe
              have hol2 : (out ++ new).length ≤ 2048 := by rw [manyln] at ho2; exact ho2
              have hln : n + 1 + nv < (out ++ new).length := by rw [List.length_append]; omega
              clear ho2
              generalize out ++ new = X at HIB HQ4 hol2 hln
              have hkl : nv < (manyAt nv n X).length := by rw [manyln]; omega
              obtain ⟨g1, cap1, hv1, hBg, hgl, hfz, ck0, ck2, ck3, ck4⟩ := HIB.out.vp.own.form nv hkl
              rw [many_at] at ck4
              have hff := hfz (nv * 5 + 4)
              have hpg1 : p < g1 := by omega
              have HIC := Lib.hid (HIB.out.set (u := .int .i64 ((n + 1 : Nat) : Int)) (i := nv * 5 + 4) (out' := manyAt nv (n + 1) X) hv1 hpg1 (by rw [manyln, manyln]) (by rw [← many_many nv n (n + 1) X]; exact celFlat_set4 _ _ _))
              rw [manyln] at hv1
              obtain ⟨n6, hn6⟩ : ∃ n6, X.length = n6 := ⟨_, rfl⟩
              rw [hn6] at hv1
              obtain ⟨d0, d1, d2, d3, d4⟩ := HIB.out.vp.st.cells
              have q10 : (nv : Int) < (n6 : Int) := by omega
              have q11 : (nv : Int).toNat = nv := by omega
              have q12 : (0 : Int) ≤ (nv : Int) := by omega
              have q13 : nv < n6 := by omega
              have q14 : IntKind.i64.wrap ((n : Int) + 1) = ((n + 1 : Nat) : Int) := by rw [IntWalk.i64_in _ (by omega)]; omega
              clear ck0 ck2 ck3 hfz hn6
              subst hv1
              go_wp2_with fail
              go_roundg g
              case measure => omega
              case rel => exact ⟨n + 1, k4, (s :: nm), X, _, hk4T, by omega, hln, by first | omega | (simp; omega), hol2, HIC, HQ4⟩
end Go.Proofs.YtgaknbnhmoddcaaGreatDoor
namespace Go.Proofs.YtgaknbnhmoddcaaGreatDoor
open Go.RowKit Go.Lib
set_option maxRecDepth 100000 in
set_option maxHeartbeats 4000000 in
theorem l_many_list_0 (p tb off cap : Nat) (T : List Tok) (fx : Bool) (k : Nat) (op : Int) (v : Value) (L : List Cel) (name : ByteArray) (W : World) (hop : op + (0 : Int) = 16) (h : LS p tb off cap T fx k op v W) (hown : OwnC (p + 1) v L W) (hL : L.length ≤ 2047) (hk : k ≤ 100000) (mm : mrkP T k [91] = true) :
    Calls Tryz.prog 110 #[.pointer (some ⟨p, 0, none⟩), .agg #[.int .u8 0, .string name, .string ⟨#[]⟩, .int .i64 0, .int .i64 0]] W (LVE p tb off cap T fx W v op (manP fx T 0 name.data.toList k L)) := by
  have HV0 : Hid (LV p tb off cap T fx W v v L k op W) := Lib.hid ⟨h, hown, VK.refl _ _ _, fun k hk => Or.inl hk⟩
  have m123 : mrkP T k [123] = false := mrk_ne mm (by decide)
  have HIS : Hid (∀ W', LS p tb off cap T fx k op v W' → Calls Tryz.prog 82 #[.pointer (some ⟨p, 0, none⟩), .int .u8 4, .string ⟨#[123]⟩] W' fun x w' => x = .returned (.bool false) ∧ Below W'.heap.size W' w') := Lib.hid fun W' hW => by
    have := l_is ⟨#[123]⟩ W' hW
    rw [show (⟨#[123]⟩ : ByteArray).data.toList = [123] from rfl, m123] at this; exact this
  have HNO := Lib.hid (fun (e : Int) (W : World) (hW : LS p tb off cap T fx k op v W) => l_no e W hW)
  have hw1 : IntKind.i64.wrap ((k : Int) + 1) = (k : Int) + 1 := IntWalk.i64_in _ (by omega)
  have hkT := mrk_lt mm
  have hvl : ∃ a n c, v = .slice a n c ∧ n = L.length := by
    rcases HV0.out.own.2 with ⟨h1, h2⟩ | ⟨g, cap, cur, h1, _⟩
    · exact ⟨none, 0, 0, h1, h2.symm⟩
    · exact ⟨_, _, _, h1, rfl⟩
  obtain ⟨av, nv, cv, rfl, hnv⟩ := hvl
  have HNV := Lib.hid hnv
  have hnv8 : nv ≤ 2047 := by omega
  have t16 : (op == 16) = true := by rw [beq_iff_eq]; omega
  have HV1 := Lib.hid (HV0.out.alloc (.cells #[.int .u8 0, .string name, .string ⟨#[]⟩, .int .i64 0, .int .i64 0] 63 (0, 0)))
  have hp1 : p ≤ (W.alloc (.cells #[.int .u8 0, .string name, .string ⟨#[]⟩, .int .i64 0, .int .i64 0] 63 (0, 0))).heap.size := Nat.le_of_lt HV1.out.st.lt
  obtain ⟨c0, c1, c2, c3, c4⟩ := HV1.out.st.cells
  clear h hown hop hnv hkT mm m123
  go_enter Tryz.func110, Tryz.ntmps110
  go_wp2_with fail
  refine (HNO.out _ _ HV1.out.st).mono ?_; rintro x w2 ⟨rfl, hb⟩
  have HB9 := Lib.hid (HV1.out.vk.1.trans (hb.mono hp1))
  clear hb
  go_wp2_with fail
  exact ⟨rfl, rfl, HB9.out⟩
set_option maxRecDepth 100000 in
set_option maxHeartbeats 8000000 in
theorem l_many_list (d : Nat) (hval : LValSpec d) (p tb off cap : Nat) (T : List Tok) (fx : Bool) (k : Nat) (op : Int) (v : Value) (L : List Cel) (name : ByteArray) (W : World) (hop : op + ((d + 1 : Nat) : Int) = 16) (h0 : 0 ≤ op) (h : LS p tb off cap T fx k op v W) (hown : OwnC (p + 1) v L W) (hL : L.length ≤ 2047) (hk : k ≤ 100000) (mm : mrkP T k [91] = true) (hE : ∀ W', Below p W W' → Env W') :
    Calls Tryz.prog 110 #[.pointer (some ⟨p, 0, none⟩), .agg #[.int .u8 0, .string name, .string ⟨#[]⟩, .int .i64 0, .int .i64 0]] W (LVE p tb off cap T fx W v op (manP fx T (d + 1) name.data.toList k L)) := by
  have HV0 : Hid (LV p tb off cap T fx W v v L k op W) := Lib.hid ⟨h, hown, VK.refl _ _ _, fun k hk => Or.inl hk⟩
  have m123 : mrkP T k [123] = false := mrk_ne mm (by decide)
  have HIS : Hid (∀ W', LS p tb off cap T fx k op v W' → Calls Tryz.prog 82 #[.pointer (some ⟨p, 0, none⟩), .int .u8 4, .string ⟨#[123]⟩] W' fun x w' => x = .returned (.bool false) ∧ Below W'.heap.size W' w') := Lib.hid fun W' hW => by
    have := l_is ⟨#[123]⟩ W' hW
    rw [show (⟨#[123]⟩ : ByteArray).data.toList = [123] from rfl, m123] at this; exact this
  have HNO := Lib.hid (fun (e : Int) (W : World) (hW : LS p tb off cap T fx k op v W) => l_no e W hW)
  have hw1 : IntKind.i64.wrap ((k : Int) + 1) = (k : Int) + 1 := IntWalk.i64_in _ (by omega)
  have hkT := mrk_lt mm
  have hvl : ∃ a n c, v = .slice a n c ∧ n = L.length := by
    rcases HV0.out.own.2 with ⟨h1, h2⟩ | ⟨g, cap, cur, h1, _⟩
    · exact ⟨none, 0, 0, h1, h2.symm⟩
    · exact ⟨_, _, _, h1, rfl⟩
  obtain ⟨av, nv, cv, rfl, hnv⟩ := hvl
  have HNV := Lib.hid hnv
  have hnv8 : nv ≤ 2047 := by omega
  have t16 : (op == 16) = false := by rw [beq_eq_false_iff_ne]; omega
  have q6 : IntKind.i64.wrap (op + 1) = op + 1 := IntWalk.i64_in _ (by omega)
  have hop9 : op ≤ 16 := by omega
  have hT8 := HV0.out.st.2.2.2.1.1
  have hpl := h.lt
  have HEE := Lib.hid hE
  have HVL : Hid (∀ (s : ByteArray) (k1 : Nat) (out : List Cel) (v1 : Value) (W' : World), LS p tb off cap T fx k1 (op + 1) v1 W' → OwnC (p + 1) v1 out W' → out.length ≤ 2048 → k1 ≤ 100000 → (∀ W2, Below p W' W2 → Env W2) → Calls Tryz.prog 91 #[.pointer (some ⟨p, 0, none⟩), .string s] W' (LVE p tb off cap T fx W' v1 (op + 1) (valP fx T d s.data.toList k1 out))) := Lib.hid fun s k1 out v1 W' h1 h2 h3 h4 h5 =>
    hval p tb off cap T fx k1 (op + 1) v1 out s W' (by omega) (by omega) h1 h2 h3 h4 h5
  obtain ⟨Z, hZ⟩ : ∃ Z, manP fx T (d + 1) name.data.toList k L = Z := ⟨_, rfl⟩
  have HZ0 : Hid (finP nv (itmP (valP fx T d) false T (T.length + 1) 0 [] (k + 1) (L ++ [⟨6, name.data.toList, [], 0, 0⟩])) = Z) := Lib.hid (by
    rw [← hZ]; unfold manP; simp only [m123, if_true, hnv, Bool.false_eq_true, if_false]; rfl)
  have hol : (L ++ [(⟨6, name.data.toList, [], 0, 0⟩ : Cel)]).length = nv + 1 := by simp [hnv]
  have hl0 : manyAt nv 0 (L ++ [(⟨6, name.data.toList, [], 0, 0⟩ : Cel)]) = L ++ [⟨6, name.data.toList, [], 0, 0⟩] := many_last nv L _ hnv rfl
  have HL0 := Lib.hid hl0
  rw [hZ]
  obtain ⟨C, hC⟩ : ∃ C, W.heap.size = C := ⟨_, rfl⟩
  have HI0 : Hid (LI p (C + 1) C tb off cap T fx W (.slice av nv cv) (.slice av nv cv) L k op [] #[.int .u8 6, .string name, .string ⟨#[]⟩, .int .i64 0, .int .i64 0] ((W.alloc (.cells #[.int .u8 6, .string name, .string ⟨#[]⟩, .int .i64 0, .int .i64 0] 63 (0, 0))).alloc (.map #[] 0))) := Lib.hid (by
    have ho : ∀ j, C ≤ j → (Value.slice av nv cv).ownBlock ≠ some j := fun j hj e => by
      have := (World.ownsRow.lt HV0.out.own j e).2; omega
    have h1 := (HV0.out.alloc (.cells #[.int .u8 6, .string name, .string ⟨#[]⟩, .int .i64 0, .int .i64 0] 63 (0, 0))).alloc (.map #[] 0)
    have hsz : (W.alloc (.cells #[.int .u8 6, .string name, .string ⟨#[]⟩, .int .i64 0, .int .i64 0] 63 (0, 0))).heap.size = C + 1 := by simp [hC]
    refine ⟨h1, ?_, ?_, by omega, Nat.lt_succ_self C, hpl, ho (C + 1) (by omega), ho C (Nat.le_refl _)⟩
    · have := NamesM.made (W.alloc (.cells #[.int .u8 6, .string name, .string ⟨#[]⟩, .int .i64 0, .int .i64 0] 63 (0, 0)))
      rw [hsz] at this; exact this
    · refine heap_old ?_
      rw [← hC]; exact heap_alloc_last _ _)
  obtain ⟨bm, hbm⟩ : ∃ bm, C + 1 = bm := ⟨_, rfl⟩
  rw [hbm] at HI0
  have HV1 := Lib.hid (HV0.out.alloc (.cells #[.int .u8 0, .string name, .string ⟨#[]⟩, .int .i64 0, .int .i64 0] 63 (0, 0)))
  obtain ⟨c0, c1, c2, c3, c4⟩ := HV1.out.st.cells
  have hmm := @run_makeMap Tryz.prog
  clear h hown hop hZ hval hE hnv mm m123 hl0
  go_enter Tryz.func110, Tryz.ntmps110
  go_wp2_with fail
  try simp only [hC, hbm]
  refine (HIS.out _ HI0.out.vp.st).mono ?_; rintro x w1 ⟨rfl, hb⟩
  have HI1 := Lib.hid (HI0.out.below hb)
  clear hb c0 c1 c2 c3 c4 hmm HV1
  have HI2 := HI1
  go_upto_region 8 with fail
  obtain ⟨y5, hy5⟩ : ∃ y5, w1 = y5 := ⟨_, rfl⟩
  rw [hy5] at HI2 ⊢
  clear hy5
  have HY5 := HI2
  have HCEL : Hid (celCells ⟨6, name.data.toList, [], 0, 0⟩ = #[.int .u8 6, .string name, .string ⟨#[]⟩, .int .i64 0, .int .i64 0]) := Lib.hid (by rfl)
  go_cut [] (fun wx => ∃ g6 cap6, p < g6 ∧ Hid (LI p bm C tb off cap T fx W (.slice av nv cv) (.slice (some ⟨g6, 0, none⟩) (nv + 1) cap6) (manyAt nv 0 (L ++ [⟨6, name.data.toList, [], 0, 0⟩])) k op [] #[.int .u8 6, .string name, .string ⟨#[]⟩, .int .i64 0, .int .i64 0] wx))
  case first =>
    have hlt5 := HY5.out.vp.st.lt
    have hC5 := heap_lt HY5.out.cc
    obtain ⟨_, _, _, _, c4⟩ := HY5.out.vp.st.cells
    have e4 : y5.drew.cell? ⟨p, 4, none⟩ = some (.slice av nv cv) := c4
    have e4' : ∀ o, (y5.drew.alloc o).cell? ⟨p, 4, none⟩ = some (.slice av nv cv) := fun o => by
      rw [World.cell?_alloc_lt _ _ _ (by exact hlt5)]; exact c4
    obtain ⟨q0, q1, q2, q3, q4⟩ := ccells (W := y5.drew) HY5.out.cc
    refine wp_region_held_drew (S := fun _ => True) (by kernel_rfl) trivial (fun hHeld => ?_)
    refine tky 0 (some 29) (v := ?_) rfl (by kernel_rfl) (by kernel_rfl) (by kernel_rfl) (fun _ _ _ h => h) ?_ hHeld ?_
    rotate_left
    focus (intro w hSw; go_simp; (try with_reducible rfl); done)
    simp only [Act.put, List.setIfInBounds_toArray, List.set_cons_zero, List.set_cons_succ]
    refine tky 1 (some 30) (v := ?_) rfl (by kernel_rfl) (by kernel_rfl) (by kernel_rfl) (fun _ _ _ h => h) ?_ hHeld ?_
    rotate_left
    focus (intro w hSw; go_simp; (try with_reducible rfl); done)
    simp only [Act.put, List.setIfInBounds_toArray, List.set_cons_zero, List.set_cons_succ]
    refine tky 2 (some 31) (v := ?_) rfl (by kernel_rfl) (by kernel_rfl) (by kernel_rfl) (fun _ _ _ h => h) ?_ hHeld ?_
    rotate_left
    focus (intro w hSw; go_simp; (try with_reducible rfl); done)
    simp only [Act.put, List.setIfInBounds_toArray, List.set_cons_zero, List.set_cons_succ]
    refine tky 3 (some 32) (v := ?_) rfl (by kernel_rfl) (by kernel_rfl) (by kernel_rfl) (fun _ _ _ h => h) ?_ hHeld ?_
    rotate_left
    focus (intro w hSw; go_simp; (try with_reducible rfl); done)
    simp only [Act.put, List.setIfInBounds_toArray, List.set_cons_zero, List.set_cons_succ]
    refine wpAnyH_ready (rs := [4, 5]) (by kernel_rfl) (by simp) ?_
    refine acons 4 rfl (fun K hK => ?_) ?_
    go_simp
    refine hK.out _ _ trivial (fun _ => ?_)
    clear hK K
    (try simp only [Act.put, List.setIfInBounds_toArray, List.set_cons_zero, List.set_cons_succ])
    refine rcons 5 rfl (by kernel_rfl) (fun K hK => ?_)
    go_simp
    refine hK.out _ _ trivial (fun _ => ?_)
    clear hK K
    (try simp only [Act.put, List.setIfInBounds_toArray, List.set_cons_zero, List.set_cons_succ])
    refine rcons 6 rfl (by kernel_rfl) (fun K hK => ?_)
    go_simp
    refine hK.out _ _ trivial (fun _ => ?_)
    clear hK K
    (try simp only [Act.put, List.setIfInBounds_toArray, List.set_cons_zero, List.set_cons_succ])
    rotate_left
    refine acons 5 rfl (fun K hK => ?_) ?_
    go_simp
    refine hK.out _ _ trivial (fun _ => ?_)
    clear hK K
    (try simp only [Act.put, List.setIfInBounds_toArray, List.set_cons_zero, List.set_cons_succ])
    refine wpAnyH_ready (rs := [4, 6]) (by kernel_rfl) (by simp) ?_
    refine acons 4 rfl (fun K hK => ?_) ?_
    go_simp
    refine hK.out _ _ trivial (fun _ => ?_)
    clear hK K
    (try simp only [Act.put, List.setIfInBounds_toArray, List.set_cons_zero, List.set_cons_succ])
    refine rcons 6 rfl (by kernel_rfl) (fun K hK => ?_)
    go_simp
    refine hK.out _ _ trivial (fun _ => ?_)
    clear hK K
    (try simp only [Act.put, List.setIfInBounds_toArray, List.set_cons_zero, List.set_cons_succ])
    rotate_left
    refine acons 6 rfl (fun K hK => ?_) ?_
    go_simp
    refine hK.out _ _ trivial (fun _ => ?_)
    clear hK K
    (try simp only [Act.put, List.setIfInBounds_toArray, List.set_cons_zero, List.set_cons_succ])
    refine rcons 4 rfl (by kernel_rfl) (fun K hK => ?_)
    go_simp
    refine hK.out _ _ trivial (fun _ => ?_)
    clear hK K
    (try simp only [Act.put, List.setIfInBounds_toArray, List.set_cons_zero, List.set_cons_succ])
    rotate_left
    exact AllReadyH.nil
    exact AllReadyH.nil
    all_goals
      refine rcons 7 rfl (by kernel_rfl) (fun K hK => ?_)
      rw [if_pos]
      rotate_left
      focus kernel_rfl
      refine wp_pushL _ _ rfl (p + 1) (.slice av nv cv) L rfl (by exact ((HY5.out.vp.drewN 1).alloc _).own) y5.heap.size 1 ⟨6, name.data.toList, [], 0, 0⟩ rfl (by rw [HCEL.out]; exact heap_alloc_last y5.drew _) (by omega) (by show _ ≤ Array.size _; simp; omega) ?_
      intro v' y6 hown' hgrow hat
      obtain ⟨g6, cap6, hvg, hpg6, -⟩ := hown'.form L.length (by simp)
      rw [hol] at hvg
      subst hvg
      have hbl : Below y5.heap.size y5 (World.alloc y5.drew (.cells #[.int .u8 6, .string name, .string ⟨#[]⟩, .int .i64 0, .int .i64 0] 63 (0, 0))) := (below_dN 1 (Below.refl y5.heap.size y5)).alloc (Nat.le_refl _) _
      obtain ⟨hst6, hy6⟩ := (HY5.out.below hbl).grown hown' hgrow hat rfl
      have HY6 := Lib.hid hy6
      obtain ⟨_, _, _, _, g4⟩ := hst6.cells
      have f6 := hst6.frozen 4
      clear hown' hgrow hat hst6 hy6 hbl
      (try dsimp only)
      refine hK.out _ _ trivial (fun _ => ?_)
      clear hK K
      (try simp only [Act.put, List.setIfInBounds_toArray, List.set_cons_zero, List.set_cons_succ])
      refine tky 8 (some 37) (v := ?_) rfl (by kernel_rfl) (by kernel_rfl) (by kernel_rfl) (fun _ _ _ h => h) ?_ hHeld ?_
      rotate_left
      focus (intro w hSw; go_simp; (try with_reducible rfl); done)
      simp only [Act.put, List.setIfInBounds_toArray, List.set_cons_zero, List.set_cons_succ]
      refine tky 9 (some 38) (v := ?_) rfl (by kernel_rfl) (by kernel_rfl) (by kernel_rfl) (fun _ _ _ h => h) ?_ hHeld ?_
      rotate_left
      focus (intro w hSw; go_simp; (try with_reducible rfl); done)
      simp only [Act.put, List.setIfInBounds_toArray, List.set_cons_zero, List.set_cons_succ]
      refine rcons 10 rfl (by kernel_rfl) (fun K hK => ?_)
      go_simp
      refine hK.out _ _ trivial (fun _ => ?_)
      clear hK K
      (try simp only [Act.put, List.setIfInBounds_toArray, List.set_cons_zero, List.set_cons_succ])
      refine wpAnyH_done (by kernel_rfl) ?_ _
      go_wp2_with fail
      go_meet
      exact ⟨g6, cap6, hpg6, by rw [HL0.out]; exact HY6⟩
  case rest =>
    obtain ⟨g6, cap6, hpg6, HY6⟩ := hcut
    obtain ⟨c0, c1, c2, c3, c4⟩ := HY6.out.vp.st.cells
    have f1 := HY6.out.vp.st.frozen 1
    have f2 := HY6.out.vp.st.frozen 2
    have f3 := HY6.out.vp.st.frozen 3
    have HY8 := Lib.hid ((HY6.out.go (k + 1) (by omega)).op_ (op + 1))
    go_wp2_with fail
    go_loopg [7] (T.length + 1) (fun gk nm7 wr => ∃ (n k1 : Nat) (nm : List (List UInt8)) (out : List Cel) (v1 : Value), k1 ≤ T.length ∧ T.length + 1 < gk + k1 ∧ n + nv < out.length ∧ nm.length ≤ n ∧ out.length ≤ 2048 ∧ Hid (LI p bm C tb off cap T fx W (.slice av nv cv) v1 (manyAt nv n out) k1 (op + 1) nm #[.int .u8 6, .string name, .string ⟨#[]⟩, .int .i64 0, .int .i64 0] wr) ∧ Hid (finP nv (itmP (valP fx T d) false T gk n nm k1 out) = Z))
    case atStart => exact ⟨0, k + 1, [], _, _, by omega, by omega, by rw [hol]; omega, Nat.le_refl _, by rw [hol]; omega, HY8, HZ0⟩
    case round =>
      clear c0 c1 c2 c3 c4 f1 f2 f3 HY6 HY8 HZ0 HI0 HI1 HI2 HY5 HL0
      rename World => wr
      obtain ⟨n, k1, nm, out, v1, hkT, hg, hn, hnm, hout, HI, HQ⟩ := hrel
      obtain ⟨g, rfl⟩ : ∃ g, gk = g + 1 := ⟨gk - 1, by omega⟩
      have hpb : p < bm := by have := HI.out.lo; have := HI.out.lt; have := HI.out.pl; omega
      cases ht : mrkP T k1 [93] with
      | true =>
        have HZ : Hid (.ok (k1 + 1, manyAt nv n out) = Z) := Lib.hid (by have := HQ.out; rw [itmP_end (isO := false) ht] at this; exact this)
        go_wp2_with fail
        refine (l_mark_yes (what := ⟨#[93]⟩) ht _ HI.out.vp.st (by omega)).mono ?_; rintro x w3 ⟨rfl, hst, hk3⟩
        have HI3 := Lib.hid (HI.out.rk hst hk3)
        clear hst hk3 ht HQ HI
        obtain ⟨c0, c1, c2, c3, c4⟩ := HI3.out.vp.st.cells
        have f3 := HI3.out.vp.st.frozen 3
        have q7 : IntKind.i64.wrap (op + 1 - 1) = op := by rw [IntWalk.i64_in _ (by omega)]; omega
        have q8 : op + 1 - 1 = op := by omega
        have q9 : IntKind.i64.wrap op = op := IntWalk.i64_in _ (by omega)
        have HV4 := Lib.hid (HI3.out.vp.op_ op)
        go_wp2_with fail
        go_end0
        rw [← HZ.out]
        exact ⟨rfl, by rw [manyln]; exact hout, _, HV4.out⟩
      | false =>
        have HQ1 := Lib.hid (itmP_go (val := valP fx T d) (isO := false) (f := g) (n := n) (nm := nm) (out := out) ht)
        rw [HQ1.out] at HQ
        clear HQ1
        go_wp2_with fail
        refine (l_mark_not (what := ⟨#[93]⟩) ht _ HI.out.vp.st (by omega)).mono ?_; rintro x w3 ⟨rfl, hst, hk3⟩
        have HI3 := Lib.hid (HI.out.rk hst hk3)
        clear hst hk3 ht HI
        obtain ⟨q0, q1, q2, q3, q4⟩ := ccells HI3.out.cc
        go_wp2_with fail
        simp only [Bool.false_eq_true, if_false] at HQ
        clear q0 q1 q2 q3 q4
        have HVA := Lib.hid (HVL.out ⟨#[]⟩ (k1) (manyAt nv n out) v1 _ HI3.out.vp.st HI3.out.vp.own (by rw [manyln]; exact hout) (by omega) (fun W2 h2 => HEE.out _ (HI3.out.vp.vk.1.trans h2)))
        have hal := val_alk fx T d (([] : List UInt8)) (k1) (manyAt nv n out) out (manyln _ _ _)
        have hon := val_on fx T d (([] : List UInt8)) (k1) (manyAt nv n out)
        rw [show (⟨#[]⟩ : ByteArray).data.toList = ([] : List UInt8) from rfl] at HVA
        cases hx : valP fx T d (([] : List UInt8)) (k1) (manyAt nv n out) with
        | error e =>
          rw [hx] at HVA hal
          have hal2 : valP fx T d (([] : List UInt8)) (k1) out = .error e := hal
          have HZ : Hid (.error e = Z) := Lib.hid (by have := HQ.out; simp only [hal2] at this; exact this)
          clear hx hal hal2 hon HQ
          refine HVA.out.mono ?_; rintro x wb hvx
          obtain ⟨hxe, hbb⟩ := hvx.err
          have HBB := Lib.hid (HI3.out.vp.vk.1.trans hbb)
          clear hvx hbb
          subst hxe
          go_wp2_with fail
          refine ⟨rfl, ?_⟩
          rw [← HZ.out]
          exact ⟨rfl, HBB.out⟩
        | ok y =>
          obtain ⟨k4, out4⟩ := y
          obtain ⟨hk4, hk4T⟩ := hon _ _ hx
          rw [hx] at HVA hal
          obtain ⟨new, rfl, hnew, hal2⟩ := hal
          have HQ4 : Hid (finP nv (itmP (valP fx T d) false T g (n + 1) nm k4 (out ++ new)) = Z) := Lib.hid (by have := HQ.out; simp only [hal2] at this; exact this)
          rw [many_app2 nv n out new (by omega)] at HVA
          clear hx hal2 HQ
          refine HVA.out.mono ?_; rintro x wb hvx
          obtain ⟨hxe, ho2, v2, hvp⟩ := hvx.ok_
          have HIB := Lib.hid (HI3.out.val hvp)
          clear hvx hvp HVA
          subst hxe
          have hol2 : (out ++ new).length ≤ 2048 := by rw [manyln] at ho2; exact ho2
          have hln : n + 1 + nv < (out ++ new).length := by rw [List.length_append]; omega
          clear ho2
          generalize out ++ new = X at HIB HQ4 hol2 hln
          have hkl : nv < (manyAt nv n X).length := by rw [manyln]; omega
          obtain ⟨g1, cap1, hv1, hBg, hgl, hfz, ck0, ck2, ck3, ck4⟩ := HIB.out.vp.own.form nv hkl
          rw [many_at] at ck4
          have hff := hfz (nv * 5 + 4)
          have hpg1 : p < g1 := by omega
          have HIC := Lib.hid (HIB.out.set (u := .int .i64 ((n + 1 : Nat) : Int)) (i := nv * 5 + 4) (out' := manyAt nv (n + 1) X) hv1 hpg1 (by rw [manyln, manyln]) (by rw [← many_many nv n (n + 1) X]; exact celFlat_set4 _ _ _))
          rw [manyln] at hv1
          obtain ⟨n6, hn6⟩ : ∃ n6, X.length = n6 := ⟨_, rfl⟩
          rw [hn6] at hv1
          obtain ⟨d0, d1, d2, d3, d4⟩ := HIB.out.vp.st.cells
          have q10 : (nv : Int) < (n6 : Int) := by omega
          have q11 : (nv : Int).toNat = nv := by omega
          have q12 : (0 : Int) ≤ (nv : Int) := by omega
          have q13 : nv < n6 := by omega
          have q14 : IntKind.i64.wrap ((n : Int) + 1) = ((n + 1 : Nat) : Int) := by rw [IntWalk.i64_in _ (by omega)]; omega
          clear ck0 ck2 ck3 hfz hn6
          subst hv1
          go_wp2_with fail
          go_roundg g
          case measure => omega
          case rel => exact ⟨n + 1, k4, nm, X, _, hk4T, by omega, hln, by first | omega | (simp; omega), hol2, HIC, HQ4⟩
end Go.Proofs.YtgaknbnhmoddcaaGreatDoor
namespace Go.Proofs.YtgaknbnhmoddcaaGreatDoor
open Go.RowKit Go.Lib
theorem l_man (d : Nat) (hval : ∀ e, d = e + 1 → LValSpec e) : LManSpec d := by
  intro p tb off cap T fx k op v L name W hop h0 h hown hL hk ho hE
  unfold opnP at ho
  cases hm : mrkP T k [123] with
  | true =>
    cases d with
    | zero => exact l_many_obj_0 p tb off cap T fx k op v L name W hop h hown hL hk hm
    | succ d => exact l_many_obj d (hval d rfl) p tb off cap T fx k op v L name W hop h0 h hown hL hk hm hE
  | false =>
    rw [hm, Bool.or_false] at ho
    cases d with
    | zero => exact l_many_list_0 p tb off cap T fx k op v L name W hop h hown hL hk ho
    | succ d => exact l_many_list d (hval d rfl) p tb off cap T fx k op v L name W hop h0 h hown hL hk ho hE
theorem l_value_step (d : Nat) (hm : LManSpec d) : LValSpec d := by
  intro p tb off cap T fx k op v L name W hop h0 h hown hL hk hE
  cases hb : begP fx T k with
  | false =>
    rw [valP_bad fx T d _ k L hb]
    exact l_value_bad v L name W h hown hL hk hb
  | true =>
    by_cases hf : L.length = 2048
    · rw [valP_full fx T d _ k L hb hf]
      cases h91 : mrkP T k [91] with
      | true => exact l_value_full_list v L name W h hown hL hk hf h91
      | false =>
        cases h123 : mrkP T k [123] with
        | true => exact l_value_full_obj v L name W h hown hL hk hf h123
        | false =>
          by_cases h1 : (lookP T k).kind = 1
          · exact l_value_full1 v L name W h hown hL hk hf h1
          · by_cases h2 : (lookP T k).kind = 2
            · exact l_value_full2 v L name W h hown hL hk hf h2
            · by_cases h3 : (lookP T k).kind = 3
              · exact l_value_full3 v L name W h hown hL hk hf h3
              · have hv : varP fx T k = true := by
                  unfold begP opnP at hb
                  simpa [h1, h2, h3, h91, h123] using hb
                unfold varP at hv
                simp only [Bool.and_eq_true, Bool.not_eq_true'] at hv
                exact l_value_full_var v L name W h hown hL hk hf hv.1 hv.2
    · cases ho : opnP T k with
      | true =>
        rw [valP_open fx T d _ k L ho hf]
        have ho2 := ho
        unfold opnP at ho2
        cases h91 : mrkP T k [91] with
        | true => exact l_value_many_list v L name W h hown hL hk d hop h0 hE hf h91 hm
        | false =>
          rw [h91, Bool.false_or] at ho2
          exact l_value_many_obj v L name W h hown hL hk d hop h0 hE hf ho2 hm
      | false =>
        rw [valP_leaf fx T d _ k L hb ho hf]
        exact l_value_leaf v L name W h hown hL hk hE hf hb ho
theorem l_value_any : ∀ d : Nat, LValSpec d
  | 0 => l_value_step 0 (l_man 0 fun e h => by omega)
  | d + 1 => l_value_step (d + 1) (l_man (d + 1) fun e h => by
    have : e = d := by omega
    subst this
    exact l_value_any e)
end Go.Proofs.YtgaknbnhmoddcaaGreatDoor
namespace Go.Proofs.YtgaknbnhmoddcaaGreatDoor
open Go.RowKit Go.Lib
/-- What the library's variables hold, whatever is done from a block on. -/
def EnvB (p : Nat) (W : World) : Prop := ∀ W', Below p W W' → EnvU W' ∧ Env W'
theorem EnvB.to {p : Nat} {W W' : World} (h : EnvB p W) (hb : Below p W W') : EnvB p W' := fun W2 h2 => h W2 (hb.trans h2)
theorem EnvB.u {p : Nat} {W : World} (h : EnvB p W) : ∀ W', RK p W W' → EnvU W' := fun W' hk => (h W' hk.1).1
theorem beg_ix (c : UInt8) : decide (Lib.indexByte [123, 91, 34, 116, 102, 110, 45, 48, 49, 50, 51, 52, 53, 54, 55, 56, 57] c < 0) = !begJ c := by
  have := (by decide +kernel : ∀ i : Fin 256, decide (Lib.indexByte [123, 91, 34, 116, 102, 110, 45, 48, 49, 50, 51, 52, 53, 54, 55, 56, 57] (UInt8.ofNat i.val) < 0) = !begJ (UInt8.ofNat i.val)) ⟨c.toNat, UInt8.toNat_lt c⟩
  simpa only [UInt8.ofNat_toNat] using this
end Go.Proofs.YtgaknbnhmoddcaaGreatDoor
namespace Go.Proofs.YtgaknbnhmoddcaaGreatDoor
open Go.RowKit Go.Lib
theorem VPE.ok_ {p : Nat} {w W : World} {v : Value} {op : Int} {t : List UInt8} {out : List Cel} {x : Ending} (h : VPE p w v op (.ok (t, out)) x W) : x = .returned (.tuple #[]) ∧ out.length ≤ 2048 ∧ ∃ v', VP p w v v' out t op W := h
theorem VPE.err {p : Nat} {w W : World} {v : Value} {op : Int} {e : Int} {x : Ending} (h : VPE p w v op (.error e) x W) : x = .panicked (stopL e) ∧ Below p w W := h
end Go.Proofs.YtgaknbnhmoddcaaGreatDoor
namespace Go.Proofs.YtgaknbnhmoddcaaGreatDoor
open Go.RowKit Go.Lib
/-- What Read tells: of any bytes. -/
def rdJ (l : List UInt8) : Except Int (List Cel) := if chkE l = 0 then readJ l else .error (chkE l)
theorem chk_valid (l : List UInt8) (h : chkE l = 0) : l.length ≤ 16384 ∧ validD l = true := by
  unfold chkE at h
  split at h
  · cases h
  · split at h
    · exact ⟨by omega, by assumption⟩
    · cases h
end Go.Proofs.YtgaknbnhmoddcaaGreatDoor
namespace Go.Proofs.YtgaknbnhmoddcaaGreatDoor
open Go.RowKit Go.Lib
theorem catch_idle (q2 q3 : Addr) (w : World) :
    CallsD Tryz.prog 209 #[.pointer (some q2), .pointer (some q3)] .returning w fun e u' w' => e = .returned (.tuple #[]) ∧ u' = .returning ∧ w' = w := by
  refine callsD_of_wpS Tryz.func209 rfl fun c₀ cs hu => ?_
  apply wpS_seq
  apply wpS_region
  simp [wpOpsS, go_sem, recoverD, hu, Tryz.ntmps209, Exit.thenS]
  refine wpS_of_wp ?_
  simp only [List.replicate_succ, List.replicate_zero, Array.replicate, List.setIfInBounds_toArray, List.set_cons_zero, List.set_cons_succ, List.append_toArray, List.cons_append, List.nil_append]
  go_wp2_with fail
  cases c₀
  simp_all [bodyPostS, results, Tryz.results209]
set_option maxRecDepth 100000 in
theorem catch_panicking (b2 b3 : Nat) (x2 : Value) (x3 e : Int) (older : List PanicEntry) (w : World) (hne : b2 ≠ b3) (h2 : w.cell? ⟨b2, 0, none⟩ = some x2) (h3 : w.cell? ⟨b3, 0, none⟩ = some (.int .i64 x3)) (z2 : w.frozen? ⟨b2, 0, none⟩ = false) (z3 : w.frozen? ⟨b3, 0, none⟩ = false) :
    CallsD Tryz.prog 209 #[.pointer (some ⟨b2, 0, none⟩), .pointer (some ⟨b3, 0, none⟩)] (.panicking ({ v := .iface 268 (.agg #[.int .i64 e]), recovered := false } :: older)) w fun e' u' w' =>
      e' = .returned (.tuple #[]) ∧ u' = .panicking ({ v := .iface 268 (.agg #[.int .i64 e]), recovered := true } :: older) ∧ w'.cell? ⟨b2, 0, none⟩ = some (.slice none 0 0) ∧ w'.cell? ⟨b3, 0, none⟩ = some (.int .i64 e) ∧ ∀ B, B ≤ b2 → B ≤ b3 → B ≤ w.heap.size → Below B w w' := by
  have hta : ∀ w, (Instr.typeAssert (.iface 268 (.agg #[.int .i64 e])) 20 268 true).run Tryz.prog w = .ok (.tuple #[.agg #[.int .i64 e], .bool true]) w := fun w => by kernel_rfl
  refine callsD_of_wpS Tryz.func209 rfl fun c₀ cs hu => ?_
  apply wpS_seq
  apply wpS_region
  simp [wpOpsS, go_sem, recoverD, hu, Tryz.ntmps209, Exit.thenS]
  refine wpS_of_wp ?_
  simp only [List.replicate_succ, List.replicate_zero, Array.replicate, List.setIfInBounds_toArray, List.set_cons_zero, List.set_cons_succ, List.append_toArray, List.cons_append, List.nil_append]
  go_wp2_with fail
  have l2 := lt_of_cell h2
  have l3 := lt_of_cell h3
  obtain ⟨n, hn⟩ : ∃ n, w.heap.size = n := ⟨_, rfl⟩
  obtain ⟨w1, hw1⟩ : ∃ w1, w.alloc (.cells #[.int .i64 e] 268) = w1 := ⟨_, rfl⟩
  have g0 : w1.cell? ⟨n, 0, none⟩ = some (.int .i64 e) := by rw [← hw1, ← hn]; exact new_cell0 w _ _
  have g2 : w1.cell? ⟨b2, 0, none⟩ = some x2 := by rw [← hw1, World.cell?_alloc_lt _ _ _ l2]; exact h2
  have g3 : w1.cell? ⟨b3, 0, none⟩ = some (.int .i64 x3) := by rw [← hw1, World.cell?_alloc_lt _ _ _ l3]; exact h3
  have y2 : w1.frozen? ⟨b2, 0, none⟩ = false := by rw [← hw1]; exact (((Below.refl w.heap.size w).alloc (Nat.le_refl _) _).frozen l2).trans z2
  have y3 : w1.frozen? ⟨b3, 0, none⟩ = false := by rw [← hw1]; exact (((Below.refl w.heap.size w).alloc (Nat.le_refl _) _).frozen l3).trans z3
  have n2 : ¬ b2 = n := by omega
  have n3 : ¬ b3 = n := by omega
  have k0 : ∀ u, (w1.setCell ⟨b2, 0, none⟩ u).cell? ⟨n, 0, none⟩ = some (.int .i64 e) := fun u => by
    rw [World.cell?_setCell_other _ _ _ _ (by intro h; injection h with h; exact n2 h)]; exact g0
  have k3 : ∀ u, (w1.setCell ⟨b2, 0, none⟩ u).cell? ⟨b3, 0, none⟩ = some (.int .i64 x3) := fun u => by
    rw [World.cell?_setCell_other _ _ _ _ (by intro h; injection h with h; omega)]; exact g3
  have hb1 : Below n w w1 := by rw [← hw1, ← hn]; exact (Below.refl _ _).alloc (Nat.le_refl _) _
  rw [hn, hw1]
  have HFIN : Hid (∀ wf, wf = ((w1.setCell ⟨b2, 0, none⟩ (.slice none 0 0)).setCell ⟨b3, 0, none⟩ (.int .i64 e)).drew → wf.cell? ⟨b2, 0, none⟩ = some (.slice none 0 0) ∧ wf.cell? ⟨b3, 0, none⟩ = some (.int .i64 e) ∧ ∀ B, B ≤ b2 → B ≤ b3 → B ≤ w.heap.size → Below B w wf) := Lib.hid (by
    rintro wf rfl
    refine ⟨?_, ?_, fun B p2 p3 p1 => ?_⟩
    · show ((w1.setCell ⟨b2, 0, none⟩ (.slice none 0 0)).setCell ⟨b3, 0, none⟩ (.int .i64 e)).cell? ⟨b2, 0, none⟩ = _
      rw [World.cell?_setCell_other _ _ _ _ (by intro h; injection h with h; omega)]
      exact World.cell?_setCell_same _ _ _ g2
    · show ((w1.setCell ⟨b2, 0, none⟩ (.slice none 0 0)).setCell ⟨b3, 0, none⟩ (.int .i64 e)).cell? ⟨b3, 0, none⟩ = _
      exact World.cell?_setCell_same _ _ _ (k3 _)
    · have h0 : Below B w w1 := hb1.mono (by omega)
      exact ((h0.setCell (p := ⟨b2, 0, none⟩) p2 _).setCell (p := ⟨b3, 0, none⟩) p3 _).drew)
  clear hn hw1 h2 h3 z2 z3 l2 l3 n2 n3 hb1
  go_region
  clear g0 g2 g3 y2 y3 k0 k3 hta
  go_wp2_with fail
  cases c₀
  simp only at hu
  subst hu
  simp [bodyPostS, results, Tryz.results209]
  exact HFIN.out _ rfl
/-- What Read tells: of any bytes. -/
def PReadE (B : Nat) (o : Except Int (List Cel)) (x : Ending) (W : World) : Prop := match o with
  | .error e => x = .returned (.tuple #[.slice none 0 0, .int .i64 e])
  | .ok out => out.length ≤ 2048 ∧ ∃ u, x = .returned (.tuple #[u, .int .i64 0]) ∧ OwnC B u out W
theorem OwnC.less {B B' : Nat} {v : Value} {L : List Cel} {W : World} (h : OwnC B v L W) (hB : B' ≤ B) : OwnC B' v L W := by
  obtain ⟨h1, h2⟩ := h
  refine ⟨h1, ?_⟩
  rcases h2 with h2 | ⟨g, cap, cur, hv, hg, hrest⟩
  · exact Or.inl h2
  · exact Or.inr ⟨g, cap, cur, hv, by omega, hrest⟩
set_option maxRecDepth 100000 in
theorem pread_chk (s : ByteArray) (hs : s.size ≤ 1000000) (hc : chkE s.data.toList ≠ 0) (w : World) (hE : EnvU w) :
    Calls Tryz.prog 206 #[.string s] w fun x w' => PReadE (w.heap.size + 1) (rdJ s.data.toList) x w' ∧ Below w.heap.size w w' := by
  have HC := Lib.hid (fun (W : World) (h : Below w.heap.size w W) => tcheck_any s (by omega) W (hE.below h))
  have HZ : Hid (rdJ s.data.toList = .error (chkE s.data.toList)) := Lib.hid (by unfold rdJ; rw [if_neg hc])
  obtain ⟨e, he⟩ : ∃ e, chkE s.data.toList = e := ⟨_, rfl⟩
  rw [he] at HC hc HZ
  have te : (e != 0) = true := by simpa using hc
  have hmf : ∀ (fn : Fn) (first cap : Array Value) (w : World), (Instr.makeFunc fn first cap).run Tryz.prog w = .ok (.func fn first cap) w := fun _ _ _ _ => rfl
  rw [HZ.out]
  clear he hE hc
  go_enter_defers Tryz.func206, Tryz.ntmps206
  go_wp2_with fail
  obtain ⟨w0, hw0⟩ : ∃ w0, ((w.alloc (.cells #[.slice none 0 0] 22)).alloc (.cells #[.int .i64 0] 33)) = w0 := ⟨_, rfl⟩
  have hb0 : Below w.heap.size w w0 := by rw [← hw0]; exact ((Below.refl _ _).alloc (Nat.le_refl _) _).alloc (by simp) _
  have hz0 : w0.heap.size = w.heap.size + 2 := by rw [← hw0]; simp
  have ha0 : w0.heap[w.heap.size]? = some (.cells #[.slice none 0 0] 22 (0, 0)) := by rw [← hw0]; exact heap_old (heap_new _ _ _ rfl)
  have ha1 : w0.heap[w.heap.size + 1]? = some (.cells #[.int .i64 0] 33 (0, 0)) := by rw [← hw0]; exact heap_new _ _ _ (by simp)
  rw [hw0]
  refine (HC.out _ hb0).mono ?_; rintro x w1 ⟨rfl, hb⟩
  have HB1 : Hid (Below w.heap.size w w1) := Lib.hid (hb0.trans (hb.mono (by omega)))
  have HA0 : Hid (w1.heap[w.heap.size]? = some (.cells #[.slice none 0 0] 22 (0, 0))) := Lib.hid ((hb.block _ (by omega)).trans ha0)
  have HA1 : Hid (w1.heap[w.heap.size + 1]? = some (.cells #[.int .i64 0] 33 (0, 0))) := Lib.hid ((hb.block _ (by omega)).trans ha1)
  clear hb0 hb ha0 ha1 hw0 hz0
  have d0 : w1.cell? ⟨w.heap.size, 0, none⟩ = some (.slice none 0 0) := Lib.cell_of_heap HA0.out 0
  have d1 : w1.cell? ⟨w.heap.size + 1, 0, none⟩ = some (.int .i64 0) := Lib.cell_of_heap HA1.out 0
  have z0 : w1.frozen? ⟨w.heap.size, 0, none⟩ = false := Lib.frozen_of_heap HA0.out 0
  have z1 : w1.frozen? ⟨w.heap.size + 1, 0, none⟩ = false := Lib.frozen_of_heap HA1.out 0
  have hlt : w.heap.size + 1 < w1.heap.size := heap_lt HA1.out
  have s0 := RK.set w.heap.size 0 w1 (.slice none 0 0)
  have HF : Hid (Below w.heap.size w ((w1.setCell ⟨w.heap.size, 0, none⟩ (.slice none 0 0)).setCell ⟨w.heap.size + 1, 0, none⟩ (.int .i64 e))) := Lib.hid ((HB1.out.setCell (p := ⟨w.heap.size, 0, none⟩) (Nat.le_refl _) _).setCell (p := ⟨w.heap.size + 1, 0, none⟩) (by show w.heap.size ≤ w.heap.size + 1; omega) _)
  clear s0
  go_wp2_with fail
  simp [bodyPostD, Leaves, settle, results, Tryz.results206, go_sem, d0, d1, z0, z1]
  exact ⟨rfl, HF.out⟩
end Go.Proofs.YtgaknbnhmoddcaaGreatDoor
namespace Go.Proofs.YtgaknbnhmoddcaaGreatDoor
open Go.RowKit Go.Lib
theorem VK.nil {r : Nat} {W W' : World} (h : VK r (.slice none 0 0) W W') : RK r W W' := ⟨h.1, fun k o hk hne => h.2 k o hk hne (by intro e; cases e)⟩
/-- What a literal leaves: its cells in a row of their own, in blocks that were not there. -/
def LitE (p tb off cap : Nat) (T : List Tok) (fx : Bool) (op : Int) (w : World) (o : Except ErrP (Nat × List Cel)) (x : Ending) (W : World) : Prop := match o with
  | .error e => x = .panicked (stopP e) ∧ Below p w W
  | .ok (k, out) => out.length ≤ 2048 ∧ ∃ v, x = .returned v ∧ LS p tb off cap T fx k op v W ∧ OwnC (p + 1) v out W ∧ RK p w W ∧ ∀ j, v.ownBlock = some j → w.heap.size ≤ j
set_option maxRecDepth 100000 in
theorem l_literal {p tb off cap : Nat} {T : List Tok} {fx : Bool} {k : Nat} {v : Value} (W : World) (h : LS p tb off cap T fx k 0 v W) (hk : k ≤ 100000) (hE : ∀ W', Below p W W' → Env W') :
    Calls Tryz.prog 59 #[.pointer (some ⟨p, 0, none⟩)] W (LitE p tb off cap T fx 0 W (litP fx T k)) := by
  have f4 := h.frozen 4
  obtain ⟨c0, c1, c2, c3, c4⟩ := h.cells
  have hp := h.lt
  have HS := Lib.hid (h.out (.slice none 0 0))
  have HR0 := Lib.hid (RK.set p 4 W (.slice none 0 0))
  have HVL := Lib.hid (l_value_any 16 p tb off cap T fx k 0 (.slice none 0 0) [] ⟨#[]⟩ (W.setCell ⟨p, 4, none⟩ (.slice none 0 0)) (by decide) (by decide) HS.out (OwnC.nil _ _) (by decide) hk (fun W' hb => hE W' (HR0.out.1.trans hb)))
  rw [show (⟨#[]⟩ : ByteArray).data.toList = [] from rfl] at HVL
  unfold litP
  generalize valP fx T 16 [] k [] = R at HVL ⊢
  clear hE h
  go_enter Tryz.func59, Tryz.ntmps59
  go_wp2_with fail
  refine HVL.out.mono ?_; rintro x w1 hx
  cases R with
  | error e =>
    obtain ⟨rfl, hb⟩ := hx.err
    have HB := Lib.hid (HR0.out.1.trans hb)
    clear hb hx
    go_wp2_with fail
    exact ⟨rfl, rfl, HB.out⟩
  | ok y =>
    obtain ⟨k9, out9⟩ := y
    obtain ⟨rfl, hl9, v9, hv9⟩ := hx.ok_
    have HV9 := Lib.hid hv9
    obtain ⟨d0, d1, d2, d3, d4⟩ := hv9.st.cells
    clear hv9 hx c0 c1 c2 c3 c4 f4
    go_wp2_with fail
    go_returns
    refine ⟨hl9, v9, rfl, HV9.out.st, HV9.out.own, HR0.out.trans HV9.out.vk.nil, fun j hj => ?_⟩
    rcases HV9.out.ob j hj with e | e
    · cases e
    · simpa using e
end Go.Proofs.YtgaknbnhmoddcaaGreatDoor
namespace Go.Proofs.YtgaknbnhmoddcaaGreatDoor
open Go.RowKit Go.Lib
/-- What a reader's step leaves that makes a row. -/
def DoV {α : Type} (p tb off cap : Nat) (T : List Tok) (fx : Bool) (R : Except ErrP (Nat × α)) (G : α → Value → World → Prop) (W : World) (x : Ending) (W' : World) : Prop := match R with
  | .error e => x = .panicked (stopP e) ∧ Below p W W'
  | .ok (k', y) => ∃ a n c op v, x = .returned (.slice a n c) ∧ G y (.slice a n c) W' ∧ LS p tb off cap T fx k' op v W' ∧ RK p W W'
/-- What is read, as a row. -/
def ReadV {α : Type} (R : Except ErrP (Nat × α)) (G : α → Value → World → Prop) (x : Ending) (W' : World) : Prop := match R with
  | .error e => x = .returned (.tuple #[.slice none 0 0, .int .i64 e.2, .int .i64 e.1])
  | .ok (k', y) => ∃ a n c, x = .returned (.tuple #[.slice a n c, .int .i64 k', .int .i64 0]) ∧ G y (.slice a n c) W'
theorem lcatch_idle_c (q1 q2 q3 : Addr) (w : World) :
    CallsD Tryz.prog 90 #[.pointer (some q1), .pointer (some q2), .pointer (some q3)] .returning w fun e u' w' => e = .returned (.tuple #[]) ∧ u' = .returning ∧ w' = w := by
  refine callsD_of_wpS Tryz.func90 rfl fun c₀ cs hu => ?_
  apply wpS_seq
  apply wpS_region
  simp [wpOpsS, go_sem, recoverD, hu, Tryz.ntmps90, Exit.thenS]
  refine wpS_of_wp ?_
  simp only [List.replicate_succ, List.replicate_zero, Array.replicate, List.setIfInBounds_toArray, List.set_cons_zero, List.set_cons_succ, List.append_toArray, List.cons_append, List.nil_append]
  go_wp2_with fail
  cases c₀
  simp_all [bodyPostS, results, Tryz.results90]
set_option maxRecDepth 100000 in
theorem lcatch_panicking_c (b1 b2 b3 : Nat) (x1 : Value) (x2 x3 : Int) (e : ErrP) (older : List PanicEntry) (w : World) (n12 : b1 < b2) (n23 : b2 < b3) (h1 : w.cell? ⟨b1, 0, none⟩ = some x1) (h2 : w.cell? ⟨b2, 0, none⟩ = some (.int .i64 x2)) (h3 : w.cell? ⟨b3, 0, none⟩ = some (.int .i64 x3)) (z1 : w.frozen? ⟨b1, 0, none⟩ = false) (z2 : w.frozen? ⟨b2, 0, none⟩ = false) (z3 : w.frozen? ⟨b3, 0, none⟩ = false) :
    CallsD Tryz.prog 90 #[.pointer (some ⟨b1, 0, none⟩), .pointer (some ⟨b2, 0, none⟩), .pointer (some ⟨b3, 0, none⟩)] (.panicking ({ v := .iface 143 (.agg #[.int .i64 e.1, .int .i64 e.2]), recovered := false } :: older)) w fun e' u' w' =>
      e' = .returned (.tuple #[]) ∧ u' = .panicking ({ v := .iface 143 (.agg #[.int .i64 e.1, .int .i64 e.2]), recovered := true } :: older) ∧ w'.cell? ⟨b1, 0, none⟩ = some (.slice none 0 0) ∧ w'.cell? ⟨b2, 0, none⟩ = some (.int .i64 e.2) ∧ w'.cell? ⟨b3, 0, none⟩ = some (.int .i64 e.1) ∧ ∀ B, B ≤ b1 → B ≤ w.heap.size → Below B w w' := by
  obtain ⟨e1, e2⟩ := e
  obtain ⟨j2, hj2⟩ : ∃ j2 : Int, (e2 : Int) = j2 := ⟨_, rfl⟩
  simp only [hj2]
  have hta : ∀ w, (Instr.typeAssert (.iface 143 (.agg #[.int .i64 e1, .int .i64 j2])) 20 143 false).run Tryz.prog w = .ok (.agg #[.int .i64 e1, .int .i64 j2]) w := fun w => by kernel_rfl
  have hf0 : ∀ w, (Instr.field 143 (.agg #[.int .i64 e1, .int .i64 j2]) 0).run Tryz.prog w = .ok (.int .i64 e1) w := fun w => by kernel_rfl
  have hf1 : ∀ w, (Instr.field 143 (.agg #[.int .i64 e1, .int .i64 j2]) 1).run Tryz.prog w = .ok (.int .i64 j2) w := fun w => by kernel_rfl
  refine callsD_of_wpS Tryz.func90 rfl fun c₀ cs hu => ?_
  apply wpS_seq
  apply wpS_region
  simp [wpOpsS, go_sem, recoverD, hu, Tryz.ntmps90, Exit.thenS]
  refine wpS_of_wp ?_
  simp only [List.replicate_succ, List.replicate_zero, Array.replicate, List.setIfInBounds_toArray, List.set_cons_zero, List.set_cons_succ, List.append_toArray, List.cons_append, List.nil_append]
  go_wp2_with fail
  have k12 : ¬ b1 = b2 := by omega
  have k13 : ¬ b1 = b3 := by omega
  have k23 : ¬ b2 = b3 := by omega
  have k21 : ¬ b2 = b1 := by omega
  have k31 : ¬ b3 = b1 := by omega
  have k32 : ¬ b3 = b2 := by omega
  have HFIN : Hid (∀ wf, wf = (((w.setCell ⟨b1, 0, none⟩ (.slice none 0 0)).setCell ⟨b2, 0, none⟩ (.int .i64 j2)).setCell ⟨b3, 0, none⟩ (.int .i64 e1)).drew → wf.cell? ⟨b1, 0, none⟩ = some (.slice none 0 0) ∧ wf.cell? ⟨b2, 0, none⟩ = some (.int .i64 j2) ∧ wf.cell? ⟨b3, 0, none⟩ = some (.int .i64 e1) ∧ ∀ B, B ≤ b1 → B ≤ w.heap.size → Below B w wf) := Lib.hid (by
    rintro wf rfl
    have m2 : (w.setCell ⟨b1, 0, none⟩ (.slice none 0 0)).cell? ⟨b2, 0, none⟩ = some (.int .i64 x2) := by
      rw [World.cell?_setCell_other _ _ _ _ (by intro h; injection h with h; omega)]; exact h2
    have m3 : ((w.setCell ⟨b1, 0, none⟩ (.slice none 0 0)).setCell ⟨b2, 0, none⟩ (.int .i64 j2)).cell? ⟨b3, 0, none⟩ = some (.int .i64 x3) := by
      rw [World.cell?_setCell_other _ _ _ _ (by intro h; injection h with h; omega), World.cell?_setCell_other _ _ _ _ (by intro h; injection h with h; omega)]; exact h3
    refine ⟨?_, ?_, ?_, fun B p1 p0 => ?_⟩
    · show (((w.setCell ⟨b1, 0, none⟩ (.slice none 0 0)).setCell ⟨b2, 0, none⟩ (.int .i64 j2)).setCell ⟨b3, 0, none⟩ (.int .i64 e1)).cell? ⟨b1, 0, none⟩ = _
      rw [World.cell?_setCell_other _ _ _ _ (by intro h; injection h with h; omega), World.cell?_setCell_other _ _ _ _ (by intro h; injection h with h; omega)]
      exact World.cell?_setCell_same _ _ _ h1
    · show (((w.setCell ⟨b1, 0, none⟩ (.slice none 0 0)).setCell ⟨b2, 0, none⟩ (.int .i64 j2)).setCell ⟨b3, 0, none⟩ (.int .i64 e1)).cell? ⟨b2, 0, none⟩ = _
      rw [World.cell?_setCell_other _ _ _ _ (by intro h; injection h with h; omega)]
      exact World.cell?_setCell_same _ _ _ m2
    · show (((w.setCell ⟨b1, 0, none⟩ (.slice none 0 0)).setCell ⟨b2, 0, none⟩ (.int .i64 j2)).setCell ⟨b3, 0, none⟩ (.int .i64 e1)).cell? ⟨b3, 0, none⟩ = _
      exact World.cell?_setCell_same _ _ _ m3
    · exact (((((Below.refl B w)).setCell (p := ⟨b1, 0, none⟩) p1 _).setCell (p := ⟨b2, 0, none⟩) (by show B ≤ b2; omega) _).setCell (p := ⟨b3, 0, none⟩) (by show B ≤ b3; omega) _).drew)
  go_region
  clear h1 h2 h3 z1 z2 z3 k12 k13 k23 k21 k31 k32 hta hf0 hf1
  go_wp2_with fail
  cases c₀
  simp only at hu
  subst hu
  simp [bodyPostS, results, Tryz.results90]
  exact HFIN.out _ rfl
set_option maxRecDepth 100000 in
theorem lread_bad_c (a : Option Addr) (n cap : Nat) (at_ : Int) (fx : Bool) (fv : Value) (hn : n ≤ 1000000) (ha : at_ < 0 ∨ (n : Int) ≤ at_) (w : World) :
    Calls Tryz.prog 58 #[.slice a n cap, .int .i64 at_, .bool fx, fv] w fun x w' => x = .returned (.tuple #[.slice none 0 0, .int .i64 0, .int .i64 2]) ∧ Below w.heap.size w w' := by
  by_cases h0 : at_ < 0
  · go_enter_defers Tryz.func58, Tryz.ntmps58
    go_wp2_with fail
    obtain ⟨wf, hwf⟩ : ∃ wf, (((w.alloc (.cells #[.slice none 0 0] 22 (0, 0))).alloc (.cells #[.int .i64 0] 3 (0, 0))).alloc (.cells #[.int .i64 2] 33 (0, 0))) = wf := ⟨_, rfl⟩
    have d0 : wf.cell? ⟨w.heap.size, 0, none⟩ = some (.slice none 0 0) := by rw [← hwf]; exact Lib.cell_of_heap (heap_old (heap_old (heap_new _ _ _ rfl))) 0
    have d1 : wf.cell? ⟨w.heap.size + 1, 0, none⟩ = some (.int .i64 0) := by rw [← hwf]; exact Lib.cell_of_heap (heap_old (heap_new _ _ _ (by simp))) 0
    have d2 : wf.cell? ⟨w.heap.size + 1 + 1, 0, none⟩ = some (.int .i64 2) := by rw [← hwf]; exact Lib.cell_of_heap (heap_new _ _ _ (by simp)) 0
    have HF : Hid (Below w.heap.size w wf) := Lib.hid (by rw [← hwf]; exact (((Below.refl _ _).alloc (Nat.le_refl _) _).alloc (by simp) _).alloc (by simp; omega) _)
    rw [hwf]
    simp [bodyPostD, Leaves, settle, results, Tryz.results58, go_sem, d0, d1, d2]
    exact HF.out
  · have h1 : (n : Int) ≤ at_ := by omega
    go_enter_defers Tryz.func58, Tryz.ntmps58
    go_wp2_with fail
    obtain ⟨wf, hwf⟩ : ∃ wf, (((w.alloc (.cells #[.slice none 0 0] 22 (0, 0))).alloc (.cells #[.int .i64 0] 3 (0, 0))).alloc (.cells #[.int .i64 2] 33 (0, 0))) = wf := ⟨_, rfl⟩
    have d0 : wf.cell? ⟨w.heap.size, 0, none⟩ = some (.slice none 0 0) := by rw [← hwf]; exact Lib.cell_of_heap (heap_old (heap_old (heap_new _ _ _ rfl))) 0
    have d1 : wf.cell? ⟨w.heap.size + 1, 0, none⟩ = some (.int .i64 0) := by rw [← hwf]; exact Lib.cell_of_heap (heap_old (heap_new _ _ _ (by simp))) 0
    have d2 : wf.cell? ⟨w.heap.size + 1 + 1, 0, none⟩ = some (.int .i64 2) := by rw [← hwf]; exact Lib.cell_of_heap (heap_new _ _ _ (by simp)) 0
    have HF : Hid (Below w.heap.size w wf) := Lib.hid (by rw [← hwf]; exact (((Below.refl _ _).alloc (Nat.le_refl _) _).alloc (by simp) _).alloc (by simp; omega) _)
    rw [hwf]
    simp [bodyPostD, Leaves, settle, results, Tryz.results58, go_sem, d0, d1, d2]
    exact HF.out
set_option maxRecDepth 100000 in
set_option maxHeartbeats 4000000 in
theorem lread_go_c {α : Type} {tb off cap : Nat} {T : List Tok} {fx : Bool} {k : Nat} (w : World) (hr : TokRow tb off T w) (htb : tb < w.heap.size) (hT : T.length ≤ 100000 ∧ ∀ t ∈ T, t.text.length ≤ 100000) (hk : k < T.length)
    (R : Except ErrP (Nat × α)) (G : α → Value → World → Prop) (hG : ∀ y u W W' q, q ≤ w.heap.size + 2 → RK q W W' → G y u W → G y u W')
    (hdo : ∀ W, LS (w.heap.size + 3) tb off cap T fx k 0 (.slice none 0 0) W → Below w.heap.size w W → Calls Tryz.prog 59 #[.pointer (some ⟨w.heap.size + 3, 0, none⟩)] W (DoV (w.heap.size + 3) tb off cap T fx R G W)) :
    Calls Tryz.prog 58 #[.slice (some ⟨tb, off, none⟩) T.length cap, .int .i64 (k : Int), .bool fx, .func (.func 59) #[] #[]] w fun x w' => ReadV R G x w' ∧ Below w.heap.size w w' := by
  have HDO := Lib.hid hdo
  have HG := Lib.hid hG
  have HR := Lib.hid hr
  have hT1 := hT.1
  have HT := Lib.hid hT
  have hT0 : T.length ≤ 9223372036854775807 := by omega
  have hnk : ¬ (T.length : Int) ≤ (k : Int) := by omega
  have hk0 : ¬ (k : Int) < 0 := by omega
  have hmf : ∀ (fn : Fn) (first cap : Array Value) (w : World), (Instr.makeFunc fn first cap).run Tryz.prog w = .ok (.func fn first cap) w := fun _ _ _ _ => rfl
  have hent := enters_of Tryz.func59 (by kernel_rfl) rfl
  clear hdo hG hr hT
  go_enter_defers Tryz.func58, Tryz.ntmps58
  go_wp2_with fail
  obtain ⟨w2, hw2⟩ : ∃ w2, ((((w.alloc (.cells #[.slice none 0 0] 22 (0, 0))).alloc (.cells #[.int .i64 0] 3 (0, 0))).alloc (.cells #[.int .i64 0] 33 (0, 0))).alloc (.cells #[.slice (some ⟨tb, off, none⟩) T.length cap, .int .i64 (k : Int), .bool fx, .int .i64 0, .slice none 0 0] 147 (0, 0))) = w2 := ⟨_, rfl⟩
  have hw2d := hw2
  rw [hw2]
  have ha1 : w2.heap[w.heap.size]? = some (.cells #[.slice none 0 0] 22 (0, 0)) := by rw [← hw2d]; exact heap_old (heap_old (heap_old (heap_new _ _ _ rfl)))
  have ha2 : w2.heap[w.heap.size + 1]? = some (.cells #[.int .i64 0] 3 (0, 0)) := by rw [← hw2d]; exact heap_old (heap_old (heap_new _ _ _ (by simp)))
  have ha3 : w2.heap[w.heap.size + 1 + 1]? = some (.cells #[.int .i64 0] 33 (0, 0)) := by rw [← hw2d]; exact heap_old (heap_new _ _ _ (by simp))
  have hap : w2.heap[w.heap.size + 3]? = some (.cells #[.slice (some ⟨tb, off, none⟩) T.length cap, .int .i64 (k : Int), .bool fx, .int .i64 0, .slice none 0 0] 147 (0, 0)) := by rw [← hw2d]; exact heap_new _ _ _ (by simp)
  have hbw : Below w.heap.size w w2 := by
    rw [← hw2d]
    exact ((((Below.refl _ _).alloc (Nat.le_refl _) _).alloc (by simp) _).alloc (by simp; omega) _).alloc (by simp; omega) _
  have HLS : Hid (LS (w.heap.size + 3) tb off cap T fx k 0 (.slice none 0 0) w2) := Lib.hid ⟨hap, HR.out.below hbw htb, by omega, HT.out, by omega⟩
  have HBW := Lib.hid hbw
  have HA1 := Lib.hid ha1
  have HA2 := Lib.hid ha2
  have HA3 := Lib.hid ha3
  clear ha1 ha2 ha3 hap hbw hw2 hw2d
  refine (HDO.out w2 HLS.out HBW.out).mono ?_; rintro x w3 hx
  have HX := Lib.hid hx
  clear hx
  cases R with
  | error e =>
    obtain ⟨hxe, hb3⟩ : x = .panicked (stopP e) ∧ Below (w.heap.size + 3) w2 w3 := HX.out
    have HZ1 : Hid (w3.heap[w.heap.size]? = some (.cells #[.slice none 0 0] 22 (0, 0))) := Lib.hid ((hb3.block _ (by omega)).trans HA1.out)
    have HZ2 : Hid (w3.heap[w.heap.size + 1]? = some (.cells #[.int .i64 0] 3 (0, 0))) := Lib.hid ((hb3.block _ (by omega)).trans HA2.out)
    have HZ3 : Hid (w3.heap[w.heap.size + 1 + 1]? = some (.cells #[.int .i64 0] 33 (0, 0))) := Lib.hid ((hb3.block _ (by omega)).trans HA3.out)
    have HBZ : Hid (Below w.heap.size w w3) := Lib.hid (HBW.out.trans (hb3.mono (by omega)))
    clear hb3 HX
    subst hxe
    go_wp2_with fail
    refine leaves_cons (f := 90) (args := #[.pointer (some ⟨w.heap.size, 0, none⟩), .pointer (some ⟨w.heap.size + 1, 0, none⟩), .pointer (some ⟨w.heap.size + 1 + 1, 0, none⟩)]) (by simp) (by simp [go_sem]) ?_
    refine (lcatch_panicking_c w.heap.size (w.heap.size + 1) (w.heap.size + 1 + 1) (.slice none 0 0) 0 0 e [] _ (by omega) (by omega) (Lib.cell_of_heap HZ1.out 0) (Lib.cell_of_heap HZ2.out 0) (Lib.cell_of_heap HZ3.out 0) (Lib.frozen_of_heap HZ1.out 0) (Lib.frozen_of_heap HZ2.out 0) (Lib.frozen_of_heap HZ3.out 0)).mono ?_
    rintro x u wf ⟨rfl, rfl, m0, m1, m2, hbf⟩
    have HBF : Hid (Below w.heap.size w wf) := Lib.hid (HBZ.out.trans (hbf _ (Nat.le_refl _) HBZ.out.size))
    clear hbf
    simp [Leaves, settle, results, Tryz.results58, go_sem, m0, m1, m2]
    exact ⟨rfl, HBF.out⟩
  | ok ky =>
    obtain ⟨k', y⟩ := ky
    obtain ⟨av, nv, cv, op', v', hxe, hg, hls, hrk⟩ : ∃ a n c op v, x = .returned (.slice a n c) ∧ G y (.slice a n c) w3 ∧ LS (w.heap.size + 3) tb off cap T fx k' op v w3 ∧ RK (w.heap.size + 3) w2 w3 := HX.out
    have HZ1 : Hid (w3.heap[w.heap.size]? = some (.cells #[.slice none 0 0] 22 (0, 0))) := Lib.hid (hrk.2 _ _ HA1.out (by omega))
    have HZ2 : Hid (w3.heap[w.heap.size + 1]? = some (.cells #[.int .i64 0] 3 (0, 0))) := Lib.hid (hrk.2 _ _ HA2.out (by omega))
    have HZ3 : Hid (w3.heap[w.heap.size + 1 + 1]? = some (.cells #[.int .i64 0] 33 (0, 0))) := Lib.hid (hrk.2 _ _ HA3.out (by omega))
    have HBZ : Hid (Below w.heap.size w w3) := Lib.hid (HBW.out.trans (hrk.1.mono (by omega)))
    have HGG := Lib.hid hg
    have HL3 := Lib.hid hls
    clear hg hls hrk HX
    subst hxe
    have d0 : w3.cell? ⟨w.heap.size, 0, none⟩ = some (.slice none 0 0) := Lib.cell_of_heap HZ1.out 0
    have d1 : w3.cell? ⟨w.heap.size + 1, 0, none⟩ = some (.int .i64 0) := Lib.cell_of_heap HZ2.out 0
    have d2 : w3.cell? ⟨w.heap.size + 1 + 1, 0, none⟩ = some (.int .i64 0) := Lib.cell_of_heap HZ3.out 0
    have z0 : w3.frozen? ⟨w.heap.size, 0, none⟩ = false := Lib.frozen_of_heap HZ1.out 0
    have z1 : w3.frozen? ⟨w.heap.size + 1, 0, none⟩ = false := Lib.frozen_of_heap HZ2.out 0
    have z2 : w3.frozen? ⟨w.heap.size + 1 + 1, 0, none⟩ = false := Lib.frozen_of_heap HZ3.out 0
    obtain ⟨c0, c1, c2, c3, c4⟩ := HL3.out.cells
    go_upto_region 6 with fail
    go_region
    obtain ⟨wa, hwa⟩ : ∃ wa, w3.setCell ⟨w.heap.size, 0, none⟩ (.slice av nv cv) = wa := ⟨_, rfl⟩
    obtain ⟨wb, hwb⟩ : ∃ wb, wa.setCell ⟨w.heap.size, 0, none⟩ (.slice av nv cv) = wb := ⟨_, rfl⟩
    obtain ⟨wc, hwc⟩ : ∃ wc, wb.setCell ⟨w.heap.size + 1, 0, none⟩ (.int .i64 (k' : Int)) = wc := ⟨_, rfl⟩
    obtain ⟨wd, hwd⟩ : ∃ wd, wc.setCell ⟨w.heap.size + 1 + 1, 0, none⟩ (.int .i64 0) = wd := ⟨_, rfl⟩
    obtain ⟨wf, hwf⟩ : ∃ wf, wd.drew = wf := ⟨_, rfl⟩
    rw [hwa, hwb, hwc, hwd, hwf]
    have HF : Hid (Below w.heap.size w wf) := Lib.hid (by
      rw [← hwf, ← hwd, ← hwc, ← hwb, ← hwa]
      exact ((((HBZ.out.setCell (p := ⟨w.heap.size, 0, none⟩) (Nat.le_refl _) _).setCell (p := ⟨w.heap.size, 0, none⟩) (Nat.le_refl _) _).setCell (p := ⟨w.heap.size + 1, 0, none⟩) (by show w.heap.size ≤ w.heap.size + 1; omega) _).setCell (p := ⟨w.heap.size + 1 + 1, 0, none⟩) (by show w.heap.size ≤ w.heap.size + 1 + 1; omega) _).drew)
    have HGF : Hid (G y (.slice av nv cv) wf) := Lib.hid (by
      have g1 := HG.out _ _ _ _ w.heap.size (by omega) (RK.set w.heap.size 0 w3 (.slice av nv cv)) HGG.out
      rw [hwa] at g1
      have g2 := HG.out _ _ _ _ w.heap.size (by omega) (RK.set w.heap.size 0 wa (.slice av nv cv)) g1
      rw [hwb] at g2
      have g3 := HG.out _ _ _ _ (w.heap.size + 1) (by omega) (RK.set (w.heap.size + 1) 0 wb (.int .i64 (k' : Int))) g2
      rw [hwc] at g3
      have g4 := HG.out _ _ _ _ (w.heap.size + 1 + 1) (by omega) (RK.set (w.heap.size + 1 + 1) 0 wc (.int .i64 0)) g3
      rw [hwd] at g4
      have hne : wd.heap.size ≠ 0 := by
        have h1 := heap_lt HZ1.out
        rw [← hwd, ← hwc, ← hwb, ← hwa]
        simp only [World.size_setCell]
        omega
      have g5 := HG.out _ _ wd wf w.heap.size (by omega) ⟨by rw [← hwf]; exact (Below.refl _ _).drew, fun k o hk _ => by rw [← hwf]; exact hk⟩ g4
      exact g5)
    have m0 : wf.cell? ⟨w.heap.size, 0, none⟩ = some (.slice av nv cv) := by
      rw [← hwf]
      show wd.cell? _ = _
      rw [← hwd, World.cell?_setCell_other _ _ _ _ (by intro h; injection h with h; omega), ← hwc, World.cell?_setCell_other _ _ _ _ (by intro h; injection h with h; omega), ← hwb]
      have e1 : wa.cell? ⟨w.heap.size, 0, none⟩ = some (.slice av nv cv) := by rw [← hwa]; exact World.cell?_setCell_same _ _ _ d0
      exact World.cell?_setCell_same _ _ _ e1
    have m1 : wf.cell? ⟨w.heap.size + 1, 0, none⟩ = some (.int .i64 (k' : Int)) := by
      rw [← hwf]
      show wd.cell? _ = _
      have e1 : wb.cell? ⟨w.heap.size + 1, 0, none⟩ = some (.int .i64 0) := by
        rw [← hwb, World.cell?_setCell_other _ _ _ _ (by intro h; injection h with h; omega), ← hwa, World.cell?_setCell_other _ _ _ _ (by intro h; injection h with h; omega)]; exact d1
      rw [← hwd, World.cell?_setCell_other _ _ _ _ (by intro h; injection h with h; omega), ← hwc]
      exact World.cell?_setCell_same _ _ _ e1
    have m2 : wf.cell? ⟨w.heap.size + 1 + 1, 0, none⟩ = some (.int .i64 0) := by
      rw [← hwf]
      show wd.cell? _ = _
      have e1 : wc.cell? ⟨w.heap.size + 1 + 1, 0, none⟩ = some (.int .i64 0) := by
        rw [← hwc, World.cell?_setCell_other _ _ _ _ (by intro h; injection h with h; omega), ← hwb, World.cell?_setCell_other _ _ _ _ (by intro h; injection h with h; omega), ← hwa, World.cell?_setCell_other _ _ _ _ (by intro h; injection h with h; omega)]; exact d2
      rw [← hwd]
      exact World.cell?_setCell_same _ _ _ e1
    clear hwa hwb hwc hwd hwf d0 d1 d2 z0 z1 z2 c0 c1 c2 c3 c4
    go_wp2_with fail
    refine leaves_cons (f := 90) (args := #[.pointer (some ⟨w.heap.size, 0, none⟩), .pointer (some ⟨w.heap.size + 1, 0, none⟩), .pointer (some ⟨w.heap.size + 1 + 1, 0, none⟩)]) (by simp) (by simp [go_sem]) ?_
    refine (lcatch_idle_c ⟨w.heap.size, 0, none⟩ ⟨w.heap.size + 1, 0, none⟩ ⟨w.heap.size + 1 + 1, 0, none⟩ _).mono ?_
    rintro x u wg ⟨rfl, rfl, rfl⟩
    simp [Leaves, settle, results, Tryz.results58, go_sem, m0, m1, m2]
    exact ⟨⟨av, nv, cv, rfl, HGF.out⟩, HF.out⟩
end Go.Proofs.YtgaknbnhmoddcaaGreatDoor
namespace Go.Proofs.YtgaknbnhmoddcaaGreatDoor
open Go.RowKit Go.Lib
/-- A literal's cells, in a row that the call made. -/
def CelG (B : Nat) (out : List Cel) (u : Value) (W : World) : Prop := out.length ≤ 2048 ∧ OwnC B u out W
theorem rvalue_lit {tb off cap : Nat} {T : List Tok} (fx : Bool) {k : Nat} (w : World) (hr : TokRow tb off T w) (htb : tb < w.heap.size) (hT : T.length ≤ 100000 ∧ ∀ t ∈ T, t.text.length ≤ 100000) (hk : k < T.length) (hE : Env w) :
    Calls Tryz.prog 58 #[.slice (some ⟨tb, off, none⟩) T.length cap, .int .i64 (k : Int), .bool fx, .func (.func 59) #[] #[]] w fun x w' => ReadV (litP fx T k) (CelG (w.heap.size + 4)) x w' ∧ Below w.heap.size w w' := by
  refine lread_go_c w hr htb hT hk (litP fx T k) (CelG (w.heap.size + 4)) (fun y u W W' q hq hk h => ⟨h.1, h.2.rk hk (by omega)⟩) fun W hS hb => ?_
  refine (l_literal W hS (by omega) (fun W' h' => hE.below (hb.trans (h'.mono (by omega))) (Nat.le_refl _))).mono ?_
  intro x W' h
  cases hp : litP fx T k with
  | error e =>
    rw [hp] at h
    exact h
  | ok y =>
    obtain ⟨k', out⟩ := y
    rw [hp] at h
    obtain ⟨h1, v, h2, h3, h4, h5, h6⟩ := h
    have hv : ∃ a n c, v = .slice a n c := by
      rcases h4.2 with ⟨e1, _⟩ | ⟨g, cap, cur, e1, _⟩
      · exact ⟨_, _, _, e1⟩
      · exact ⟨_, _, _, e1⟩
    obtain ⟨a, n, c, rfl⟩ := hv
    exact ⟨a, n, c, 0, _, h2, ⟨h1, h4⟩, h3, h5⟩
set_option maxRecDepth 100000 in
theorem value_ok {tb off cap : Nat} {T : List Tok} (fx : Bool) {k : Nat} (w : World) (hr : TokRow tb off T w) (htb : tb < w.heap.size) (hT : T.length ≤ 100000 ∧ ∀ t ∈ T, t.text.length ≤ 100000) (hk : k < T.length) (hE : Env w) :
    Calls Tryz.prog 25 #[.slice (some ⟨tb, off, none⟩) T.length cap, .int .i64 (k : Int), .bool fx] w fun x w' => ReadV (litP fx T k) (CelG (w.heap.size + 4)) x w' ∧ Below w.heap.size w w' := by
  have HR := Lib.hid (rvalue_lit (cap := cap) fx w hr htb hT hk hE)
  generalize litP fx T k = R at HR ⊢
  clear hr htb hT hk hE
  go_enter Tryz.func25, Tryz.ntmps25
  go_wp2_with fail
  refine HR.out.mono ?_; rintro x w1 ⟨hx, hb⟩
  have HB := Lib.hid hb
  cases R with
  | error e =>
    have hx2 : x = .returned (.tuple #[.slice none 0 0, .int .i64 e.2, .int .i64 e.1]) := hx
    clear hx hb
    subst hx2
    go_wp2_with fail
    go_returns
    exact ⟨rfl, HB.out⟩
  | ok y =>
    obtain ⟨k', out⟩ := y
    obtain ⟨a, n, c, hx2, hg⟩ : ∃ a n c, x = .returned (.tuple #[.slice a n c, .int .i64 k', .int .i64 0]) ∧ CelG (w.heap.size + 4) out (.slice a n c) w1 := hx
    have HG := Lib.hid hg
    clear hb hg
    subst hx2
    go_wp2_with fail
    go_returns
    exact ⟨⟨a, n, c, rfl, HG.out⟩, HB.out⟩
set_option maxRecDepth 100000 in
theorem value_arg (a : Option Addr) (n cap : Nat) (at_ : Int) (fx : Bool) (hn : n ≤ 1000000) (ha : at_ < 0 ∨ (n : Int) ≤ at_) (w : World) :
    Calls Tryz.prog 25 #[.slice a n cap, .int .i64 at_, .bool fx] w fun x w' => x = .returned (.tuple #[.slice none 0 0, .int .i64 0, .int .i64 2]) ∧ Below w.heap.size w w' := by
  have HR := Lib.hid (lread_bad_c a n cap at_ fx (.func (.func 59) #[] #[]) hn ha w)
  go_enter Tryz.func25, Tryz.ntmps25
  go_wp2_with fail
  refine HR.out.mono ?_; rintro x w1 ⟨rfl, hb⟩
  go_wp2_with fail
  go_returns
  exact ⟨rfl, hb⟩
end Go.Proofs.YtgaknbnhmoddcaaGreatDoor
namespace Go.Proofs.YtgaknbnhmoddcaaGreatDoor
open Go.Lib
def TxtK (T : List Tok) : Prop := ∀ t ∈ T, t.text.length ≤ 100000
def SmC (c : Cel) : Prop := c.name.length ≤ 100000 ∧ c.text.length ≤ 100000 ∧ R c.num ∧ R c.many
theorem R_small {n : Int} (h0 : 0 ≤ n) (h1 : n ≤ 1000000) : R n := ⟨by omega, by omega⟩
theorem look_txt {T : List Tok} (hT : TxtK T) (a : Nat) : (lookP T a).text.length ≤ 100000 := by
  unfold lookP
  rw [List.getD_eq_getElem?_getD]
  by_cases h : a < T.length
  · rw [List.getElem?_eq_getElem h]
    exact hT _ (List.getElem_mem _)
  · rw [List.getElem?_eq_none (by omega)]
    exact Nat.zero_le _
theorem word_sm {name s : List UInt8} (hn : name.length ≤ 100000) (hs : s.length ≤ 100000) : SmC (wordP name s) := by
  have r0 : R 0 := R_small (by decide) (by decide)
  have r1 : R 1 := R_small (by decide) (by decide)
  unfold wordP
  split
  · exact ⟨hn, Nat.zero_le _, r0, r0⟩
  · split
    · exact ⟨hn, Nat.zero_le _, r1, r0⟩
    · split
      · exact ⟨hn, Nat.zero_le _, r0, r0⟩
      · exact ⟨hn, hs, r0, r0⟩
def NewS (out : List Cel) (r : Except ErrP (Nat × List Cel)) : Prop := ∀ a2 o2, r = .ok (a2, o2) → ∃ new, o2 = out ++ new ∧ ∀ c ∈ new, SmC c
theorem leaf_sm (fixed : Bool) (T : List Tok) (hT : TxtK T) (hR : ∀ l, R (rdV l)) (name : List UInt8) (hn : name.length ≤ 100000) (a : Nat) (out : List Cel) : NewS out (leafP fixed T name a out) := by
  intro a2 o2 h
  have one : ∀ (k : Nat) (c : Cel), SmC c → (Except.ok (k, out ++ [c]) : Except ErrP (Nat × List Cel)) = .ok (a2, o2) → ∃ new, o2 = out ++ new ∧ ∀ c ∈ new, SmC c := fun k c hc e => by
    injection e with e
    injection e with _ e
    exact ⟨[c], e.symm, fun x hx => by rw [List.mem_singleton.1 hx]; exact hc⟩
  have r0 : R 0 := R_small (by decide) (by decide)
  unfold leafP at h
  split at h
  · split at h
    · cases h
    · rename_i s hs
      have := nam_lt hs
      exact one _ _ ⟨hn, by show s.length ≤ 100000; rw [← this.2]; exact look_txt hT _, r0, r0⟩ h
  · split at h
    · exact one _ _ ⟨hn, look_txt hT _, r0, r0⟩ h
    · split at h
      · split at h
        · cases h
        · exact one _ _ ⟨hn, Nat.zero_le _, hR _, r0⟩ h
      · exact one _ _ (word_sm hn (look_txt hT _)) h
theorem itm_sm (val : List UInt8 → Nat → List Cel → Except ErrP (Nat × List Cel)) (T : List Tok) (hT : TxtK T) (hon : OnV T val) (hv : ∀ s a out, s.length ≤ 100000 → NewS out (val s a out)) (isO : Bool) : ∀ (f n : Nat) (nm : List (List UInt8)) (a : Nat) (out : List Cel) (k a2 : Nat) (o2 : List Cel), itmP val isO T f n nm a out = .ok (k, a2, o2) → k + a < n + a2 ∧ ∃ new, o2 = out ++ new ∧ ∀ c ∈ new, SmC c
  | 0, _, _, _, _, _, _, _, h => by cases h
  | f + 1, n, nm, a, out, k, a2, o2, h => by
    cases hm : mrkP T a (if isO then [125] else [93]) with
    | true =>
      rw [itmP_end hm] at h
      injection h with h
      injection h with h1 h2
      injection h2 with h2 h3
      exact ⟨by omega, [], by simp [h3], fun c hc => by cases hc⟩
    | false =>
      rw [itmP_go hm] at h
      cases hm : (if isO then memP nm T a else .ok ([], a)) with
      | error e => rw [hm] at h; cases h
      | ok sa =>
        obtain ⟨s, a1⟩ := sa
        rw [hm] at h
        simp only at h
        have ha : a ≤ a1 ∧ s.length ≤ 100000 := by
          cases isO with
          | true =>
            obtain ⟨h1, h2, h3⟩ := mem_lt hm
            exact ⟨by omega, by rw [← (nam_lt h3).2]; exact look_txt hT _⟩
          | false =>
            rw [if_neg (by simp)] at hm
            injection hm with hm
            injection hm with h1 h2
            exact ⟨by omega, by rw [← h1]; exact Nat.zero_le _⟩
        cases hx : val s a1 out with
        | error e => rw [hx] at h; cases h
        | ok y =>
          obtain ⟨a3, o3⟩ := y
          rw [hx] at h
          have h1 := hon _ _ _ _ _ hx
          obtain ⟨new, rfl, hnew⟩ := hv s a1 out ha.2 a3 o3 hx
          obtain ⟨h2, new2, rfl, hnew2⟩ := itm_sm val T hT hon hv isO f _ _ _ _ _ _ _ h
          refine ⟨by omega, new ++ new2, by rw [List.append_assoc], fun c hc => ?_⟩
          rcases List.mem_append.1 hc with hc | hc
          · exact hnew c hc
          · exact hnew2 c hc
theorem val_sm_step (fixed : Bool) (T : List Tok) (hT : TxtK T) (hTl : T.length ≤ 100000) (hR : ∀ l, R (rdV l)) (d : Nat) (ih : ∀ e, d = e + 1 → ∀ s a out, s.length ≤ 100000 → NewS out (valP fixed T e s a out)) : ∀ s a out, s.length ≤ 100000 → NewS out (valP fixed T d s a out) := by
  intro name a out hn a2 o2 h
  unfold valP at h
  split at h
  · cases h
  · rename_i hb
    split at h
    · cases h
    · split at h
      · cases d with
        | zero => cases h
        | succ d =>
          simp only [] at h
          split at h
          · cases h
          · rename_i n a3 o3 hi
            have ho := itm_on _ T (val_on fixed T d) _ _ _ _ _ _ _ _ _ hi
            obtain ⟨h2, new, h3, hnew⟩ := itm_sm _ T hT (val_on fixed T d) (ih d rfl) _ _ _ _ _ _ _ _ _ hi
            injection h with h
            injection h with h4 h5
            subst h3
            rw [List.append_assoc, List.singleton_append, many_app _ n out _ _ rfl] at h5
            refine ⟨_, h5.symm, fun c hc => ?_⟩
            rcases List.mem_cons.1 hc with hc | hc
            · rw [hc]
              exact ⟨hn, Nat.zero_le _, (R_small (by decide) (by decide) : R 0), R_small (by show (0 : Int) ≤ (n : Int); omega) (by show (n : Int) ≤ 1000000; omega)⟩
            · exact hnew c hc
      · exact leaf_sm fixed T hT hR name hn a out a2 o2 h
theorem val_sm (fixed : Bool) (T : List Tok) (hT : TxtK T) (hTl : T.length ≤ 100000) (hR : ∀ l, R (rdV l)) : ∀ (d : Nat) s a out, s.length ≤ 100000 → NewS out (valP fixed T d s a out)
  | 0 => val_sm_step fixed T hT hTl hR 0 fun e h => by omega
  | d + 1 => val_sm_step fixed T hT hTl hR (d + 1) fun e h => by
    have : e = d := by omega
    subst this
    exact val_sm fixed T hT hTl hR e
theorem lit_sm (fixed : Bool) (T : List Tok) (hT : TxtK T) (hTl : T.length ≤ 100000) (hR : ∀ l, R (rdV l)) (a m : Nat) (w : List Cel) (h : litP fixed T a = .ok (m, w)) : ∀ c ∈ w, SmC c := by
  obtain ⟨new, h1, h2⟩ := val_sm fixed T hT hTl hR 16 [] a [] (by decide) m w h
  rw [List.nil_append] at h1
  subst h1
  exact h2
end Go.Proofs.YtgaknbnhmoddcaaGreatDoor
namespace Go.Proofs.YtgaknbnhmoddcaaGreatDoor
open Go.Lib
def hidC (c : UInt8) : Bool := c == 32 || c == 9 || c == 13 || c == 10 || c == 44
def bomL : List UInt8 := [239, 187, 191]
/-- What counts for nothing, dropped (but for remarks). -/
def hidG : Nat → List UInt8 → List UInt8
  | 0, l => l
  | _ + 1, [] => []
  | f + 1, c :: r => if hidC c then hidG f r else if bomL.isPrefixOf (c :: r) then hidG f ((c :: r).drop 3) else c :: r
def hid0 (l : List UInt8) : List UInt8 := hidG l.length l
def lineC (c : UInt8) : Bool := c != 10 && c != 13
def badC (c : UInt8) : Bool := decide (c.toNat < 32) && c != 9
/-- What counts for nothing, dropped; false: behind it stands what may not be. -/
def skipG : Nat → List UInt8 → List UInt8 × Bool
  | 0, l => (l, true)
  | f + 1, l => match hid0 l with
    | [] => ([], true)
    | c :: r => if c = 35 then
        (let ln := (c :: r).takeWhile lineC
         if ln.any badC then ((c :: r).drop (ln.takeWhile fun x => !badC x).length, false) else skipG f ((c :: r).dropWhile lineC))
      else (c :: r, true)
def skip0 (l : List UInt8) : List UInt8 × Bool := skipG (l.length + 1) l
def nameT (l : List UInt8) : Option (List UInt8) := let a := l.takeWhile nameC; if nameB a then some a else none
def numTk (l : List UInt8) : Option (List UInt8) :=
  let d := (body l).takeWhile isDig
  let r := (body l).dropWhile isDig
  if okDigits d && !((r.head?.map fun c => nameC c || c == 46).getD false) then some ((if below l then [45] else []) ++ d) else none
/-- Behind a quote, up to the next one that no backslash stands ahead of: the bytes, tabs as \\t; how many. -/
def scanT : Bool → List UInt8 → Option (List UInt8 × Nat)
  | _, [] => none
  | q, c :: r => if !q && c == 34 then some ([], 1) else
    (scanT (!q && c == 92) r).map fun x => ((if c == 9 && !q then [92, 116] else [c]) ++ x.1, x.2 + 1)
/-- What json.Read tells of any bytes. -/
def jsonT (l : List UInt8) : Except Int (List Cel) := if 16384 < l.length then .error 4 else if !validD l then .error 10 else readJ l
def txtT (l : List UInt8) : Option (List UInt8 × Nat) := match l with
  | [] => none
  | c :: r => if c ≠ 34 ∨ [34, 34, 34].isPrefixOf (c :: r) then none else match scanT false r with
    | none => none
    | some (b, n) => match jsonT (34 :: (b ++ [34])) with
      | .error _ => none
      | .ok v => some ((v.headD ⟨0, [], [], 0, 0⟩).text, n + 1)
def punT (l : List UInt8) : Option (List UInt8) := if [46, 46, 46].isPrefixOf l then some [46, 46, 46] else match l with
  | [] => none
  | c :: _ => if marksL.contains c then some [c] else none
/-- The token that stands at the beginning: its kind, its text, how many bytes it has. -/
def tokG (l : List UInt8) : Option (UInt8 × List UInt8 × Nat) := match nameT l with
  | some a => some (1, a, a.length)
  | none => match numTk l with
    | some a => some (2, a, a.length)
    | none => match txtT l with
      | some (a, n) => some (3, a, n)
      | none => (punT l).map fun a => (4, a, a.length)
/-- The tokens, so many at most; or the error, and where. -/
def lexG : Nat → Nat → List UInt8 → List Tok → Except (Int × Nat) (List Tok)
  | k, at_, l, acc => match skip0 l with
    | (l1, ok) =>
      let at1 := at_ + (l.length - l1.length)
      if !ok then .error (170, at1) else if l1.isEmpty then .ok (acc ++ [⟨0, [], (at1 : Int)⟩]) else match k with
        | 0 => .error (171, at1)
        | k + 1 => match tokG l1 with
          | none => .error (170, at1)
          | some (kd, tx, n) => lexG k (at1 + n) (l1.drop n) (acc ++ [⟨kd, tx, (at1 : Int)⟩])
def lex0 (l : List UInt8) : Except (Int × Nat) (List Tok) := if 16384 < l.length then .error (4, 0) else if !validD l then .error (10, 0) else lexG 1024 0 l []
end Go.Proofs.YtgaknbnhmoddcaaGreatDoor
namespace Go.Proofs.YtgaknbnhmoddcaaGreatDoor
/-- How the rounds stand: so many to come, such names, so many cells taken. -/
def KS (V : List Cel) (d1 k : Nat) (isL : Bool) (o : Option Nat) (g : Nat) (nm : List (List UInt8)) (u : Nat) : Prop := (kidsN (valN d1) isL g nm (V.drop (k + 1 + u))).map (u + ·) = o
theorem KS.start {V : List Cel} {d1 k : Nat} {isL : Bool} {o : Option Nat} {g : Nat} (h : kidsN (valN d1) isL g [] (V.drop (k + 1)) = o) : KS V d1 k isL o g [] 0 := by
  unfold KS
  rw [Nat.add_zero, ← h]
  cases kidsN (valN d1) isL g [] (V.drop (k + 1)) with
  | none => rfl
  | some n => show some (0 + n) = some n; rw [Nat.zero_add]
theorem KS.done {V : List Cel} {d1 k : Nat} {isL : Bool} {o : Option Nat} {nm : List (List UInt8)} {u : Nat} (h : KS V d1 k isL o 0 nm u) : o = some u := by
  unfold KS at h
  rw [← h]
  cases hd : V.drop (k + 1 + u) <;> rfl
theorem KS.out_ {V : List Cel} {d1 k : Nat} {isL : Bool} {o : Option Nat} {g : Nat} {nm : List (List UInt8)} {u : Nat} (h : KS V d1 k isL o (g + 1) nm u) (hp : V.length ≤ k + 1 + u) : o = none := by
  unfold KS at h
  rw [List.drop_of_length_le hp] at h
  rw [← h]; rfl
theorem KS.bad {V : List Cel} {d1 k : Nat} {isL : Bool} {o : Option Nat} {g : Nat} {nm : List (List UInt8)} {u p : Nat} (h : KS V d1 k isL o (g + 1) nm u) (hpu : p = k + 1 + u) (hp : p < V.length) (hok : okN isL nm V[p].name = false) : o = none := by
  subst hpu
  unfold KS at h
  rw [List.drop_eq_getElem_cons hp, kidsN, hok] at h
  rw [← h]; rfl
theorem KS.fail {V : List Cel} {d1 k : Nat} {isL : Bool} {o : Option Nat} {g : Nat} {nm : List (List UInt8)} {u p : Nat} (h : KS V d1 k isL o (g + 1) nm u) (hpu : p = k + 1 + u) (hp : p < V.length) (hok : okN isL nm V[p].name = true) (hv : valN d1 (V.drop p) = none) : o = none := by
  subst hpu
  unfold KS at h
  rw [List.drop_eq_getElem_cons hp, kidsN, hok, ← List.drop_eq_getElem_cons hp, hv] at h
  rw [← h]; rfl
theorem KS.next {V : List Cel} {d1 k : Nat} {isL : Bool} {o : Option Nat} {g : Nat} {nm : List (List UInt8)} {u p n : Nat} (h : KS V d1 k isL o (g + 1) nm u) (hpu : p = k + 1 + u) (hp : p < V.length) (hok : okN isL nm V[p].name = true) (hv : valN d1 (V.drop p) = some n) : KS V d1 k isL o g (V[p].name :: nm) (u + n) := by
  subst hpu
  unfold KS at h ⊢
  rw [List.drop_eq_getElem_cons hp, kidsN, hok, ← List.drop_eq_getElem_cons hp, hv] at h
  rw [← h]
  show _ = Option.map (u + ·) ((kidsN (valN d1) isL g (V[k + 1 + u].name :: nm) ((V.drop (k + 1 + u)).drop n)).map (n + ·))
  rw [List.drop_drop, show k + 1 + (u + n) = k + 1 + u + n from by omega, Option.map_map]
  congr 1
  funext x
  show u + n + x = u + (n + x)
  omega
theorem endI_none {V : List Cel} {p d : Nat} (h : valN d (V.drop p) = none) : endI V p d = -1 := by unfold endI; rw [h]
theorem endI_some {V : List Cel} {p d n : Nat} (h : valN d (V.drop p) = some n) : endI V p d = ((p + n : Nat) : Int) := by unfold endI; rw [h]
end Go.Proofs.YtgaknbnhmoddcaaGreatDoor
namespace Go.Proofs.YtgaknbnhmoddcaaGreatDoor
open Go.Lib
theorem quoteC_len' (c : UInt8) : (quoteC c).length ≤ 6 := by
  unfold quoteC
  repeat' split
  all_goals simp
/-- Cells whose names and texts are short. -/
def ShortV (V : List Cel) : Prop := ∀ c ∈ V, c.name.length ≤ 3000 ∧ c.text.length ≤ 3000 ∧ R c.num ∧ R c.many
theorem ShortV.drop {V : List Cel} (h : ShortV V) (n : Nat) : ShortV (V.drop n) := fun c hc => h c (List.mem_of_mem_drop hc)
/-- One round: where the next one begins. -/
theorem KS.step {V : List Cel} {d1 k : Nat} {isL : Bool} {n : Nat} {g : Nat} {nm : List (List UInt8)} {u p : Nat} (h : KS V d1 k isL (some n) (g + 1) nm u) (hpu : p = k + 1 + u) : ∃ (hp : p < V.length) (n1 : Nat), valN d1 (V.drop p) = some n1 ∧ KS V d1 k isL (some n) g (V[p].name :: nm) (u + n1) := by
  have hp : p < V.length := by
    rcases Nat.lt_or_ge p V.length with h' | h'
    · exact h'
    · have := h.out_ (by omega); cases this
  have hok : okN isL nm V[p].name = true := by
    cases ho : okN isL nm V[p].name with
    | true => rfl
    | false => have := h.bad hpu hp ho; cases this
  cases hv : valN d1 (V.drop p) with
  | none => have := h.fail hpu hp hok hv; cases this
  | some n1 => exact ⟨hp, n1, rfl, h.next hpu hp hok hv⟩
end Go.Proofs.YtgaknbnhmoddcaaGreatDoor
namespace Go.Proofs.YtgaknbnhmoddcaaGreatDoor
open Go.Lib
theorem quoteC_big (c : UInt8) (h : 128 ≤ c.toNat) : quoteC c = [c] := by
  have := (by decide +kernel : ∀ i : Fin 256, 128 ≤ i.val → quoteC (UInt8.ofNat i.val) = [UInt8.ofNat i.val]) ⟨c.toNat, UInt8.toNat_lt c⟩ h
  simpa only [UInt8.ofNat_toNat] using this
theorem big_all : ∀ l : List UInt8, (∀ c ∈ l, 128 ≤ c.toNat) → l.flatMap quoteC = l
  | [], _ => rfl
  | c :: l, h => by
    rw [List.flatMap_cons, quoteC_big c (h c (by simp)), big_all l fun x hx => h x (by simp [hx])]; rfl
/-- A code point of more than one byte has no byte below 128. -/
theorem enc_big (n : Nat) (hp : isPt n = true) (h : 128 ≤ n) : ∀ c ∈ encN n, 128 ≤ c.toNat := by
  unfold isPt at hp
  rw [decide_eq_true_eq] at hp
  intro c hc
  unfold encN at hc
  rw [if_neg (by omega)] at hc
  split at hc
  · simp only [List.mem_cons, List.not_mem_nil, or_false] at hc
    rcases hc with rfl | rfl <;> (rw [ofN _ (by omega)]; omega)
  · split at hc
    · simp only [List.mem_cons, List.not_mem_nil, or_false] at hc
      rcases hc with rfl | rfl | rfl <;> (rw [ofN _ (by omega)]; omega)
    · simp only [List.mem_cons, List.not_mem_nil, or_false] at hc
      rcases hc with rfl | rfl | rfl | rfl <;> (rw [ofN _ (by omega)]; omega)
theorem quoteC_pos (c : UInt8) : 1 ≤ (quoteC c).length := by
  unfold quoteC
  repeat' split
  all_goals simp
theorem flat_quote_len : ∀ t : List UInt8, t.length ≤ (t.flatMap quoteC).length
  | [] => by simp
  | c :: t => by
    rw [List.flatMap_cons, List.length_append, List.length_cons]
    have := quoteC_pos c
    have := flat_quote_len t
    omega
end Go.Proofs.YtgaknbnhmoddcaaGreatDoor
namespace Go.Proofs.YtgaknbnhmoddcaaGreatDoor
open Go.Lib
theorem among_cont (L : List (List UInt8)) (n : List UInt8) : amongB L n = L.contains n := by
  unfold amongB
  induction L with
  | nil => rfl
  | cons a L ih =>
    rw [List.any_cons, List.contains_cons, ih]
    congr 1
    exact BEq.comm
theorem kidsN_names (val : List Cel → Option Nat) : ∀ (n : Nat) (nm nm' : List (List UInt8)) (V : List Cel), kidsN val true n nm V = kidsN val true n nm' V
  | 0, nm, nm', V => rfl
  | n + 1, nm, nm', [] => rfl
  | n + 1, nm, nm', c :: r => by
    rw [kidsN, kidsN]
    have : okN true nm c.name = okN true nm' c.name := rfl
    rw [this]
    split
    · cases val (c :: r) with
      | none => rfl
      | some k => simp only; rw [kidsN_names val n (c.name :: nm) (c.name :: nm')]
    · rfl
end Go.Proofs.YtgaknbnhmoddcaaGreatDoor
namespace Go.Proofs.YtgaknbnhmoddcaaGreatDoor
open Go.Lib
theorem valid_ascii : ∀ (l r : List UInt8), (∀ c ∈ l, c.toNat < 128) → validD (l ++ r) = validD r
  | [], r, _ => rfl
  | c :: l, r, h => by
    rw [List.cons_append, valid_cons c _ (h c (by simp)), valid_ascii l r fun x hx => h x (by simp [hx])]
theorem valid_enc (p : Nat) (hp : isPt p = true) (r : List UInt8) : validD (encN p ++ r) = validD r := by
  have hd := decode_enc p hp r
  have hpos : 0 < (encN p).length := by rw [enc_len p hp]; repeat' split
                                        all_goals decide
  have hne : encN p ++ r ≠ [] := by
    intro h
    have := congrArg List.length h
    rw [List.length_append, List.length_nil] at this
    omega
  rw [valid_step _ hne]
  have hw : wellB (encN p ++ r) = true := by
    unfold wellB
    rw [hd]
    simp only [Bool.not_eq_true', decide_eq_false_iff_not]
    rintro ⟨h1, h2⟩
    rw [enc_len p hp, h1] at h2
    exact absurd h2 (by decide)
  rw [hw, Bool.true_and, hd]
  simp only [List.drop_left]
end Go.Proofs.YtgaknbnhmoddcaaGreatDoor
namespace Go.Proofs.YtgaknbnhmoddcaaGreatDoor
open Go.Lib
theorem hid_more : ∀ (n f : Nat) (l : List UInt8), l.length ≤ n → l.length ≤ f → hidG f l = hid0 l
  | 0, f, l, h, hf => by
    have : l = [] := List.length_eq_zero_iff.1 (by omega)
    subst this
    cases f <;> rfl
  | n + 1, f, [], h, hf => by cases f <;> rfl
  | n + 1, f + 1, c :: r, h, hf => by
    simp only [List.length_cons] at h hf
    unfold hid0
    rw [List.length_cons]
    simp only [hidG]
    by_cases hc : hidC c = true
    · rw [if_pos hc, if_pos hc, hid_more n f r (by omega) (by omega), hid_more n r.length r (by omega) (by omega)]
    · rw [if_neg hc, if_neg hc]
      by_cases hb : bomL.isPrefixOf (c :: r) = true
      · rw [if_pos hb, if_pos hb]
        have hd : ((c :: r).drop 3).length ≤ r.length := by simp only [List.length_drop, List.length_cons]; omega
        rw [hid_more n f _ (by omega) (by omega), hid_more n r.length _ (by omega) (by omega)]
      · rw [if_neg hb, if_neg hb]
theorem hid_cons (c : UInt8) (r : List UInt8) : hid0 (c :: r) = if hidC c then hid0 r else if bomL.isPrefixOf (c :: r) then hid0 ((c :: r).drop 3) else c :: r := by
  have hd : ((c :: r).drop 3).length ≤ r.length := by simp only [List.length_drop, List.length_cons]; omega
  rw [show hid0 (c :: r) = hidG (r.length + 1) (c :: r) from rfl]
  simp only [hidG]
  rw [hid_more r.length r.length r (Nat.le_refl _) (Nat.le_refl _), hid_more r.length r.length _ hd hd]
def kt (t : Tok) : UInt8 × List UInt8 := (t.kind, t.text)
end Go.Proofs.YtgaknbnhmoddcaaGreatDoor
namespace Go.Proofs.YtgaknbnhmoddcaaGreatDoor
open Go.Lib
def qlen (p : Nat) : Nat := ((encN p).flatMap quoteC).length
theorem qlen_le (p : Nat) (hp : isPt p = true) : qlen p ≤ 6 ∧ (128 ≤ p → qlen p = (encN p).length) := by
  unfold qlen
  by_cases h : p < 128
  · refine ⟨?_, fun h' => absurd h (by omega)⟩
    have : encN p = [UInt8.ofNat p] := by unfold encN; rw [if_pos h]
    rw [this]
    simp only [List.flatMap_cons, List.flatMap_nil, List.append_nil]
    exact quoteC_len' _
  · have hb := big_all _ (enc_big p hp (by omega))
    rw [hb]
    refine ⟨?_, fun _ => rfl⟩
    rw [enc_len p hp]
    repeat' split
    all_goals decide
theorem esc_len (r : List UInt8) (p : Nat) (t : List UInt8) (h : escJ r = some (p, t)) : qlen p + t.length ≤ r.length + 1 := by
  have hpt := (cut_esc r p t h).2.2
  have h6 := (qlen_le p hpt).1
  cases r with
  | nil => cases h
  | cons c r =>
    unfold escJ at h
    simp only at h
    cases hl : letJ c with
    | some q =>
      rw [hl] at h
      injection h with h; injection h with h1 h2
      subst h1; subst h2
      have : qlen q ≤ 2 := by
        have := (by decide +kernel : ∀ i : Fin 256, (match letJ (UInt8.ofNat i.val) with | some q => decide (qlen q ≤ 2) | none => true) = true) ⟨c.toNat, UInt8.toNat_lt c⟩
        simp only [UInt8.ofNat_toNat, hl] at this
        exact of_decide_eq_true this
      rw [List.length_cons]; omega
    | none =>
      rw [hl] at h
      simp only at h
      split at h
      · cases h
      · cases hx : hexsJ 4 0 r with
        | none => rw [hx] at h; cases h
        | some y =>
          obtain ⟨n, u⟩ := y
          rw [hx] at h
          simp only at h
          have e1 := (cut_hexs 4 0 r n u hx).2
          split at h
          · cases h
          · split at h
            · unfold lowJ at h
              cases hk : tkJ [92, 117] u with
              | none => rw [hk] at h; cases h
              | some u2 =>
                rw [hk] at h
                simp only at h
                have e2 := (cut_tk _ _ _ (by decide) hk).2
                cases hx2 : hexsJ 4 0 u2 with
                | none => rw [hx2] at h; cases h
                | some y2 =>
                  obtain ⟨m, u3⟩ := y2
                  rw [hx2] at h
                  simp only at h
                  have e3 := (cut_hexs 4 0 u2 m u3 hx2).2
                  split at h
                  · cases h
                  · injection h with h; injection h with h1 h2
                    subst h2
                    rw [List.length_cons]; omega
            · injection h with h; injection h with h1 h2
              subst h2
              rw [List.length_cons]; omega
theorem strGo_len : ∀ (f : Nat) (l : List UInt8) (P : List Nat) (t : List UInt8), validD l = true → strGo f l = some (P, t) → ((P.flatMap encN).flatMap quoteC).length + 1 + t.length ≤ l.length ∧ validD (P.flatMap encN) = true
  | 0, l, P, t, _, h => by rw [strGo] at h; cases h
  | f + 1, [], P, t, _, h => by rw [strGo] at h; cases h
  | f + 1, c :: r, P, t, hv, h => by
    rw [strGo] at h
    split at h
    · injection h with h; injection h with h1 h2
      subst h1; subst h2
      exact ⟨by simp; omega, rfl⟩
    · rename_i h34
      split at h
      · cases h
      · rename_i h32
        split at h
        · rename_i hc
          subst hc
          cases he : escJ r with
          | none => rw [he] at h; cases h
          | some pt =>
            obtain ⟨p, t1⟩ := pt
            rw [he] at h
            simp only at h
            obtain ⟨k1, k2, k3⟩ := cut_esc r p t1 he
            have k0 := cut_cons 92 r (by decide)
            cases hg : strGo f t1 with
            | none => rw [hg] at h; cases h
            | some x =>
              obtain ⟨Q, u⟩ := x
              rw [hg] at h
              injection h with h; injection h with h1 h2
              simp only at h1 h2
              subst h1; subst h2
              obtain ⟨g1, g2⟩ := strGo_len f t1 Q u ((k0.trans k1).2 hv) hg
              have e1 := esc_len r p t1 he
              unfold qlen at e1
              refine ⟨?_, by rw [List.flatMap_cons, valid_enc p k3]; exact g2⟩
              rw [List.flatMap_cons, List.flatMap_append, List.length_append, List.length_cons]
              omega
        · rename_i h92
          have hs := valid_step (c :: r) (by simp)
          rw [hv] at hs
          have hs2 := hs.symm
          rw [Bool.and_eq_true] at hs2
          obtain ⟨hw, hv2⟩ := hs2
          obtain ⟨d1, d2, d3, d4⟩ := decode_pt (c :: r) (by simp) hw
          cases hg : strGo f ((c :: r).drop (decodeL (c :: r)).2) with
          | none => rw [hg] at h; cases h
          | some x =>
            obtain ⟨Q, u⟩ := x
            rw [hg] at h
            injection h with h; injection h with h1 h2
            simp only at h1 h2
            subst h1; subst h2
            obtain ⟨g1, g2⟩ := strGo_len f _ Q u hv2 hg
            have hq : qlen (decodeL (c :: r)).1 ≤ (decodeL (c :: r)).2 := by
              have hel : (encN (decodeL (c :: r)).1).length = (decodeL (c :: r)).2 := by rw [d4, List.length_take]; omega
              by_cases hb : 128 ≤ (decodeL (c :: r)).1
              · rw [(qlen_le _ d1).2 hb, hel]; exact Nat.le_refl _
              · have h1 : encN (decodeL (c :: r)).1 = [UInt8.ofNat (decodeL (c :: r)).1] := by unfold encN; rw [if_pos (by omega)]
                have hm : (decodeL (c :: r)).2 = 1 := by rw [← hel, h1]; rfl
                have hcq : c = UInt8.ofNat (decodeL (c :: r)).1 := by
                  rw [h1, hm, List.take_succ_cons] at d4
                  injection d4 with d4 _
                  exact d4.symm
                unfold qlen
                rw [h1, ← hcq, hm]
                simp only [List.flatMap_cons, List.flatMap_nil, List.append_nil]
                have hc128 : c.toNat < 128 := by rw [hcq, ofN _ (by omega)]; omega
                have := (by decide +kernel : ∀ i : Fin 256, i.val < 128 → ¬ UInt8.ofNat i.val = 34 → ¬ i.val < 32 → ¬ UInt8.ofNat i.val = 92 → (quoteC (UInt8.ofNat i.val)).length ≤ 1) ⟨c.toNat, UInt8.toNat_lt c⟩ hc128
                simp only [UInt8.ofNat_toNat] at this
                exact this h34 h32 h92
            unfold qlen at hq
            have hdl : ((c :: r).drop (decodeL (c :: r)).2).length = (c :: r).length - (decodeL (c :: r)).2 := List.length_drop
            refine ⟨?_, by rw [List.flatMap_cons, valid_enc _ d1]; exact g2⟩
            rw [List.flatMap_cons, List.flatMap_append, List.length_append]
            omega
theorem str_len (l s t : List UInt8) (hv : validD l = true) (h : strJ l = some (s, t)) : (quoteL s).length + t.length ≤ l.length ∧ validD s = true := by
  unfold strJ at h
  cases ht : tkJ [34] l with
  | none => rw [ht] at h; cases h
  | some r =>
    rw [ht] at h
    obtain ⟨k1, k2⟩ := cut_tk _ _ _ (by decide) ht
    simp only at h
    cases hg : strGo r.length r with
    | none => rw [hg] at h; cases h
    | some x =>
      obtain ⟨P, u⟩ := x
      rw [hg] at h
      injection h with h; injection h with h1 h2
      simp only at h1 h2
      subst h1; subst h2
      obtain ⟨g1, g2⟩ := strGo_len _ r P u (k1.2 hv) hg
      refine ⟨?_, g2⟩
      unfold quoteL
      simp only [List.length_append, List.length_cons, List.length_nil] at k2 ⊢
      omega
theorem quote_ge (s : List UInt8) : s.length + 2 ≤ (quoteL s).length := by
  unfold quoteL
  have := flat_quote_len s
  simp only [List.length_append, List.length_cons, List.length_nil]
  omega
/-- A cell that was read, of so many bytes. -/
def OkO (n : Nat) (x : Cel) : Prop := (x.kind == 4 || x.kind == 5) = false ∧ R x.num ∧ R x.many ∧ x.text.length ≤ n
theorem OkO.mono {n m : Nat} {x : Cel} (h : OkO n x) (hm : n ≤ m) : OkO m x := ⟨h.1, h.2.1, h.2.2.1, Nat.le_trans h.2.2.2 hm⟩
end Go.Proofs.YtgaknbnhmoddcaaGreatDoor
namespace Go.Proofs.YtgaknbnhmoddcaaGreatDoor
open Go.Lib
theorem read_quote (x : List UInt8) (v : List Cel) (h : readJ (34 :: x) = .ok v) : ∃ s t, strJ (34 :: x) = some (s, t) ∧ v = [⟨3, [], s, 0, 0⟩] ∧ (blJ t).isEmpty = true := by
  have hv : valJ 16 [] (34 :: x) [] = leafJ [] 34 (34 :: x) [] := by
    rw [show (16 : Nat) = 15 + 1 from rfl]
    unfold valJ
    rw [show blJ (34 :: x) = 34 :: x from rfl]
    simp only
    rw [if_neg (by decide), if_neg (by decide), if_neg (by decide)]
  unfold readJ at h
  rw [hv] at h
  unfold leafJ at h
  rw [if_pos rfl] at h
  cases hs : strJ (34 :: x) with
  | none => rw [hs] at h; cases h
  | some y =>
    obtain ⟨s, t⟩ := y
    rw [hs] at h
    simp only at h
    split at h
    · rename_i hb
      injection h with h
      exact ⟨s, t, rfl, h.symm, hb⟩
    · cases h
theorem json_quote_ok (x : List UInt8) (v : List Cel) (h : jsonT (34 :: x) = .ok v) : ∃ s, v = [⟨3, [], s, 0, 0⟩] ∧ validD s = true ∧ (quoteL s).length ≤ 16384 := by
  unfold jsonT at h
  split at h
  · cases h
  rename_i hl
  split at h
  · cases h
  rename_i hv
  have hv : validD (34 :: x) = true := by simpa using hv
  obtain ⟨s, t, h1, h2, _⟩ := read_quote x v h
  obtain ⟨j1, j2⟩ := str_len _ s t hv h1
  exact ⟨s, h2, j2, by omega⟩
theorem scan_len : ∀ (q : Bool) (r b : List UInt8) (n : Nat), scanT q r = some (b, n) → 0 < n ∧ n ≤ r.length
  | q, [], b, n, h => by unfold scanT at h; cases h
  | q, c :: r, b, n, h => by
    unfold scanT at h
    split at h
    · injection h with h
      injection h with h1 h2
      subst h2
      simp
    · cases hx : scanT (!q && c == 92) r with
      | none => rw [hx] at h; cases h
      | some y =>
        obtain ⟨b', n'⟩ := y
        rw [hx] at h
        injection h with h
        injection h with h1 h2
        have := scan_len _ r b' n' hx
        simp only [List.length_cons] at *
        omega
theorem txt_may (l a : List UInt8) (n : Nat) (h : txtT l = some (a, n)) : textB a = true ∧ (quoteL a).length ≤ 16384 ∧ 0 < n ∧ n ≤ l.length := by
  unfold txtT at h
  cases l with
  | nil => cases h
  | cons c r =>
    simp only at h
    split at h
    · cases h
    · cases hs : scanT false r with
      | none => rw [hs] at h; cases h
      | some y =>
        obtain ⟨b, m⟩ := y
        rw [hs] at h
        simp only at h
        cases hj : jsonT (34 :: (b ++ [34])) with
        | error e => rw [hj] at h; cases h
        | ok v =>
          rw [hj] at h
          simp only at h
          injection h with h
          injection h with h1 h2
          obtain ⟨s, rfl, hv, hq⟩ := json_quote_ok _ v hj
          obtain ⟨k1, k2⟩ := scan_len _ _ _ _ hs
          have he : a = s := h1.symm
          subst he
          have := quote_ge a
          refine ⟨?_, hq, by omega, by simp only [List.length_cons]; omega⟩
          unfold textB
          rw [hv, decide_eq_true (by omega)]; rfl
theorem while_len (p : UInt8 → Bool) : ∀ l : List UInt8, (l.takeWhile p).length ≤ l.length
  | [] => Nat.le_refl _
  | c :: l => by
    rw [List.takeWhile_cons]
    split
    · have := while_len p l; simp only [List.length_cons]; omega
    · exact Nat.zero_le _
theorem num_may (l a : List UInt8) (h : numTk l = some a) : okDigits (body a) = true ∧ 0 < a.length ∧ a.length ≤ l.length := by
  unfold numTk at h
  simp only at h
  split at h
  · rename_i hb
    injection h with h
    rw [Bool.and_eq_true] at hb
    have hd : digitsB ((body l).takeWhile isDig) = true := by have := hb.1; unfold okDigits at this; rw [Bool.and_eq_true] at this; exact this.1
    have hne : (body l).takeWhile isDig ≠ [] := by
      intro e; rw [e] at hd; exact absurd hd (by decide)
    have hlen := while_len isDig (body l)
    have hpos : 0 < ((body l).takeWhile isDig).length := List.length_pos_iff.2 hne
    cases hx : below l with
    | true =>
      rw [hx] at h
      have hbl : (body l).length + 1 = l.length := by
        cases l with
        | nil => cases hx
        | cons c r => unfold body; rw [hx]; rfl
      subst h
      refine ⟨?_, by simp, ?_⟩
      · rw [show body ((if true = true then [45] else []) ++ (body l).takeWhile isDig) = (body l).takeWhile isDig from rfl]
        exact hb.1
      · rw [if_pos rfl, List.length_append]; simp only [List.length_cons, List.length_nil]; omega
    | false =>
      rw [hx] at h
      have hbl : body l = l := by unfold body; rw [hx]; rfl
      rw [if_neg (by decide), List.nil_append] at h
      subst h
      refine ⟨?_, hpos, by rw [hbl] at hlen ⊢; exact hlen⟩
      have : body ((body l).takeWhile isDig) = (body l).takeWhile isDig := by
        rw [hbl] at hne ⊢
        cases l with
        | nil => exact absurd rfl hne
        | cons c r =>
          have hc : c ≠ 45 := by
            have : below (c :: r) = false := hx
            unfold below at this
            exact beq_eq_false_iff_ne.1 this
          rw [List.takeWhile_cons] at hne ⊢
          split
          · unfold body
            rw [show below (c :: r.takeWhile isDig) = false from by unfold below; exact beq_eq_false_iff_ne.2 hc]
            rfl
          · rfl
      rw [this]
      exact hb.1
  · cases h
/-- A token that was read may be; and it is not nothing. -/
theorem tok_may (l a : List UInt8) (k : UInt8) (n : Nat) (p : Int) (hl : l.length ≤ 16384) (h : tokG l = some (k, a, n)) : okT ⟨k, a, p⟩ = true ∧ k ≠ 0 ∧ (tellT ⟨k, a, p⟩).length ≤ 16384 ∧ 0 < n ∧ n ≤ l.length := by
  unfold tokG at h
  cases h1 : nameT l with
  | some x =>
    rw [h1] at h
    injection h with h
    obtain ⟨rfl, rfl, rfl⟩ : 1 = k ∧ x = a ∧ x.length = n := by injection h with h h2; injection h2 with h2 h3; exact ⟨h, h2, h3⟩
    unfold nameT at h1
    simp only at h1
    split at h1
    · rename_i hb
      injection h1 with h1
      have := while_len nameC l
      rw [h1] at hb this
      refine ⟨hb, by decide, ?_, ?_, this⟩
      · show x.length ≤ 16384; omega
      · cases x with
        | nil => cases hb
        | cons c r => simp
    · cases h1
  | none =>
    rw [h1] at h
    cases h2 : numTk l with
    | some x =>
      rw [h2] at h
      injection h with h
      obtain ⟨rfl, rfl, rfl⟩ : 2 = k ∧ x = a ∧ x.length = n := by injection h with h h2; injection h2 with h2 h3; exact ⟨h, h2, h3⟩
      obtain ⟨j1, j2, j3⟩ := num_may l x h2
      exact ⟨j1, by decide, by show x.length ≤ 16384; omega, j2, j3⟩
    | none =>
      rw [h2] at h
      cases h3 : txtT l with
      | some y =>
        obtain ⟨x, m⟩ := y
        rw [h3] at h
        injection h with h
        obtain ⟨rfl, rfl, rfl⟩ : 3 = k ∧ x = a ∧ m = n := by injection h with h h2; injection h2 with h2 h3; exact ⟨h, h2, h3⟩
        obtain ⟨j1, j2, j3, j4⟩ := txt_may l x m h3
        exact ⟨j1, by decide, j2, j3, j4⟩
      | none =>
        rw [h3] at h
        simp only at h
        cases h4 : punT l with
        | none => rw [h4] at h; cases h
        | some x =>
          rw [h4] at h
          injection h with h
          obtain ⟨rfl, rfl, rfl⟩ : 4 = k ∧ x = a ∧ x.length = n := by injection h with h h2; injection h2 with h2 h3; exact ⟨h, h2, h3⟩
          unfold punT at h4
          split at h4
          · rename_i hp
            injection h4 with h4
            subst h4
            have := (List.isPrefixOf_iff_prefix.1 hp).length_le
            refine ⟨?_, by decide, ?_, by decide, this⟩
            · show markB [46, 46, 46] = true; decide
            · show ([46, 46, 46] : List UInt8).length ≤ 16384; simp
          · cases l with
            | nil => cases h4
            | cons c r =>
              simp only at h4
              split at h4
              · rename_i hm
                injection h4 with h4
                subst h4
                refine ⟨?_, by decide, by show ([c] : List UInt8).length ≤ 16384; simp, by simp, by simp⟩
                show markB [c] = true
                unfold markB
                rw [Bool.or_eq_true]
                exact Or.inr hm
              · cases h4
def incB : Int → List Tok → Bool
  | _, [] => true
  | a, t :: r => decide (a < t.pos) && incB t.pos r
theorem inc_low : ∀ (L : List Tok) (a b : Int), b ≤ a → incB a L = true → incB b L = true
  | [], _, _, _, _ => rfl
  | t :: r, a, b, h, hi => by
    unfold incB at hi ⊢
    simp only [Bool.and_eq_true, decide_eq_true_eq] at hi ⊢
    exact ⟨by omega, hi.2⟩
theorem hid_len : ∀ (f : Nat) (l : List UInt8), (hidG f l).length ≤ l.length
  | 0, l => Nat.le_refl _
  | f + 1, [] => Nat.le_refl _
  | f + 1, c :: r => by
    unfold hidG
    split
    · have := hid_len f r; simp only [List.length_cons]; omega
    · split
      · have := hid_len f ((c :: r).drop 3)
        simp only [List.length_drop, List.length_cons] at this ⊢
        omega
      · exact Nat.le_refl _
theorem dwhile_len (p : UInt8 → Bool) : ∀ l : List UInt8, (l.dropWhile p).length ≤ l.length
  | [] => Nat.le_refl _
  | c :: l => by
    rw [List.dropWhile_cons]
    split
    · have := dwhile_len p l; simp only [List.length_cons]; omega
    · exact Nat.le_refl _
theorem skip_len : ∀ (f : Nat) (l : List UInt8), (skipG f l).1.length ≤ l.length
  | 0, l => Nat.le_refl _
  | f + 1, l => by
    have h0 : (hid0 l).length ≤ l.length := hid_len _ l
    unfold skipG
    cases hx : hid0 l with
    | nil => exact Nat.zero_le _
    | cons c r =>
      rw [hx] at h0
      simp only
      split
      · split
        · simp only [List.length_drop]; omega
        · have h1 := skip_len f ((c :: r).dropWhile lineC)
          have h2 := dwhile_len lineC (c :: r)
          omega
      · exact h0
/-- What is read: tokens that may be, behind each other, and their end. -/
theorem lex_ok : ∀ (k a : Nat) (l : List UInt8) (acc R : List Tok), l.length ≤ 16384 → lexG k a l acc = .ok R →
    ∃ M e, R = acc ++ (M ++ [e]) ∧ kt e = (0, []) ∧ M.length ≤ l.length ∧ (∀ t ∈ M, okT t = true ∧ t.kind ≠ 0 ∧ (tellT t).length ≤ 16384) ∧ incB ((a : Int) - 1) (M ++ [e]) = true
  | k, a, l, acc, R, hl, h => by
    have hs : (skip0 l).1.length ≤ l.length := skip_len _ l
    unfold lexG at h
    cases hx : skip0 l with
    | mk l1 ok =>
      rw [hx] at h hs
      simp only at h hs
      split at h
      · cases h
      split at h
      · injection h with h
        refine ⟨[], _, h.symm, rfl, Nat.zero_le _, (fun t h => by cases h), ?_⟩
        show incB _ [_] = true
        unfold incB incB
        simp only [Bool.and_eq_true, decide_eq_true_eq]
        exact ⟨by omega, trivial⟩
      · cases k with
        | zero => cases h
        | succ k =>
          simp only at h
          cases ht : tokG l1 with
          | none => rw [ht] at h; cases h
          | some y =>
            obtain ⟨kd, tx, n⟩ := y
            rw [ht] at h
            simp only at h
            obtain ⟨j1, j2, j3, j4, j5⟩ := tok_may l1 tx kd n ((a + (l.length - l1.length) : Nat) : Int) (by omega) ht
            obtain ⟨M, e, m1, m2, m3, m4, m5⟩ := lex_ok k _ _ _ R (by rw [List.length_drop]; omega) h
            refine ⟨⟨kd, tx, ((a + (l.length - l1.length) : Nat) : Int)⟩ :: M, e, ?_, m2, ?_, ?_, ?_⟩
            · rw [m1, List.append_assoc]; rfl
            · rw [List.length_drop] at m3; simp only [List.length_cons]; omega
            · intro t ht
              rcases List.mem_cons.1 ht with rfl | ht
              · exact ⟨j1, j2, j3⟩
              · exact m4 t ht
            · show incB _ (_ :: (M ++ [e])) = true
              unfold incB
              simp only [Bool.and_eq_true, decide_eq_true_eq]
              exact ⟨by omega, inc_low _ _ _ (by omega) m5⟩
end Go.Proofs.YtgaknbnhmoddcaaGreatDoor
namespace Go.Proofs.YtgaknbnhmoddcaaGreatDoor
open Go.RowKit
theorem ib_cases (c : UInt8) : ∀ l : List UInt8, (l.contains c = true ∧ ∃ k : Nat, Lib.indexByte l c = k) ∨ (l.contains c = false ∧ Lib.indexByte l c = -1)
  | [] => Or.inr ⟨rfl, rfl⟩
  | b :: l => by
    rw [Lib.indexByte, List.contains_cons]
    by_cases hb : b = c
    · left; subst hb; exact ⟨by simp, 0, by simp⟩
    · have h1 : (b == c) = false := by simpa using hb
      have h2 : (c == b) = false := by simpa using fun e => hb e.symm
      rw [h1, h2, Bool.false_or]
      rcases ib_cases c l with ⟨g1, k, g2⟩ | ⟨g1, g2⟩
      · left
        refine ⟨g1, k + 1, ?_⟩
        rw [g2]
        have : (((k : Int)) == -1) = false := by rw [beq_eq_false_iff_ne]; omega
        simp only [Bool.false_eq_true, if_false, this]; omega
      · right
        refine ⟨g1, ?_⟩
        rw [g2]; rfl
theorem len_z (s : ByteArray) : s.data.toList.length = s.size := by rw [Array.length_toList]; rfl
theorem empty_z (s : ByteArray) : (0 < s.size ∧ ¬ s.toList = [] ∧ s.toList.isEmpty = false ∧ s.data.toList ≠ []) ∨ (s.size = 0 ∧ s.toList = [] ∧ s.toList.isEmpty = true ∧ s.data.toList = []) := by
  rw [ByteArray.toList_eq]
  have := len_z s
  cases h : s.data.toList with
  | nil => right; rw [h] at this; exact ⟨this.symm, rfl, rfl, rfl⟩
  | cons c r => left; rw [h] at this; exact ⟨by simp at this; omega, by simp, rfl, by simp⟩
def nameMs : List UInt8 := [95, 97, 98, 99, 100, 101, 102, 103, 104, 105, 106, 107, 108, 109, 110, 111, 112, 113, 114, 115, 116, 117, 118, 119, 120, 121, 122, 65, 66, 67, 68, 69, 70, 71, 72, 73, 74, 75, 76, 77, 78, 79, 80, 81, 82, 83, 84, 85, 86, 87, 88, 89, 90, 48, 49, 50, 51, 52, 53, 54, 55, 56, 57]
theorem all256' {f : UInt8 → Bool} (h : ∀ i : Fin 256, f (UInt8.ofNat i.val) = true) (c : UInt8) : f c = true := by
  have := h ⟨c.toNat, UInt8.toNat_lt c⟩
  simpa using this
theorem name_ms (c : UInt8) : nameMs.contains c = nameC c := by
  have := all256' (f := fun c => nameMs.contains c == nameC c) (by decide +kernel) c
  simpa using this
theorem head_z (s : ByteArray) (h : 0 < s.size) : s.data.toList = s[0] :: s.data.toList.drop 1 := by
  have := drop_at s 0 h
  rwa [List.drop_zero] at this
theorem ib_dig (c : UInt8) : Lib.indexByte (⟨#[48, 49, 50, 51, 52, 53, 54, 55, 56, 57]⟩ : ByteArray).data.toList c = if isDig c then ((c.toNat - 48 : Nat) : Int) else -1 := by
  have := all256' (f := fun c => Lib.indexByte (⟨#[48, 49, 50, 51, 52, 53, 54, 55, 56, 57]⟩ : ByteArray).data.toList c == if isDig c then ((c.toNat - 48 : Nat) : Int) else -1) (by decide +kernel) c
  simpa using this
theorem bytes_ext' {a : ByteArray} {l : List UInt8} (h : a.data.toList = l) : a = ⟨l.toArray⟩ := by
  obtain ⟨d⟩ := a
  have : d = l.toArray := by apply Array.ext'; simpa using h
  rw [this]
end Go.Proofs.YtgaknbnhmoddcaaGreatDoor
namespace Go.Proofs.YtgaknbnhmoddcaaGreatDoor
open Go.RowKit
theorem encode_high (r : Int) (h : 128 ≤ r) : 2 ≤ (Utf8.encode r).size ∧ ∀ (k : Nat) (hk : k < (Utf8.encode r).size), 128 ≤ ((Utf8.encode r)[k]).toNat := by
  have hc : ∃ c : Nat, 128 ≤ c ∧ c < 1114112 ∧ Utf8.encode r = (let b (n : Nat) : UInt8 := UInt8.ofNat n
      if c < 0x80 then ⟨#[b c]⟩
      else if c < 0x800 then ⟨#[b (0xC0 + c / 64), b (0x80 + c % 64)]⟩
      else if c < 0x10000 then ⟨#[b (0xE0 + c / 4096), b (0x80 + c / 64 % 64), b (0x80 + c % 64)]⟩
      else ⟨#[b (0xF0 + c / 262144), b (0x80 + c / 4096 % 64), b (0x80 + c / 64 % 64), b (0x80 + c % 64)]⟩) := by
    refine ⟨if Utf8.valid r then r.toNat else Utf8.runeError, ?_, ?_, rfl⟩
    · split
      · omega
      · decide
    · split
      · rename_i hv
        simp only [Utf8.valid, Bool.or_eq_true, Bool.and_eq_true, decide_eq_true_eq] at hv
        omega
      · decide
  obtain ⟨c, h1, h2, e⟩ := hc
  rw [e]
  simp only
  split
  · exfalso; omega
  split
  · refine ⟨by show 2 ≤ Array.size _; simp, ?_⟩
    intro k hk
    match k, hk with
    | 0, _ => show 128 ≤ (UInt8.ofNat (192 + c / 64)).toNat; rw [UInt8.toNat_ofNat']; omega
    | 1, _ => show 128 ≤ (UInt8.ofNat (128 + c % 64)).toNat; rw [UInt8.toNat_ofNat']; omega
  · split
    · refine ⟨by show 2 ≤ Array.size _; simp, ?_⟩
      intro k hk
      match k, hk with
      | 0, _ => show 128 ≤ (UInt8.ofNat (224 + c / 4096)).toNat; rw [UInt8.toNat_ofNat']; omega
      | 1, _ => show 128 ≤ (UInt8.ofNat (128 + c / 64 % 64)).toNat; rw [UInt8.toNat_ofNat']; omega
      | 2, _ => show 128 ≤ (UInt8.ofNat (128 + c % 64)).toNat; rw [UInt8.toNat_ofNat']; omega
    · refine ⟨by show 2 ≤ Array.size _; simp, ?_⟩
      intro k hk
      match k, hk with
      | 0, _ => show 128 ≤ (UInt8.ofNat (240 + c / 262144)).toNat; rw [UInt8.toNat_ofNat']; omega
      | 1, _ => show 128 ≤ (UInt8.ofNat (128 + c / 4096 % 64)).toNat; rw [UInt8.toNat_ofNat']; omega
      | 2, _ => show 128 ≤ (UInt8.ofNat (128 + c / 64 % 64)).toNat; rw [UInt8.toNat_ofNat']; omega
      | 3, _ => show 128 ≤ (UInt8.ofNat (128 + c % 64)).toNat; rw [UInt8.toNat_ofNat']; omega
set_option maxRecDepth 100000 in
theorem rune_none (r : Int) (h : 128 ≤ r) (h2 : r ≤ 2147483647) (w : World) :
    Calls Tryz.prog 104 #[.string ⟨#[13, 10]⟩, .int .i32 r] w fun e w' => e = .returned (.int .i64 (-1)) ∧ Below w.heap.size w w' := by
  have h0 : 0 ≤ r := by omega
  have h1 : ¬ r < 128 := by omega
  by_cases he : r = 65533
  · subst he
    have n0 := fun (w : World) ty => run_next_ascii (P := Tryz.prog) w ⟨#[13, 10]⟩ 0 ty (by decide) (by decide)
    have n1 := fun (w : World) ty => run_next_ascii (P := Tryz.prog) w ⟨#[13, 10]⟩ 1 ty (by decide) (by decide)
    have n2 := fun (w : World) ty => run_next_end (P := Tryz.prog) w ⟨#[13, 10]⟩ 2 ty (by decide)
    go_enter Tryz.func104, Tryz.ntmps104
    go_wp2_with fail
    refine wp_loop_rounds 3 ?_
    rw [rounds_succ]
    go_wp2_with fail
    rw [rounds_succ]
    go_wp2_with fail
    rw [rounds_succ]
    go_wp2_with fail
    go_ret
    refine ⟨rfl, ?_⟩
    unfold World.iter
    exact (Below.refl _ _).alloc (Nat.le_refl _) _
  · have HV := Lib.hid (fun w => Tryz.utf8_ValidRune r w)
    have HE := Lib.hid (encode_high r h)
    obtain ⟨vb, hvb⟩ : ∃ b, Lib.validRune r = b := ⟨_, rfl⟩
    rw [hvb] at HV
    clear hvb
    cases vb
    · go_enter Tryz.func104, Tryz.ntmps104
      go_wp2_with fail
      refine (HV.out _).mono ?_; rintro e w1 ⟨rfl, rfl⟩
      go_wp2_with fail
      go_ret
      exact ⟨rfl, Below.refl _ _⟩
    · obtain ⟨rs, hrs⟩ : ∃ rs : ByteArray, Utf8.encode r = rs := ⟨_, rfl⟩
      rw [hrs] at HE
      have hsz : 2 ≤ rs.size := HE.out.1
      have hsz4 : rs.size ≤ 1000 := by rw [← hrs]; have := encode_size_le r; omega
      have HX := Lib.hid (fun (s : ByteArray) (c : Int) (w : World) => Tryz.strings_IndexByte s c w)
      by_cases hs2 : rs.size = 2
      · have hl : 128 ≤ (rs[1]'(by omega)).toNat := HE.out.2 1 (by omega)
        go_enter Tryz.func104, Tryz.ntmps104
        go_wp2_with fail
        refine (HV.out _).mono ?_; rintro e w1 ⟨rfl, rfl⟩
        go_wp2_with fail
        have hne : (((⟨#[13, 10]⟩ : ByteArray)[1]'(by decide)).toNat : Int) = 10 := rfl
        have hwr : IntKind.i64.wrap 2 = 2 := by decide
        have hib : ∀ c : UInt8, Lib.indexByte [] c = -1 := fun _ => rfl
        have hl1 : ¬ ((10 : Int) = ((rs[1]'(by omega)).toNat : Int)) := by omega
        go_step3
        go_wp2_with fail
        refine wp_loop_rounds 1 ?_
        rw [rounds_succ]
        go_wp2_with fail
        go_step3
        go_wp2_with fail
        go_quiet (fail)
        go_wp2_with fail
        go_region_held3 (fun W => Below w1.heap.size w1 W) (first | assumption | exact ⟨rfl, rfl, rfl, Nat.le_refl _, fun _ _ => rfl⟩) (first | (go_at_call 72; refine (HX.out _ _ _).mono ?_; rintro e w3 ⟨rfl, rfl⟩) | fail)
        rename_i hS
        go_wp2_with fail
        rw [Exit.noGoto_ret]
        go_wp2_with fail
        rw [Exit.noGoto_ret]
        go_ret
        exact ⟨rfl, hS⟩
      · have hs3 : 3 ≤ rs.size := by omega
        go_enter Tryz.func104, Tryz.ntmps104
        go_wp2_with fail
        refine (HV.out _).mono ?_; rintro e w1 ⟨rfl, rfl⟩
        go_wp2_with fail
        have hlt : decide ((rs.size : Int) - 1 < 2) = false := by simp; omega
        have hlt2 : ¬ ((rs.size : Int) - 1 < 2) := by omega
        go_step3
        go_wp2_with fail
        refine wp_loop_rounds 1 ?_
        rw [rounds_succ]
        go_wp2_with fail
        rw [Exit.noGoto_ret]
        go_ret
        exact ⟨rfl, Below.refl _ _⟩
end Go.Proofs.YtgaknbnhmoddcaaGreatDoor
namespace Go.Proofs.YtgaknbnhmoddcaaGreatDoor
open Go.RowKit


theorem wp_scope_once {P : Program} {a : Act} {w : World} {Q : Exit → Act → World → Prop} {c rest : Code} (l : Nat) (hf : findLabel c l = some rest)
    (first : c.wp P (Exit.jump l (fun a w => rest.wp P (Exit.noGoto Q) a w) Q) a w) : (Code.scope c).wp P Q a w :=
  wp_scope_jumps l (fun a w => rest.wp P (Exit.noGoto Q) a w) (fun _ _ => 0) hf first fun a w hJ => wp_mono hJ fun e a w h => by
    cases e with
    | goto l' => exact h.elim
    | _ => exact h
theorem jump_goto {l : Nat} {J : Act → World → Prop} {Q : Exit → Act → World → Prop} {a : Act} {w : World} (h : J a w) : Exit.jump l J Q (.goto l) a w := ⟨rfl, h⟩
set_option maxRecDepth 100000 in
set_option maxHeartbeats 1000000 in
theorem rune_2_other (r : Int) (h : 128 ≤ r) (h2 : r ≤ 2147483647) (b0 b1 : UInt8) (he : ¬ r = 65533) (hrs : Hid (Utf8.encode r = ⟨#[b0, b1]⟩)) (HV : Hid (∀ w, Calls Tryz.prog 121 #[.int .i32 r] w fun e w' => e = .returned (.bool true) ∧ w = w')) (h128 : (128 : Int) ≤ ((b1.toNat : Nat) : Int)) (h191 : ((b1.toNat : Nat) : Int) ≤ 191) (hy : Hid (Lib.indexByte [13, 10, 44, 239, 187, 191] b1 = -1)) (w : World) :
    Calls Tryz.prog 104 #[.string ⟨#[32, 9, 13, 10, 44, 239, 187, 191]⟩, .int .i32 r] w fun e w' => e = .returned (.int .i64 (-1)) ∧ Below w.heap.size w w' := by
  have h0 : 0 ≤ r := by omega
  have h1 : ¬ r < 128 := by omega
  have HX : Hid (∀ w, Calls Tryz.prog 72 #[.string (⟨#[13, 10, 44, 239, 187, 191]⟩ : ByteArray), .int .u8 ((b1.toNat : Nat) : Int)] w fun e w' => e = .returned (.int .i64 (-1)) ∧ w = w') := Lib.hid (fun w => by
    have := Tryz.strings_IndexByte (⟨#[13, 10, 44, 239, 187, 191]⟩ : ByteArray) ((b1.toNat : Nat) : Int) w
    rw [show (((b1.toNat : Nat) : Int)).toNat.toUInt8 = b1 by simp, hy.out] at this
    exact this.mono fun e w' ⟨h1, h2⟩ => ⟨h1, h2.symm⟩)
  have hx : (⟨#[32, 9, 13, 10, 44, 239, 187, 191]⟩ : ByteArray).extract 2 8 = (⟨#[13, 10, 44, 239, 187, 191]⟩ : ByteArray) := rfl
  have hs1 : (((⟨#[32, 9, 13, 10, 44, 239, 187, 191]⟩ : ByteArray)[1]'(by decide)).toNat : Int) = 9 := rfl
  have hl1 : ¬ ((9 : Int) = ((b1.toNat : Nat) : Int)) := by omega
  obtain ⟨rs, hr⟩ : ∃ rs, Utf8.encode r = rs := ⟨_, rfl⟩
  have hz : rs.size = 2 := by rw [← hr, hrs.out]; rfl
  have e0 : ∀ hk, rs[0]'hk = b0 := by rw [← hr, hrs.out]; intro _; rfl
  have e1 : ∀ hk, rs[1]'hk = b1 := by rw [← hr, hrs.out]; intro _; rfl
  clear hrs
  have hwr : IntKind.i64.wrap 2 = 2 := by decide
  go_enter Tryz.func104, Tryz.ntmps104
  go_wp2_with fail
  refine (HV.out _).mono ?_; rintro e w1 ⟨rfl, rfl⟩
  go_wp2_with fail
  go_step3
  go_wp2_with fail
  refine wp_loop_rounds 3 ?_
  rw [rounds_succ]
  go_wp2_with fail
  go_step3
  go_wp2_with fail
  go_quiet (fail)
  go_wp2_with fail
  go_region_held3 (fun W => Below w.heap.size w W) (first | assumption | exact ⟨rfl, rfl, rfl, Nat.le_refl _, fun _ _ => rfl⟩) (first | (go_at_call 72; refine (HX.out _).mono ?_; rintro e w3 ⟨rfl, rfl⟩) | fail)
  rename_i hS
  go_wp2_with fail
  rw [Exit.noGoto_ret]
  go_wp2_with fail
  rw [Exit.noGoto_ret]
  go_ret
  exact ⟨rfl, hS⟩
set_option maxRecDepth 100000 in
set_option maxHeartbeats 1000000 in
theorem rune_2_187_n (r : Int) (h : 128 ≤ r) (h2 : r ≤ 2147483647) (b0 b1 : UInt8) (he : ¬ r = 65533) (hrs : Hid (Utf8.encode r = ⟨#[b0, b1]⟩)) (HV : Hid (∀ w, Calls Tryz.prog 121 #[.int .i32 r] w fun e w' => e = .returned (.bool true) ∧ w = w')) (h128 : (128 : Int) ≤ ((b1.toNat : Nat) : Int)) (h191 : ((b1.toNat : Nat) : Int) ≤ 191) (hy : b1 = 187) (k0 : ¬ ((239 : Int) = ((b0.toNat : Nat) : Int))) (w : World) :
    Calls Tryz.prog 104 #[.string ⟨#[32, 9, 13, 10, 44, 239, 187, 191]⟩, .int .i32 r] w fun e w' => e = .returned (.int .i64 (-1)) ∧ Below w.heap.size w w' := by
  have h0 : 0 ≤ r := by omega
  have h1 : ¬ r < 128 := by omega
  subst hy
  have HX : Hid (∀ w, Calls Tryz.prog 72 #[.string (⟨#[13, 10, 44, 239, 187, 191]⟩ : ByteArray), .int .u8 187] w fun e w' => e = .returned (.int .i64 4) ∧ w = w') := Lib.hid (fun w => (Tryz.strings_IndexByte (⟨#[13, 10, 44, 239, 187, 191]⟩ : ByteArray) 187 w).mono fun e w' ⟨h1, h2⟩ => ⟨h1, h2.symm⟩)
  have hx : (⟨#[32, 9, 13, 10, 44, 239, 187, 191]⟩ : ByteArray).extract 2 8 = (⟨#[13, 10, 44, 239, 187, 191]⟩ : ByteArray) := rfl
  have hs1 : (((⟨#[32, 9, 13, 10, 44, 239, 187, 191]⟩ : ByteArray)[1]'(by decide)).toNat : Int) = 9 := rfl
  obtain ⟨rs, hr⟩ : ∃ rs, Utf8.encode r = rs := ⟨_, rfl⟩
  have hz : rs.size = 2 := by rw [← hr, hrs.out]; rfl
  have e0 : ∀ hk, rs[0]'hk = b0 := by rw [← hr, hrs.out]; intro _; rfl
  have e1 : ∀ hk, rs[1]'hk = 187 := by rw [← hr, hrs.out]; intro _; rfl
  clear hrs
  have hwr : IntKind.i64.wrap 2 = 2 := by decide
  go_enter Tryz.func104, Tryz.ntmps104
  go_wp2_with fail
  refine (HV.out _).mono ?_; rintro e w1 ⟨rfl, rfl⟩
  go_wp2_with fail
  go_step3
  go_wp2_with fail
  refine wp_loop_rounds 3 ?_
  rw [rounds_succ]
  go_wp2_with fail
  refine wp_scope_once 0 rfl ?_
  go_wp2_with fail
  go_quiet (fail)
  go_wp2_with fail
  go_region_held3 (fun W => Below w.heap.size w W) (first | assumption | exact ⟨rfl, rfl, rfl, Nat.le_refl _, fun _ _ => rfl⟩) (first | (go_at_call 72; refine (HX.out _).mono ?_; rintro e w3 ⟨rfl, rfl⟩) | fail)
  rename_i hS
  go_wp2_with fail
  have hq0 : (((⟨#[32, 9, 13, 10, 44, 239, 187, 191]⟩ : ByteArray)[5]'(by decide)).toNat : Int) = 239 := rfl
  refine wp_loop_rounds 5 ?_
  rw [rounds_succ]
  go_wp2_with fail
  (try (go_step3; go_wp2_with fail))
  go_quiet (fail)
  go_wp2_with fail
  go_step3
  go_wp2_with fail
  refine jump_goto ?_
  go_wp2_with fail
  go_wp2
  rw [Exit.noGoto_normal]
  go_wp2_with fail
  have hs7 : (((⟨#[32, 9, 13, 10, 44, 239, 187, 191]⟩ : ByteArray)[7]'(by decide)).toNat : Int) = 191 := rfl
  rw [rounds_succ]
  go_wp2_with fail
  go_step3
  go_wp2_with fail
  go_quiet (fail)
  go_wp2_with fail
  have hx8 : (⟨#[32, 9, 13, 10, 44, 239, 187, 191]⟩ : ByteArray).extract 8 8 = ⟨#[]⟩ := rfl
  have hwr8 : IntKind.i64.wrap 8 = 8 := by decide
  have HX0 : Hid (∀ w, Calls Tryz.prog 72 #[.string ⟨#[]⟩, .int .u8 187] w fun e w' => e = .returned (.int .i64 (-1)) ∧ w = w') := Lib.hid (fun w => (Tryz.strings_IndexByte ⟨#[]⟩ 187 w).mono fun e w' ⟨h1, h2⟩ => ⟨h1, h2.symm⟩)
  clear hS
  go_region_held3 (fun W => Below w.heap.size w W) (first | assumption | exact ⟨rfl, rfl, rfl, Nat.le_refl _, fun _ _ => rfl⟩) (first | (go_at_call 72; refine (HX0.out _).mono ?_; rintro e w3 ⟨rfl, rfl⟩) | fail)
  rename_i hS
  go_wp2_with fail
  rw [Exit.noGoto_ret]
  go_wp2_with fail
  (try (rw [Exit.noGoto_ret]))
  go_ret
  exact ⟨rfl, below_dN _ (Below.refl _ _)⟩
set_option maxRecDepth 100000 in
set_option maxHeartbeats 1000000 in
theorem rune_2_191_n (r : Int) (h : 128 ≤ r) (h2 : r ≤ 2147483647) (b0 b1 : UInt8) (he : ¬ r = 65533) (hrs : Hid (Utf8.encode r = ⟨#[b0, b1]⟩)) (HV : Hid (∀ w, Calls Tryz.prog 121 #[.int .i32 r] w fun e w' => e = .returned (.bool true) ∧ w = w')) (h128 : (128 : Int) ≤ ((b1.toNat : Nat) : Int)) (h191 : ((b1.toNat : Nat) : Int) ≤ 191) (hy : b1 = 191) (k0 : ¬ ((187 : Int) = ((b0.toNat : Nat) : Int))) (w : World) :
    Calls Tryz.prog 104 #[.string ⟨#[32, 9, 13, 10, 44, 239, 187, 191]⟩, .int .i32 r] w fun e w' => e = .returned (.int .i64 (-1)) ∧ Below w.heap.size w w' := by
  have h0 : 0 ≤ r := by omega
  have h1 : ¬ r < 128 := by omega
  subst hy
  have HX : Hid (∀ w, Calls Tryz.prog 72 #[.string (⟨#[13, 10, 44, 239, 187, 191]⟩ : ByteArray), .int .u8 191] w fun e w' => e = .returned (.int .i64 5) ∧ w = w') := Lib.hid (fun w => (Tryz.strings_IndexByte (⟨#[13, 10, 44, 239, 187, 191]⟩ : ByteArray) 191 w).mono fun e w' ⟨h1, h2⟩ => ⟨h1, h2.symm⟩)
  have hx : (⟨#[32, 9, 13, 10, 44, 239, 187, 191]⟩ : ByteArray).extract 2 8 = (⟨#[13, 10, 44, 239, 187, 191]⟩ : ByteArray) := rfl
  have hs1 : (((⟨#[32, 9, 13, 10, 44, 239, 187, 191]⟩ : ByteArray)[1]'(by decide)).toNat : Int) = 9 := rfl
  obtain ⟨rs, hr⟩ : ∃ rs, Utf8.encode r = rs := ⟨_, rfl⟩
  have hz : rs.size = 2 := by rw [← hr, hrs.out]; rfl
  have e0 : ∀ hk, rs[0]'hk = b0 := by rw [← hr, hrs.out]; intro _; rfl
  have e1 : ∀ hk, rs[1]'hk = 191 := by rw [← hr, hrs.out]; intro _; rfl
  clear hrs
  have hwr : IntKind.i64.wrap 2 = 2 := by decide
  go_enter Tryz.func104, Tryz.ntmps104
  go_wp2_with fail
  refine (HV.out _).mono ?_; rintro e w1 ⟨rfl, rfl⟩
  go_wp2_with fail
  go_step3
  go_wp2_with fail
  refine wp_loop_rounds 3 ?_
  rw [rounds_succ]
  go_wp2_with fail
  refine wp_scope_once 0 rfl ?_
  go_wp2_with fail
  go_quiet (fail)
  go_wp2_with fail
  go_region_held3 (fun W => Below w.heap.size w W) (first | assumption | exact ⟨rfl, rfl, rfl, Nat.le_refl _, fun _ _ => rfl⟩) (first | (go_at_call 72; refine (HX.out _).mono ?_; rintro e w3 ⟨rfl, rfl⟩) | fail)
  rename_i hS
  go_wp2_with fail
  have hq0 : (((⟨#[32, 9, 13, 10, 44, 239, 187, 191]⟩ : ByteArray)[6]'(by decide)).toNat : Int) = 187 := rfl
  refine wp_loop_rounds 5 ?_
  rw [rounds_succ]
  go_wp2_with fail
  (try (go_step3; go_wp2_with fail))
  go_quiet (fail)
  go_wp2_with fail
  go_step3
  go_wp2_with fail
  refine jump_goto ?_
  go_wp2_with fail
  go_wp2
  rw [Exit.noGoto_normal]
  go_wp2_with fail
  rw [rounds_succ]
  go_wp2_with fail
  rw [Exit.noGoto_ret]
  go_wp2_with fail
  (try (rw [Exit.noGoto_ret]))
  go_ret
  exact ⟨rfl, below_dN _ (Below.refl _ _)⟩
set_option maxRecDepth 100000 in
set_option maxHeartbeats 1000000 in
theorem rune_3_other (r : Int) (h : 128 ≤ r) (h2 : r ≤ 2147483647) (b0 b1 b2 : UInt8) (he : ¬ r = 65533) (hrs : Hid (Utf8.encode r = ⟨#[b0, b1, b2]⟩)) (HV : Hid (∀ w, Calls Tryz.prog 121 #[.int .i32 r] w fun e w' => e = .returned (.bool true) ∧ w = w')) (h128 : (128 : Int) ≤ ((b2.toNat : Nat) : Int)) (h191 : ((b2.toNat : Nat) : Int) ≤ 191) (hy : Hid (Lib.indexByte [10, 44, 239, 187, 191] b2 = -1)) (w : World) :
    Calls Tryz.prog 104 #[.string ⟨#[32, 9, 13, 10, 44, 239, 187, 191]⟩, .int .i32 r] w fun e w' => e = .returned (.int .i64 (-1)) ∧ Below w.heap.size w w' := by
  have h0 : 0 ≤ r := by omega
  have h1 : ¬ r < 128 := by omega
  have HX : Hid (∀ w, Calls Tryz.prog 72 #[.string (⟨#[10, 44, 239, 187, 191]⟩ : ByteArray), .int .u8 ((b2.toNat : Nat) : Int)] w fun e w' => e = .returned (.int .i64 (-1)) ∧ w = w') := Lib.hid (fun w => by
    have := Tryz.strings_IndexByte (⟨#[10, 44, 239, 187, 191]⟩ : ByteArray) ((b2.toNat : Nat) : Int) w
    rw [show (((b2.toNat : Nat) : Int)).toNat.toUInt8 = b2 by simp, hy.out] at this
    exact this.mono fun e w' ⟨h1, h2⟩ => ⟨h1, h2.symm⟩)
  have hx : (⟨#[32, 9, 13, 10, 44, 239, 187, 191]⟩ : ByteArray).extract 3 8 = (⟨#[10, 44, 239, 187, 191]⟩ : ByteArray) := rfl
  have hs2 : (((⟨#[32, 9, 13, 10, 44, 239, 187, 191]⟩ : ByteArray)[2]'(by decide)).toNat : Int) = 13 := rfl
  have hl1 : ¬ ((13 : Int) = ((b2.toNat : Nat) : Int)) := by omega
  obtain ⟨rs, hr⟩ : ∃ rs, Utf8.encode r = rs := ⟨_, rfl⟩
  have hz : rs.size = 3 := by rw [← hr, hrs.out]; rfl
  have e0 : ∀ hk, rs[0]'hk = b0 := by rw [← hr, hrs.out]; intro _; rfl
  have e1 : ∀ hk, rs[1]'hk = b1 := by rw [← hr, hrs.out]; intro _; rfl
  have e2 : ∀ hk, rs[2]'hk = b2 := by rw [← hr, hrs.out]; intro _; rfl
  clear hrs
  have hwr : IntKind.i64.wrap 3 = 3 := by decide
  go_enter Tryz.func104, Tryz.ntmps104
  go_wp2_with fail
  refine (HV.out _).mono ?_; rintro e w1 ⟨rfl, rfl⟩
  go_wp2_with fail
  go_step3
  go_wp2_with fail
  refine wp_loop_rounds 3 ?_
  rw [rounds_succ]
  go_wp2_with fail
  go_step3
  go_wp2_with fail
  go_quiet (fail)
  go_wp2_with fail
  go_region_held3 (fun W => Below w.heap.size w W) (first | assumption | exact ⟨rfl, rfl, rfl, Nat.le_refl _, fun _ _ => rfl⟩) (first | (go_at_call 72; refine (HX.out _).mono ?_; rintro e w3 ⟨rfl, rfl⟩) | fail)
  rename_i hS
  go_wp2_with fail
  rw [Exit.noGoto_ret]
  go_wp2_with fail
  rw [Exit.noGoto_ret]
  go_ret
  exact ⟨rfl, hS⟩
set_option maxRecDepth 100000 in
set_option maxHeartbeats 1000000 in
theorem rune_3_187_n (r : Int) (h : 128 ≤ r) (h2 : r ≤ 2147483647) (b0 b1 b2 : UInt8) (he : ¬ r = 65533) (hrs : Hid (Utf8.encode r = ⟨#[b0, b1, b2]⟩)) (HV : Hid (∀ w, Calls Tryz.prog 121 #[.int .i32 r] w fun e w' => e = .returned (.bool true) ∧ w = w')) (h128 : (128 : Int) ≤ ((b2.toNat : Nat) : Int)) (h191 : ((b2.toNat : Nat) : Int) ≤ 191) (hy : b2 = 187) (k0 : ¬ ((239 : Int) = ((b1.toNat : Nat) : Int))) (w : World) :
    Calls Tryz.prog 104 #[.string ⟨#[32, 9, 13, 10, 44, 239, 187, 191]⟩, .int .i32 r] w fun e w' => e = .returned (.int .i64 (-1)) ∧ Below w.heap.size w w' := by
  have h0 : 0 ≤ r := by omega
  have h1 : ¬ r < 128 := by omega
  subst hy
  have HX : Hid (∀ w, Calls Tryz.prog 72 #[.string (⟨#[10, 44, 239, 187, 191]⟩ : ByteArray), .int .u8 187] w fun e w' => e = .returned (.int .i64 3) ∧ w = w') := Lib.hid (fun w => (Tryz.strings_IndexByte (⟨#[10, 44, 239, 187, 191]⟩ : ByteArray) 187 w).mono fun e w' ⟨h1, h2⟩ => ⟨h1, h2.symm⟩)
  have hx : (⟨#[32, 9, 13, 10, 44, 239, 187, 191]⟩ : ByteArray).extract 3 8 = (⟨#[10, 44, 239, 187, 191]⟩ : ByteArray) := rfl
  have hs2 : (((⟨#[32, 9, 13, 10, 44, 239, 187, 191]⟩ : ByteArray)[2]'(by decide)).toNat : Int) = 13 := rfl
  obtain ⟨rs, hr⟩ : ∃ rs, Utf8.encode r = rs := ⟨_, rfl⟩
  have hz : rs.size = 3 := by rw [← hr, hrs.out]; rfl
  have e0 : ∀ hk, rs[0]'hk = b0 := by rw [← hr, hrs.out]; intro _; rfl
  have e1 : ∀ hk, rs[1]'hk = b1 := by rw [← hr, hrs.out]; intro _; rfl
  have e2 : ∀ hk, rs[2]'hk = 187 := by rw [← hr, hrs.out]; intro _; rfl
  clear hrs
  have hwr : IntKind.i64.wrap 3 = 3 := by decide
  go_enter Tryz.func104, Tryz.ntmps104
  go_wp2_with fail
  refine (HV.out _).mono ?_; rintro e w1 ⟨rfl, rfl⟩
  go_wp2_with fail
  go_step3
  go_wp2_with fail
  refine wp_loop_rounds 3 ?_
  rw [rounds_succ]
  go_wp2_with fail
  refine wp_scope_once 0 rfl ?_
  go_wp2_with fail
  go_quiet (fail)
  go_wp2_with fail
  go_region_held3 (fun W => Below w.heap.size w W) (first | assumption | exact ⟨rfl, rfl, rfl, Nat.le_refl _, fun _ _ => rfl⟩) (first | (go_at_call 72; refine (HX.out _).mono ?_; rintro e w3 ⟨rfl, rfl⟩) | fail)
  rename_i hS
  go_wp2_with fail
  have hq0 : (((⟨#[32, 9, 13, 10, 44, 239, 187, 191]⟩ : ByteArray)[5]'(by decide)).toNat : Int) = 239 := rfl
  refine wp_loop_rounds 5 ?_
  rw [rounds_succ]
  go_wp2_with fail
  (try (go_step3; go_wp2_with fail))
  go_quiet (fail)
  go_wp2_with fail
  go_step3
  go_wp2_with fail
  refine jump_goto ?_
  go_wp2_with fail
  go_wp2
  rw [Exit.noGoto_normal]
  go_wp2_with fail
  have hs7 : (((⟨#[32, 9, 13, 10, 44, 239, 187, 191]⟩ : ByteArray)[7]'(by decide)).toNat : Int) = 191 := rfl
  rw [rounds_succ]
  go_wp2_with fail
  go_step3
  go_wp2_with fail
  go_quiet (fail)
  go_wp2_with fail
  have hx8 : (⟨#[32, 9, 13, 10, 44, 239, 187, 191]⟩ : ByteArray).extract 8 8 = ⟨#[]⟩ := rfl
  have hwr8 : IntKind.i64.wrap 8 = 8 := by decide
  have HX0 : Hid (∀ w, Calls Tryz.prog 72 #[.string ⟨#[]⟩, .int .u8 187] w fun e w' => e = .returned (.int .i64 (-1)) ∧ w = w') := Lib.hid (fun w => (Tryz.strings_IndexByte ⟨#[]⟩ 187 w).mono fun e w' ⟨h1, h2⟩ => ⟨h1, h2.symm⟩)
  clear hS
  go_region_held3 (fun W => Below w.heap.size w W) (first | assumption | exact ⟨rfl, rfl, rfl, Nat.le_refl _, fun _ _ => rfl⟩) (first | (go_at_call 72; refine (HX0.out _).mono ?_; rintro e w3 ⟨rfl, rfl⟩) | fail)
  rename_i hS
  go_wp2_with fail
  rw [Exit.noGoto_ret]
  go_wp2_with fail
  (try (rw [Exit.noGoto_ret]))
  go_ret
  exact ⟨rfl, below_dN _ (Below.refl _ _)⟩
set_option maxRecDepth 100000 in
set_option maxHeartbeats 1000000 in
theorem rune_3_191_n (r : Int) (h : 128 ≤ r) (h2 : r ≤ 2147483647) (b0 b1 b2 : UInt8) (he : ¬ r = 65533) (hrs : Hid (Utf8.encode r = ⟨#[b0, b1, b2]⟩)) (HV : Hid (∀ w, Calls Tryz.prog 121 #[.int .i32 r] w fun e w' => e = .returned (.bool true) ∧ w = w')) (h128 : (128 : Int) ≤ ((b2.toNat : Nat) : Int)) (h191 : ((b2.toNat : Nat) : Int) ≤ 191) (hy : b2 = 191) (k0 : ¬ ((187 : Int) = ((b1.toNat : Nat) : Int))) (w : World) :
    Calls Tryz.prog 104 #[.string ⟨#[32, 9, 13, 10, 44, 239, 187, 191]⟩, .int .i32 r] w fun e w' => e = .returned (.int .i64 (-1)) ∧ Below w.heap.size w w' := by
  have h0 : 0 ≤ r := by omega
  have h1 : ¬ r < 128 := by omega
  subst hy
  have HX : Hid (∀ w, Calls Tryz.prog 72 #[.string (⟨#[10, 44, 239, 187, 191]⟩ : ByteArray), .int .u8 191] w fun e w' => e = .returned (.int .i64 4) ∧ w = w') := Lib.hid (fun w => (Tryz.strings_IndexByte (⟨#[10, 44, 239, 187, 191]⟩ : ByteArray) 191 w).mono fun e w' ⟨h1, h2⟩ => ⟨h1, h2.symm⟩)
  have hx : (⟨#[32, 9, 13, 10, 44, 239, 187, 191]⟩ : ByteArray).extract 3 8 = (⟨#[10, 44, 239, 187, 191]⟩ : ByteArray) := rfl
  have hs2 : (((⟨#[32, 9, 13, 10, 44, 239, 187, 191]⟩ : ByteArray)[2]'(by decide)).toNat : Int) = 13 := rfl
  obtain ⟨rs, hr⟩ : ∃ rs, Utf8.encode r = rs := ⟨_, rfl⟩
  have hz : rs.size = 3 := by rw [← hr, hrs.out]; rfl
  have e0 : ∀ hk, rs[0]'hk = b0 := by rw [← hr, hrs.out]; intro _; rfl
  have e1 : ∀ hk, rs[1]'hk = b1 := by rw [← hr, hrs.out]; intro _; rfl
  have e2 : ∀ hk, rs[2]'hk = 191 := by rw [← hr, hrs.out]; intro _; rfl
  clear hrs
  have hwr : IntKind.i64.wrap 3 = 3 := by decide
  go_enter Tryz.func104, Tryz.ntmps104
  go_wp2_with fail
  refine (HV.out _).mono ?_; rintro e w1 ⟨rfl, rfl⟩
  go_wp2_with fail
  go_step3
  go_wp2_with fail
  refine wp_loop_rounds 3 ?_
  rw [rounds_succ]
  go_wp2_with fail
  refine wp_scope_once 0 rfl ?_
  go_wp2_with fail
  go_quiet (fail)
  go_wp2_with fail
  go_region_held3 (fun W => Below w.heap.size w W) (first | assumption | exact ⟨rfl, rfl, rfl, Nat.le_refl _, fun _ _ => rfl⟩) (first | (go_at_call 72; refine (HX.out _).mono ?_; rintro e w3 ⟨rfl, rfl⟩) | fail)
  rename_i hS
  go_wp2_with fail
  have hq0 : (((⟨#[32, 9, 13, 10, 44, 239, 187, 191]⟩ : ByteArray)[6]'(by decide)).toNat : Int) = 187 := rfl
  refine wp_loop_rounds 5 ?_
  rw [rounds_succ]
  go_wp2_with fail
  (try (go_step3; go_wp2_with fail))
  go_quiet (fail)
  go_wp2_with fail
  go_step3
  go_wp2_with fail
  refine jump_goto ?_
  go_wp2_with fail
  go_wp2
  rw [Exit.noGoto_normal]
  go_wp2_with fail
  rw [rounds_succ]
  go_wp2_with fail
  rw [Exit.noGoto_ret]
  go_wp2_with fail
  (try (rw [Exit.noGoto_ret]))
  go_ret
  exact ⟨rfl, below_dN _ (Below.refl _ _)⟩
set_option maxRecDepth 100000 in
set_option maxHeartbeats 1000000 in
theorem rune_3_191_yn (r : Int) (h : 128 ≤ r) (h2 : r ≤ 2147483647) (b0 b1 b2 : UInt8) (he : ¬ r = 65533) (hrs : Hid (Utf8.encode r = ⟨#[b0, b1, b2]⟩)) (HV : Hid (∀ w, Calls Tryz.prog 121 #[.int .i32 r] w fun e w' => e = .returned (.bool true) ∧ w = w')) (h128 : (128 : Int) ≤ ((b2.toNat : Nat) : Int)) (h191 : ((b2.toNat : Nat) : Int) ≤ 191) (hy : b2 = 191) (k0 : b1 = 187) (k1 : ¬ ((239 : Int) = ((b0.toNat : Nat) : Int))) (w : World) :
    Calls Tryz.prog 104 #[.string ⟨#[32, 9, 13, 10, 44, 239, 187, 191]⟩, .int .i32 r] w fun e w' => e = .returned (.int .i64 (-1)) ∧ Below w.heap.size w w' := by
  have h0 : 0 ≤ r := by omega
  have h1 : ¬ r < 128 := by omega
  subst hy
  subst k0
  have HX : Hid (∀ w, Calls Tryz.prog 72 #[.string (⟨#[10, 44, 239, 187, 191]⟩ : ByteArray), .int .u8 191] w fun e w' => e = .returned (.int .i64 4) ∧ w = w') := Lib.hid (fun w => (Tryz.strings_IndexByte (⟨#[10, 44, 239, 187, 191]⟩ : ByteArray) 191 w).mono fun e w' ⟨h1, h2⟩ => ⟨h1, h2.symm⟩)
  have hx : (⟨#[32, 9, 13, 10, 44, 239, 187, 191]⟩ : ByteArray).extract 3 8 = (⟨#[10, 44, 239, 187, 191]⟩ : ByteArray) := rfl
  have hs2 : (((⟨#[32, 9, 13, 10, 44, 239, 187, 191]⟩ : ByteArray)[2]'(by decide)).toNat : Int) = 13 := rfl
  obtain ⟨rs, hr⟩ : ∃ rs, Utf8.encode r = rs := ⟨_, rfl⟩
  have hz : rs.size = 3 := by rw [← hr, hrs.out]; rfl
  have e0 : ∀ hk, rs[0]'hk = b0 := by rw [← hr, hrs.out]; intro _; rfl
  have e1 : ∀ hk, rs[1]'hk = 187 := by rw [← hr, hrs.out]; intro _; rfl
  have e2 : ∀ hk, rs[2]'hk = 191 := by rw [← hr, hrs.out]; intro _; rfl
  clear hrs
  have hwr : IntKind.i64.wrap 3 = 3 := by decide
  go_enter Tryz.func104, Tryz.ntmps104
  go_wp2_with fail
  refine (HV.out _).mono ?_; rintro e w1 ⟨rfl, rfl⟩
  go_wp2_with fail
  go_step3
  go_wp2_with fail
  refine wp_loop_rounds 3 ?_
  rw [rounds_succ]
  go_wp2_with fail
  refine wp_scope_once 0 rfl ?_
  go_wp2_with fail
  go_quiet (fail)
  go_wp2_with fail
  go_region_held3 (fun W => Below w.heap.size w W) (first | assumption | exact ⟨rfl, rfl, rfl, Nat.le_refl _, fun _ _ => rfl⟩) (first | (go_at_call 72; refine (HX.out _).mono ?_; rintro e w3 ⟨rfl, rfl⟩) | fail)
  rename_i hS
  go_wp2_with fail
  have hq0 : (((⟨#[32, 9, 13, 10, 44, 239, 187, 191]⟩ : ByteArray)[6]'(by decide)).toNat : Int) = 187 := rfl
  have hq1 : (((⟨#[32, 9, 13, 10, 44, 239, 187, 191]⟩ : ByteArray)[5]'(by decide)).toNat : Int) = 239 := rfl
  refine wp_loop_rounds 5 ?_
  rw [rounds_succ]
  go_wp2_with fail
  (try (go_step3; go_wp2_with fail))
  go_quiet (fail)
  go_wp2_with fail
  rw [rounds_succ]
  go_wp2_with fail
  (try (go_step3; go_wp2_with fail))
  go_quiet (fail)
  go_wp2_with fail
  go_step3
  go_wp2_with fail
  refine jump_goto ?_
  go_wp2_with fail
  go_wp2
  rw [Exit.noGoto_normal]
  go_wp2_with fail
  rw [rounds_succ]
  go_wp2_with fail
  rw [Exit.noGoto_ret]
  go_wp2_with fail
  (try (rw [Exit.noGoto_ret]))
  go_ret
  exact ⟨rfl, below_dN _ (Below.refl _ _)⟩
set_option maxRecDepth 100000 in
set_option maxHeartbeats 1000000 in
theorem rune_3_191_yy (r : Int) (h : 128 ≤ r) (h2 : r ≤ 2147483647) (b0 b1 b2 : UInt8) (he : ¬ r = 65533) (hrs : Hid (Utf8.encode r = ⟨#[b0, b1, b2]⟩)) (HV : Hid (∀ w, Calls Tryz.prog 121 #[.int .i32 r] w fun e w' => e = .returned (.bool true) ∧ w = w')) (h128 : (128 : Int) ≤ ((b2.toNat : Nat) : Int)) (h191 : ((b2.toNat : Nat) : Int) ≤ 191) (hy : b2 = 191) (k0 : b1 = 187) (k1 : b0 = 239) (w : World) :
    Calls Tryz.prog 104 #[.string ⟨#[32, 9, 13, 10, 44, 239, 187, 191]⟩, .int .i32 r] w fun e w' => e = .returned (.int .i64 (5)) ∧ Below w.heap.size w w' := by
  have h0 : 0 ≤ r := by omega
  have h1 : ¬ r < 128 := by omega
  subst hy
  subst k0
  subst k1
  have HX : Hid (∀ w, Calls Tryz.prog 72 #[.string (⟨#[10, 44, 239, 187, 191]⟩ : ByteArray), .int .u8 191] w fun e w' => e = .returned (.int .i64 4) ∧ w = w') := Lib.hid (fun w => (Tryz.strings_IndexByte (⟨#[10, 44, 239, 187, 191]⟩ : ByteArray) 191 w).mono fun e w' ⟨h1, h2⟩ => ⟨h1, h2.symm⟩)
  have hx : (⟨#[32, 9, 13, 10, 44, 239, 187, 191]⟩ : ByteArray).extract 3 8 = (⟨#[10, 44, 239, 187, 191]⟩ : ByteArray) := rfl
  have hs2 : (((⟨#[32, 9, 13, 10, 44, 239, 187, 191]⟩ : ByteArray)[2]'(by decide)).toNat : Int) = 13 := rfl
  obtain ⟨rs, hr⟩ : ∃ rs, Utf8.encode r = rs := ⟨_, rfl⟩
  have hz : rs.size = 3 := by rw [← hr, hrs.out]; rfl
  have e0 : ∀ hk, rs[0]'hk = 239 := by rw [← hr, hrs.out]; intro _; rfl
  have e1 : ∀ hk, rs[1]'hk = 187 := by rw [← hr, hrs.out]; intro _; rfl
  have e2 : ∀ hk, rs[2]'hk = 191 := by rw [← hr, hrs.out]; intro _; rfl
  clear hrs
  have hwr : IntKind.i64.wrap 3 = 3 := by decide
  go_enter Tryz.func104, Tryz.ntmps104
  go_wp2_with fail
  refine (HV.out _).mono ?_; rintro e w1 ⟨rfl, rfl⟩
  go_wp2_with fail
  go_step3
  go_wp2_with fail
  refine wp_loop_rounds 3 ?_
  rw [rounds_succ]
  go_wp2_with fail
  go_step3
  go_wp2_with fail
  go_quiet (fail)
  go_wp2_with fail
  go_region_held3 (fun W => Below w.heap.size w W) (first | assumption | exact ⟨rfl, rfl, rfl, Nat.le_refl _, fun _ _ => rfl⟩) (first | (go_at_call 72; refine (HX.out _).mono ?_; rintro e w3 ⟨rfl, rfl⟩) | fail)
  rename_i hS
  go_wp2_with fail
  have hq0 : (((⟨#[32, 9, 13, 10, 44, 239, 187, 191]⟩ : ByteArray)[6]'(by decide)).toNat : Int) = 187 := rfl
  have hq1 : (((⟨#[32, 9, 13, 10, 44, 239, 187, 191]⟩ : ByteArray)[5]'(by decide)).toNat : Int) = 239 := rfl
  refine wp_loop_rounds 5 ?_
  rw [rounds_succ]
  go_wp2_with fail
  (try (go_step3; go_wp2_with fail))
  go_quiet (fail)
  go_wp2_with fail
  rw [rounds_succ]
  go_wp2_with fail
  (try (go_step3; go_wp2_with fail))
  go_quiet (fail)
  go_wp2_with fail
  rw [rounds_succ]
  go_wp2_with fail
  rw [Exit.noGoto_ret]
  go_wp2_with fail
  (try (rw [Exit.noGoto_ret]))
  go_ret
  exact ⟨rfl, below_dN _ (Below.refl _ _)⟩
set_option maxRecDepth 100000 in
set_option maxHeartbeats 1000000 in
theorem rune_4_other (r : Int) (h : 128 ≤ r) (h2 : r ≤ 2147483647) (b0 b1 b2 b3 : UInt8) (he : ¬ r = 65533) (hrs : Hid (Utf8.encode r = ⟨#[b0, b1, b2, b3]⟩)) (HV : Hid (∀ w, Calls Tryz.prog 121 #[.int .i32 r] w fun e w' => e = .returned (.bool true) ∧ w = w')) (h128 : (128 : Int) ≤ ((b3.toNat : Nat) : Int)) (h191 : ((b3.toNat : Nat) : Int) ≤ 191) (hy : Hid (Lib.indexByte [44, 239, 187, 191] b3 = -1)) (w : World) :
    Calls Tryz.prog 104 #[.string ⟨#[32, 9, 13, 10, 44, 239, 187, 191]⟩, .int .i32 r] w fun e w' => e = .returned (.int .i64 (-1)) ∧ Below w.heap.size w w' := by
  have h0 : 0 ≤ r := by omega
  have h1 : ¬ r < 128 := by omega
  have HX : Hid (∀ w, Calls Tryz.prog 72 #[.string (⟨#[44, 239, 187, 191]⟩ : ByteArray), .int .u8 ((b3.toNat : Nat) : Int)] w fun e w' => e = .returned (.int .i64 (-1)) ∧ w = w') := Lib.hid (fun w => by
    have := Tryz.strings_IndexByte (⟨#[44, 239, 187, 191]⟩ : ByteArray) ((b3.toNat : Nat) : Int) w
    rw [show (((b3.toNat : Nat) : Int)).toNat.toUInt8 = b3 by simp, hy.out] at this
    exact this.mono fun e w' ⟨h1, h2⟩ => ⟨h1, h2.symm⟩)
  have hx : (⟨#[32, 9, 13, 10, 44, 239, 187, 191]⟩ : ByteArray).extract 4 8 = (⟨#[44, 239, 187, 191]⟩ : ByteArray) := rfl
  have hs3 : (((⟨#[32, 9, 13, 10, 44, 239, 187, 191]⟩ : ByteArray)[3]'(by decide)).toNat : Int) = 10 := rfl
  have hl1 : ¬ ((10 : Int) = ((b3.toNat : Nat) : Int)) := by omega
  obtain ⟨rs, hr⟩ : ∃ rs, Utf8.encode r = rs := ⟨_, rfl⟩
  have hz : rs.size = 4 := by rw [← hr, hrs.out]; rfl
  have e0 : ∀ hk, rs[0]'hk = b0 := by rw [← hr, hrs.out]; intro _; rfl
  have e1 : ∀ hk, rs[1]'hk = b1 := by rw [← hr, hrs.out]; intro _; rfl
  have e2 : ∀ hk, rs[2]'hk = b2 := by rw [← hr, hrs.out]; intro _; rfl
  have e3 : ∀ hk, rs[3]'hk = b3 := by rw [← hr, hrs.out]; intro _; rfl
  clear hrs
  have hwr : IntKind.i64.wrap 4 = 4 := by decide
  go_enter Tryz.func104, Tryz.ntmps104
  go_wp2_with fail
  refine (HV.out _).mono ?_; rintro e w1 ⟨rfl, rfl⟩
  go_wp2_with fail
  go_step3
  go_wp2_with fail
  refine wp_loop_rounds 3 ?_
  rw [rounds_succ]
  go_wp2_with fail
  go_step3
  go_wp2_with fail
  go_quiet (fail)
  go_wp2_with fail
  go_region_held3 (fun W => Below w.heap.size w W) (first | assumption | exact ⟨rfl, rfl, rfl, Nat.le_refl _, fun _ _ => rfl⟩) (first | (go_at_call 72; refine (HX.out _).mono ?_; rintro e w3 ⟨rfl, rfl⟩) | fail)
  rename_i hS
  go_wp2_with fail
  rw [Exit.noGoto_ret]
  go_wp2_with fail
  rw [Exit.noGoto_ret]
  go_ret
  exact ⟨rfl, hS⟩
set_option maxRecDepth 100000 in
set_option maxHeartbeats 1000000 in
theorem rune_4_187_n (r : Int) (h : 128 ≤ r) (h2 : r ≤ 2147483647) (b0 b1 b2 b3 : UInt8) (he : ¬ r = 65533) (hrs : Hid (Utf8.encode r = ⟨#[b0, b1, b2, b3]⟩)) (HV : Hid (∀ w, Calls Tryz.prog 121 #[.int .i32 r] w fun e w' => e = .returned (.bool true) ∧ w = w')) (h128 : (128 : Int) ≤ ((b3.toNat : Nat) : Int)) (h191 : ((b3.toNat : Nat) : Int) ≤ 191) (hy : b3 = 187) (k0 : ¬ ((239 : Int) = ((b2.toNat : Nat) : Int))) (w : World) :
    Calls Tryz.prog 104 #[.string ⟨#[32, 9, 13, 10, 44, 239, 187, 191]⟩, .int .i32 r] w fun e w' => e = .returned (.int .i64 (-1)) ∧ Below w.heap.size w w' := by
  have h0 : 0 ≤ r := by omega
  have h1 : ¬ r < 128 := by omega
  subst hy
  have HX : Hid (∀ w, Calls Tryz.prog 72 #[.string (⟨#[44, 239, 187, 191]⟩ : ByteArray), .int .u8 187] w fun e w' => e = .returned (.int .i64 2) ∧ w = w') := Lib.hid (fun w => (Tryz.strings_IndexByte (⟨#[44, 239, 187, 191]⟩ : ByteArray) 187 w).mono fun e w' ⟨h1, h2⟩ => ⟨h1, h2.symm⟩)
  have hx : (⟨#[32, 9, 13, 10, 44, 239, 187, 191]⟩ : ByteArray).extract 4 8 = (⟨#[44, 239, 187, 191]⟩ : ByteArray) := rfl
  have hs3 : (((⟨#[32, 9, 13, 10, 44, 239, 187, 191]⟩ : ByteArray)[3]'(by decide)).toNat : Int) = 10 := rfl
  obtain ⟨rs, hr⟩ : ∃ rs, Utf8.encode r = rs := ⟨_, rfl⟩
  have hz : rs.size = 4 := by rw [← hr, hrs.out]; rfl
  have e0 : ∀ hk, rs[0]'hk = b0 := by rw [← hr, hrs.out]; intro _; rfl
  have e1 : ∀ hk, rs[1]'hk = b1 := by rw [← hr, hrs.out]; intro _; rfl
  have e2 : ∀ hk, rs[2]'hk = b2 := by rw [← hr, hrs.out]; intro _; rfl
  have e3 : ∀ hk, rs[3]'hk = 187 := by rw [← hr, hrs.out]; intro _; rfl
  clear hrs
  have hwr : IntKind.i64.wrap 4 = 4 := by decide
  go_enter Tryz.func104, Tryz.ntmps104
  go_wp2_with fail
  refine (HV.out _).mono ?_; rintro e w1 ⟨rfl, rfl⟩
  go_wp2_with fail
  go_step3
  go_wp2_with fail
  refine wp_loop_rounds 3 ?_
  rw [rounds_succ]
  go_wp2_with fail
  refine wp_scope_once 0 rfl ?_
  go_wp2_with fail
  go_quiet (fail)
  go_wp2_with fail
  go_region_held3 (fun W => Below w.heap.size w W) (first | assumption | exact ⟨rfl, rfl, rfl, Nat.le_refl _, fun _ _ => rfl⟩) (first | (go_at_call 72; refine (HX.out _).mono ?_; rintro e w3 ⟨rfl, rfl⟩) | fail)
  rename_i hS
  go_wp2_with fail
  have hq0 : (((⟨#[32, 9, 13, 10, 44, 239, 187, 191]⟩ : ByteArray)[5]'(by decide)).toNat : Int) = 239 := rfl
  refine wp_loop_rounds 5 ?_
  rw [rounds_succ]
  go_wp2_with fail
  (try (go_step3; go_wp2_with fail))
  go_quiet (fail)
  go_wp2_with fail
  go_step3
  go_wp2_with fail
  refine jump_goto ?_
  go_wp2_with fail
  go_wp2
  rw [Exit.noGoto_normal]
  go_wp2_with fail
  have hs7 : (((⟨#[32, 9, 13, 10, 44, 239, 187, 191]⟩ : ByteArray)[7]'(by decide)).toNat : Int) = 191 := rfl
  rw [rounds_succ]
  go_wp2_with fail
  go_step3
  go_wp2_with fail
  go_quiet (fail)
  go_wp2_with fail
  have hx8 : (⟨#[32, 9, 13, 10, 44, 239, 187, 191]⟩ : ByteArray).extract 8 8 = ⟨#[]⟩ := rfl
  have hwr8 : IntKind.i64.wrap 8 = 8 := by decide
  have HX0 : Hid (∀ w, Calls Tryz.prog 72 #[.string ⟨#[]⟩, .int .u8 187] w fun e w' => e = .returned (.int .i64 (-1)) ∧ w = w') := Lib.hid (fun w => (Tryz.strings_IndexByte ⟨#[]⟩ 187 w).mono fun e w' ⟨h1, h2⟩ => ⟨h1, h2.symm⟩)
  clear hS
  go_region_held3 (fun W => Below w.heap.size w W) (first | assumption | exact ⟨rfl, rfl, rfl, Nat.le_refl _, fun _ _ => rfl⟩) (first | (go_at_call 72; refine (HX0.out _).mono ?_; rintro e w3 ⟨rfl, rfl⟩) | fail)
  rename_i hS
  go_wp2_with fail
  rw [Exit.noGoto_ret]
  go_wp2_with fail
  (try (rw [Exit.noGoto_ret]))
  go_ret
  exact ⟨rfl, below_dN _ (Below.refl _ _)⟩
set_option maxRecDepth 100000 in
set_option maxHeartbeats 1000000 in
theorem rune_4_191_n (r : Int) (h : 128 ≤ r) (h2 : r ≤ 2147483647) (b0 b1 b2 b3 : UInt8) (he : ¬ r = 65533) (hrs : Hid (Utf8.encode r = ⟨#[b0, b1, b2, b3]⟩)) (HV : Hid (∀ w, Calls Tryz.prog 121 #[.int .i32 r] w fun e w' => e = .returned (.bool true) ∧ w = w')) (h128 : (128 : Int) ≤ ((b3.toNat : Nat) : Int)) (h191 : ((b3.toNat : Nat) : Int) ≤ 191) (hy : b3 = 191) (k0 : ¬ ((187 : Int) = ((b2.toNat : Nat) : Int))) (w : World) :
    Calls Tryz.prog 104 #[.string ⟨#[32, 9, 13, 10, 44, 239, 187, 191]⟩, .int .i32 r] w fun e w' => e = .returned (.int .i64 (-1)) ∧ Below w.heap.size w w' := by
  have h0 : 0 ≤ r := by omega
  have h1 : ¬ r < 128 := by omega
  subst hy
  have HX : Hid (∀ w, Calls Tryz.prog 72 #[.string (⟨#[44, 239, 187, 191]⟩ : ByteArray), .int .u8 191] w fun e w' => e = .returned (.int .i64 3) ∧ w = w') := Lib.hid (fun w => (Tryz.strings_IndexByte (⟨#[44, 239, 187, 191]⟩ : ByteArray) 191 w).mono fun e w' ⟨h1, h2⟩ => ⟨h1, h2.symm⟩)
  have hx : (⟨#[32, 9, 13, 10, 44, 239, 187, 191]⟩ : ByteArray).extract 4 8 = (⟨#[44, 239, 187, 191]⟩ : ByteArray) := rfl
  have hs3 : (((⟨#[32, 9, 13, 10, 44, 239, 187, 191]⟩ : ByteArray)[3]'(by decide)).toNat : Int) = 10 := rfl
  obtain ⟨rs, hr⟩ : ∃ rs, Utf8.encode r = rs := ⟨_, rfl⟩
  have hz : rs.size = 4 := by rw [← hr, hrs.out]; rfl
  have e0 : ∀ hk, rs[0]'hk = b0 := by rw [← hr, hrs.out]; intro _; rfl
  have e1 : ∀ hk, rs[1]'hk = b1 := by rw [← hr, hrs.out]; intro _; rfl
  have e2 : ∀ hk, rs[2]'hk = b2 := by rw [← hr, hrs.out]; intro _; rfl
  have e3 : ∀ hk, rs[3]'hk = 191 := by rw [← hr, hrs.out]; intro _; rfl
  clear hrs
  have hwr : IntKind.i64.wrap 4 = 4 := by decide
  go_enter Tryz.func104, Tryz.ntmps104
  go_wp2_with fail
  refine (HV.out _).mono ?_; rintro e w1 ⟨rfl, rfl⟩
  go_wp2_with fail
  go_step3
  go_wp2_with fail
  refine wp_loop_rounds 3 ?_
  rw [rounds_succ]
  go_wp2_with fail
  refine wp_scope_once 0 rfl ?_
  go_wp2_with fail
  go_quiet (fail)
  go_wp2_with fail
  go_region_held3 (fun W => Below w.heap.size w W) (first | assumption | exact ⟨rfl, rfl, rfl, Nat.le_refl _, fun _ _ => rfl⟩) (first | (go_at_call 72; refine (HX.out _).mono ?_; rintro e w3 ⟨rfl, rfl⟩) | fail)
  rename_i hS
  go_wp2_with fail
  have hq0 : (((⟨#[32, 9, 13, 10, 44, 239, 187, 191]⟩ : ByteArray)[6]'(by decide)).toNat : Int) = 187 := rfl
  refine wp_loop_rounds 5 ?_
  rw [rounds_succ]
  go_wp2_with fail
  (try (go_step3; go_wp2_with fail))
  go_quiet (fail)
  go_wp2_with fail
  go_step3
  go_wp2_with fail
  refine jump_goto ?_
  go_wp2_with fail
  go_wp2
  rw [Exit.noGoto_normal]
  go_wp2_with fail
  rw [rounds_succ]
  go_wp2_with fail
  rw [Exit.noGoto_ret]
  go_wp2_with fail
  (try (rw [Exit.noGoto_ret]))
  go_ret
  exact ⟨rfl, below_dN _ (Below.refl _ _)⟩
set_option maxRecDepth 100000 in
set_option maxHeartbeats 1000000 in
theorem rune_4_191_yn (r : Int) (h : 128 ≤ r) (h2 : r ≤ 2147483647) (b0 b1 b2 b3 : UInt8) (he : ¬ r = 65533) (hrs : Hid (Utf8.encode r = ⟨#[b0, b1, b2, b3]⟩)) (HV : Hid (∀ w, Calls Tryz.prog 121 #[.int .i32 r] w fun e w' => e = .returned (.bool true) ∧ w = w')) (h128 : (128 : Int) ≤ ((b3.toNat : Nat) : Int)) (h191 : ((b3.toNat : Nat) : Int) ≤ 191) (hy : b3 = 191) (k0 : b2 = 187) (k1 : ¬ ((239 : Int) = ((b1.toNat : Nat) : Int))) (w : World) :
    Calls Tryz.prog 104 #[.string ⟨#[32, 9, 13, 10, 44, 239, 187, 191]⟩, .int .i32 r] w fun e w' => e = .returned (.int .i64 (-1)) ∧ Below w.heap.size w w' := by
  have h0 : 0 ≤ r := by omega
  have h1 : ¬ r < 128 := by omega
  subst hy
  subst k0
  have HX : Hid (∀ w, Calls Tryz.prog 72 #[.string (⟨#[44, 239, 187, 191]⟩ : ByteArray), .int .u8 191] w fun e w' => e = .returned (.int .i64 3) ∧ w = w') := Lib.hid (fun w => (Tryz.strings_IndexByte (⟨#[44, 239, 187, 191]⟩ : ByteArray) 191 w).mono fun e w' ⟨h1, h2⟩ => ⟨h1, h2.symm⟩)
  have hx : (⟨#[32, 9, 13, 10, 44, 239, 187, 191]⟩ : ByteArray).extract 4 8 = (⟨#[44, 239, 187, 191]⟩ : ByteArray) := rfl
  have hs3 : (((⟨#[32, 9, 13, 10, 44, 239, 187, 191]⟩ : ByteArray)[3]'(by decide)).toNat : Int) = 10 := rfl
  obtain ⟨rs, hr⟩ : ∃ rs, Utf8.encode r = rs := ⟨_, rfl⟩
  have hz : rs.size = 4 := by rw [← hr, hrs.out]; rfl
  have e0 : ∀ hk, rs[0]'hk = b0 := by rw [← hr, hrs.out]; intro _; rfl
  have e1 : ∀ hk, rs[1]'hk = b1 := by rw [← hr, hrs.out]; intro _; rfl
  have e2 : ∀ hk, rs[2]'hk = 187 := by rw [← hr, hrs.out]; intro _; rfl
  have e3 : ∀ hk, rs[3]'hk = 191 := by rw [← hr, hrs.out]; intro _; rfl
  clear hrs
  have hwr : IntKind.i64.wrap 4 = 4 := by decide
  go_enter Tryz.func104, Tryz.ntmps104
  go_wp2_with fail
  refine (HV.out _).mono ?_; rintro e w1 ⟨rfl, rfl⟩
  go_wp2_with fail
  go_step3
  go_wp2_with fail
  refine wp_loop_rounds 3 ?_
  rw [rounds_succ]
  go_wp2_with fail
  refine wp_scope_once 0 rfl ?_
  go_wp2_with fail
  go_quiet (fail)
  go_wp2_with fail
  go_region_held3 (fun W => Below w.heap.size w W) (first | assumption | exact ⟨rfl, rfl, rfl, Nat.le_refl _, fun _ _ => rfl⟩) (first | (go_at_call 72; refine (HX.out _).mono ?_; rintro e w3 ⟨rfl, rfl⟩) | fail)
  rename_i hS
  go_wp2_with fail
  have hq0 : (((⟨#[32, 9, 13, 10, 44, 239, 187, 191]⟩ : ByteArray)[6]'(by decide)).toNat : Int) = 187 := rfl
  have hq1 : (((⟨#[32, 9, 13, 10, 44, 239, 187, 191]⟩ : ByteArray)[5]'(by decide)).toNat : Int) = 239 := rfl
  refine wp_loop_rounds 5 ?_
  rw [rounds_succ]
  go_wp2_with fail
  (try (go_step3; go_wp2_with fail))
  go_quiet (fail)
  go_wp2_with fail
  rw [rounds_succ]
  go_wp2_with fail
  (try (go_step3; go_wp2_with fail))
  go_quiet (fail)
  go_wp2_with fail
  go_step3
  go_wp2_with fail
  refine jump_goto ?_
  go_wp2_with fail
  go_wp2
  rw [Exit.noGoto_normal]
  go_wp2_with fail
  rw [rounds_succ]
  go_wp2_with fail
  rw [Exit.noGoto_ret]
  go_wp2_with fail
  (try (rw [Exit.noGoto_ret]))
  go_ret
  exact ⟨rfl, below_dN _ (Below.refl _ _)⟩
end Go.Proofs.YtgaknbnhmoddcaaGreatDoor
namespace Go.Proofs.YtgaknbnhmoddcaaGreatDoor
open Go.RowKit
def hidB : List UInt8 := [32, 9, 13, 10, 44]
theorem set_arr : Tryz.prog.underlying 166 = some (.array 256 4) := by kernel_rfl
theorem set_size : (Tryz.prog.info? 166).map (·.size) = some 256 := by kernel_rfl
theorem set_zero (w : World) : (zeroValue 166).run Tryz.prog w = .ok (.agg (Array.replicate 256 (.bool false))) w := by kernel_rfl
set_option maxHeartbeats 4000000 in
set_option maxRecDepth 1000000 in
theorem set_none (w : World) : Calls Tryz.prog 100 #[.string ⟨#[32, 9, 13, 10, 44, 239, 187, 191]⟩] w fun e w' => e = .returned (.tuple #[.agg (Lib.setCells hidB), .bool false]) ∧ w' = w.alloc (.cells (Lib.setCells hidB) 166) := by
  have hv116 := set_zero
  obtain ⟨chars, hch⟩ : ∃ chars : ByteArray, (⟨#[32, 9, 13, 10, 44, 239, 187, 191]⟩ : ByteArray) = chars := ⟨_, rfl⟩
  have hs : chars.size = 8 := by rw [← hch]; rfl
  have HG : Hid (∀ i (h : i < 5), ∃ x : UInt8, chars[i]'(by omega) = x ∧ (x.toNat : Int) < 128 ∧ hidB.take (i + 1) = hidB.take i ++ [x]) := Lib.hid (by
    subst hch
    intro i h
    match i, h with
    | 0, _ => exact ⟨32, rfl, by decide, rfl⟩
    | 1, _ => exact ⟨9, rfl, by decide, rfl⟩
    | 2, _ => exact ⟨13, rfl, by decide, rfl⟩
    | 3, _ => exact ⟨10, rfl, by decide, rfl⟩
    | 4, _ => exact ⟨44, rfl, by decide, rfl⟩)
  have HG5 : Hid (∀ h, ((chars[5]'h).toNat : Int) = 239) := Lib.hid (by subst hch; intro h; rfl)
  rw [hch]
  clear hch
  go_enter Tryz.func100, Tryz.ntmps100
  go_wp2
  rw [← Lib.setCells_nil]
  go_loopg [4] 5 (fun g s4 wx => ∃ i : Nat, i + g = 5 ∧ s4 = .int .i64 i ∧ wx = w.alloc (.cells (Lib.setCells (hidB.take i)) 166))
  case atStart => exact ⟨0, by omega, rfl, rfl⟩
  case round =>
    obtain ⟨i, hig, rfl, rfl⟩ := hrel
    cases gk with
    | zero =>
      obtain rfl : i = 5 := by omega
      have hiz : ((5 : Int) < (chars.size : Int)) := by omega
      have h239 := HG5.out (by omega)
      have hge : (128 : Int) ≤ ((chars[5]'(by omega)).toNat : Int) := by omega
      clear h239
      rw [show hidB.take 5 = hidB from rfl]
      have hld := run_loadVar_new (P := Tryz.prog) w 166 (Lib.setCells hidB) 256 4 set_arr (by rw [Lib.setCells_size]; exact set_size)
      have hsz := Lib.setCells_size hidB
      have hi2 : (Tryz.prog.info? 166).map (·.size) = some (Lib.setCells hidB).size := by rw [hsz]; exact set_size
      have hsc := run_storeCells_new (P := Tryz.prog) w 166 (Lib.setCells hidB) (Lib.setCells hidB) hi2 rfl (Lib.setCells_one _)
      clear hsz
      go_wp2
      refine wp_load_row _ _ rfl w.heap.size rfl _ (Lib.setCells hidB) (0, 0) _ (heap_alloc_last _ _) set_arr rfl hi2 ?_
      go_wp2
      (try (rw [Oper.upon_skip]; go_wp2))
      (try simp only [Exit.inBlock, Exit.then])
      refine bodyPost_ret (v := .tuple #[.agg (Lib.setCells hidB), .bool false]) ?_ rfl ⟨rfl, rfl⟩
      rw [results_cell_tmp rfl]
      simp [asAddr, Result.andThen, hld]
    | succ g =>
      have hi : i < chars.size := by omega
      have hiz : (i : Int) < (chars.size : Int) := by omega
      obtain ⟨x, hx, hlt, HT⟩ := HG.out i (by omega)
      have hx128 : ¬ ((128 : Int) ≤ (x.toNat : Int)) := by omega
      have hx256 : (x.toNat : Int) < 256 := by omega
      have hcell := Lib.setCells_at (hidB.take i) x
      have HT := Lib.hid HT
      go_wp2
      go_roundg g
      case measure => omega
      case rel => exact ⟨i + 1, by omega, by first | rfl | simp, by rw [HT.out, Lib.setCells_snoc]⟩
end Go.Proofs.YtgaknbnhmoddcaaGreatDoor
namespace Go.Proofs.YtgaknbnhmoddcaaGreatDoor
open Go.Lib
/-- Is a rune one of those that count for nothing? -/
def setC (r : Nat) : Bool := r == 32 || r == 9 || r == 13 || r == 10 || r == 44 || r == 65279
theorem decode_high (c : UInt8) (r : List UInt8) (h : 128 ≤ c.toNat) : 128 ≤ (decodeL (c :: r)).1 := by
  by_cases hv : (decodeL (c :: r)).1 = 65533 ∧ (decodeL (c :: r)).2 = 1
  · omega
  · obtain ⟨g1, g2, g3, g4⟩ := one_decode (c :: r) (by simp) hv
    unfold oneB at g1
    simp only [Bool.and_eq_true, decide_eq_true_eq, beq_iff_eq] at g1
    rw [g2] at g1
    by_cases hp : (decodeL (c :: r)).1 < 128
    · exfalso
      have he := g1.2.2
      obtain ⟨j, hj⟩ : ∃ j, (decodeL (c :: r)).2 = j + 1 := ⟨(decodeL (c :: r)).2 - 1, by omega⟩
      rw [hj, List.take_succ_cons] at he
      unfold encN at he
      rw [if_pos hp] at he
      injection he with he _
      rw [← he, ofN _ (by omega)] at h
      omega
    · omega
theorem bom_decode (l : List UInt8) : (bomL.isPrefixOf l = true → decodeL l = (65279, 3)) ∧ ((decodeL l).1 = 65279 → bomL.isPrefixOf l = true) := by
  have he : encN 65279 = bomL := by decide +kernel
  constructor
  · intro h
    obtain ⟨z, rfl⟩ := List.isPrefixOf_iff_prefix.1 h
    have := decode_enc 65279 (by decide) z
    rw [he] at this
    exact this
  · intro h
    have hne : l ≠ [] := by
      intro e
      subst e
      exact absurd h (by decide +kernel)
    obtain ⟨g1, g2, g3, g4⟩ := one_decode l hne (fun hh => by rw [h] at hh; exact absurd hh.1 (by decide))
    unfold oneB at g1
    simp only [Bool.and_eq_true, decide_eq_true_eq, beq_iff_eq] at g1
    rw [g2, h] at g1
    have h2 := g1.2.2
    rw [he] at h2
    exact List.isPrefixOf_iff_prefix.2 ⟨l.drop (decodeL l).2, by rw [h2, List.take_append_drop]⟩
/-- One step of the trimming. -/
theorem hid_rune (c : UInt8) (r : List UInt8) : hid0 (c :: r) = if setC (decodeL (c :: r)).1 then hid0 ((c :: r).drop (decodeL (c :: r)).2) else c :: r := by
  rw [hid_cons]
  by_cases h128 : c.toNat < 128
  · rw [decode_ascii c r h128]
    have hpre : bomL.isPrefixOf (c :: r) = false := by
      have : ((239 : UInt8) == c) = false := beq_eq_false_iff_ne.2 (fun e => by rw [← e] at h128; exact absurd h128 (by decide))
      simp [bomL, List.isPrefixOf, this]
    have hs : setC c.toNat = hidC c := by
      have hall := (by decide +kernel : ∀ i : Fin 256, i.val < 128 → (setC (UInt8.ofNat i.val).toNat = hidC (UInt8.ofNat i.val))) ⟨c.toNat, UInt8.toNat_lt c⟩ h128
      simpa only [UInt8.ofNat_toNat] using hall
    rw [hpre, hs]
    simp only [Bool.false_eq_true, if_false, List.drop_succ_cons, List.drop_zero]
  · have hc : hidC c = false := by
      have hall := (by decide +kernel : ∀ i : Fin 256, ¬ i.val < 128 → hidC (UInt8.ofNat i.val) = false) ⟨c.toNat, UInt8.toNat_lt c⟩ h128
      simpa only [UInt8.ofNat_toNat] using hall
    rw [hc]
    simp only [Bool.false_eq_true, if_false]
    have hh := decode_high c r (by omega)
    obtain ⟨b1, b2⟩ := bom_decode (c :: r)
    by_cases hb : bomL.isPrefixOf (c :: r) = true
    · rw [if_pos hb, b1 hb, if_pos (by decide)]
    · rw [if_neg hb, if_neg]
      intro hs
      unfold setC at hs
      simp only [Bool.or_eq_true, beq_iff_eq] at hs
      rcases hs with ((((e | e) | e) | e) | e) | e
      · omega
      · omega
      · omega
      · omega
      · omega
      · exact hb (b2 e)
end Go.Proofs.YtgaknbnhmoddcaaGreatDoor
namespace Go.Proofs.YtgaknbnhmoddcaaGreatDoor
open Go.RowKit
theorem holds_one (l : List UInt8) (c : UInt8) : decide (0 ≤ Lib.indexByte l c) = l.contains c := by
  rcases ib_cases c l with ⟨h1, k, h2⟩ | ⟨h1, h2⟩
  · rw [h1, h2]; simp
  · rw [h1, h2]; rfl
theorem decode_width (s : ByteArray) (i : Nat) (h : i < s.size) : (1 < (Utf8.decode s i).2 → 128 ≤ (s.get! (i + 1)).toNat) ∧ (2 < (Utf8.decode s i).2 → 128 ≤ (s.get! (i + 2)).toNat) ∧ (3 < (Utf8.decode s i).2 → 128 ≤ (s.get! (i + 3)).toNat) ∧ (Utf8.decode s i).2 ≤ 4 ∧ i + (Utf8.decode s i).2 ≤ s.size := by
  simp only [Utf8.decode]
  repeat' split
  all_goals simp_all [Utf8.runeError]
  all_goals omega
theorem get_bang (s : ByteArray) (j : Nat) (h : j < s.size) : s.get! j = s[j]'h := by
  simp [ByteArray.get!, getElem!_pos, h]
  rfl
theorem noAny_span (s : ByteArray) (i : Nat) (h : i < s.size) (ha : 128 ≤ (s[i]'h).toNat) (hn : Lib.NoAny s.data.toList [13, 10] i) : Lib.NoAny s.data.toList [13, 10] (i + (Utf8.decode s i).2) := by
  obtain ⟨w1, w2, w3, w4, w5⟩ := decode_width s i h
  intro j b hj hb
  by_cases hji : j < i
  · exact hn j b hji hb
  · have hjs : j < s.size := by omega
    have hbj : s[j]'hjs = b := by
      have : s.data.toList[j]? = some (s[j]'hjs) := by
        rw [List.getElem?_eq_getElem (by rw [Array.length_toList]; exact hjs)]; rfl
      rw [this] at hb
      exact Option.some.inj hb
    have h128 : 128 ≤ b.toNat := by
      rw [← hbj]
      obtain ⟨k, rfl⟩ : ∃ k, j = i + k := ⟨j - i, by omega⟩
      have hk : k = 0 ∨ k = 1 ∨ k = 2 ∨ k = 3 := by omega
      rcases hk with rfl | rfl | rfl | rfl
      · exact ha
      · have := w1 (by omega); rw [get_bang _ _ hjs] at this; exact this
      · have := w2 (by omega); rw [get_bang _ _ hjs] at this; exact this
      · have := w3 (by omega); rw [get_bang _ _ hjs] at this; exact this
    cases q : ([13, 10] : List UInt8).contains b
    · rfl
    · rw [List.contains_iff_mem] at q
      simp only [List.mem_cons, List.not_mem_nil, or_false] at q
      rcases q with q | q <;> (rw [q] at h128; exact absurd h128 (by decide))
/-- The string's iterator stands at a place; nothing older has turned. -/
def It (s : ByteArray) (B i : Nat) (w W : World) : Prop := W.heap[B]? = some (.stringIter s i) ∧ B < W.heap.size ∧ Below B w W
theorem It.start (s : ByteArray) (w : World) : It s w.heap.size 0 w (w.iter s 0) := by
  refine ⟨heap_alloc_new w _, ?_, ?_⟩
  · unfold World.iter; simp
  · unfold World.iter; exact (Below.refl _ _).alloc (Nat.le_refl _) _
theorem It.step {s : ByteArray} {B i : Nat} {w W : World} (h : It s B i w W) (j : Nat) : It s B j w (W.iterAt B s j) :=
  ⟨Lib.iterAt_heap W B s i j h.1, by rw [Lib.iterAt_size]; exact h.2.1, Lib.below_iterAt h.2.2 (Nat.le_refl _) s j⟩
theorem It.below {s : ByteArray} {B i : Nat} {w W w1 : World} (h : It s B i w W) (hB : B = w.heap.size) (hb : Below W.heap.size W w1) : It s B i w w1 :=
  ⟨(hb.block _ h.2.1).trans h.1, Nat.lt_of_lt_of_le h.2.1 hb.size, h.2.2.trans (hb.mono (Nat.le_of_lt h.2.1))⟩
set_option maxRecDepth 100000 in
theorem any_short (s : ByteArray) (h8 : s.size ≤ 8) (w : World) :
    Calls Tryz.prog 78 #[.string s, .string ⟨#[13, 10]⟩] w fun e w' => e = .returned (.int .i64 (Lib.indexAny s.data.toList [13, 10])) ∧ Below w.heap.size w w' := by
  have h8z : decide ((8 : Int) < (s.size : Int)) = false := decide_eq_false (by omega)
  have HU := Lib.hid (fun (n : Int) (w : World) => Any.strings_shouldUseASCIISet { Tryz.lays153 with } n w)
  obtain ⟨r, hr⟩ : ∃ r, Lib.indexAny s.data.toList [13, 10] = r := ⟨_, rfl⟩
  have HR := Lib.hid hr
  rw [hr]
  clear hr
  go_enter Tryz.func78, Tryz.ntmps78
  go_wp2_with fail
  refine (HU.out _ _).mono ?_; rintro e w1 ⟨rfl, rfl⟩
  go_wp2_with fail
  have HS := It.start s w1
  obtain ⟨W, hW⟩ : ∃ W, w1.iter s 0 = W := ⟨_, rfl⟩
  rw [hW] at HS
  rw [hW]
  have HS2 := Lib.hid HS
  clear hW HS
  go_loopg [9, 10] s.size (fun g _ _ wx => ∃ i : Nat, i + g = s.size ∧ Hid (It s w1.heap.size i w1 wx) ∧ Hid (Lib.NoAny s.data.toList [13, 10] i))
  case atStart => exact ⟨0, by omega, HS2, Lib.hid (Lib.NoAny.zero _ _)⟩
  case round =>
    rename World => wo
    obtain ⟨i, hig, HT, HN⟩ := hrel
    by_cases hi : i < s.size
    · have hnx := fun ty => Lib.run_next_any_at (P := Tryz.prog) wo w1.heap.size s i ty HT.out.1 hi
      by_cases ha : (s[i]'hi).toNat < 128
      · rw [Go.decode_ascii s i hi ha] at hnx
        obtain ⟨x, hx⟩ : ∃ x : UInt8, s[i]'hi = x := ⟨_, rfl⟩
        simp only [hx] at hnx ha
        have hxl : s.data.toList[i]? = some x := by
          rw [← hx, List.getElem?_eq_getElem (by rw [Array.length_toList]; exact hi)]; rfl
        have HL := Lib.hid hxl
        have HI := Lib.hid (fun w => Tryz.strings_IndexRune_ascii ⟨#[13, 10]⟩ (x.toNat : Int) w (by omega) (by omega))
        have hback : ((x.toNat : Int)).toNat.toUInt8 = x := by simp
        rw [hback, show (⟨#[13, 10]⟩ : ByteArray).data.toList = [13, 10] from rfl] at HI
        clear hx hxl hback
        have HT2 := Lib.hid (HT.out.step (i + 1))
        have hcon := holds_one [13, 10] x
        cases hin : ([13, 10] : List UInt8).contains x with
        | false =>
          rw [hin] at hcon
          have hlt : Lib.indexByte [13, 10] x < 0 := by simpa using hcon
          have HN2 := Lib.hid (HN.out.succ HL.out hin)
          clear hcon hin
          generalize Lib.indexByte [13, 10] x = q at *
          obtain ⟨g, rfl⟩ : ∃ g, gk = g + 1 := ⟨gk - 1, by omega⟩
          go_wp2_with fail
          refine (HI.out _).mono ?_; rintro e w2 ⟨rfl, rfl⟩
          go_wp2_with fail
          go_roundg g
          case measure => omega
          case rel => exact ⟨i + 1, by omega, HT2, HN2⟩
        | true =>
          rw [hin] at hcon
          have hge : 0 ≤ Lib.indexByte [13, 10] x := by simpa using hcon
          have HF : Hid ((i : Int) = r) := Lib.hid (by rw [← HR.out]; exact (Lib.indexAny_hit HN.out HL.out hin).symm)
          clear hcon hin
          generalize Lib.indexByte [13, 10] x = q at *
          go_wp2_with fail
          refine (HI.out _).mono ?_; rintro e w2 ⟨rfl, rfl⟩
          go_wp2_with fail
          go_ret
          exact ⟨ret_i HF.out, HT2.out.2.2⟩
      · have hd := Go.decode_high s i hi (by omega)
        have hle := decode_le s i
        have hwd := (decode_width s i hi).2.2.2.2
        have HN2 := Lib.hid (noAny_span s i hi (by omega) HN.out)
        have HT2 := Lib.hid (HT.out.step (i + (Utf8.decode s i).2))
        clear HN ha
        obtain ⟨d1, d2⟩ := hd
        generalize (Utf8.decode s i).1 = c at *
        generalize (Utf8.decode s i).2 = k at *
        have HI := Lib.hid (fun w => rune_none (c : Int) (by omega) (by omega) w)
        obtain ⟨g, rfl⟩ : ∃ g, gk = g + k := ⟨gk - k, by omega⟩
        go_wp2_with fail
        refine (HI.out _).mono ?_; rintro e w2 ⟨rfl, hb⟩
        have HT3 := Lib.hid (HT2.out.below rfl hb)
        clear hb
        go_wp2_with fail
        go_roundg g
        case measure => omega
        case rel => exact ⟨i + k, by omega, HT3, HN2⟩
    · obtain rfl : i = s.size := by omega
      have hnx := fun ty => Lib.run_next_end_at (P := Tryz.prog) wo w1.heap.size s s.size ty HT.out.1 (Nat.lt_irrefl _)
      have HF : Hid ((-1 : Int) = r) := Lib.hid (by rw [← HR.out]; exact (Lib.indexAny_none (by rw [len_z]; exact HN.out)).symm)
      go_wp2_with fail
      go_ret
      exact ⟨ret_i HF.out, HT.out.2.2⟩
theorem any_any (s : ByteArray) (hs : s.size ≤ 1000000) (w : World) :
    Calls Tryz.prog 78 #[.string s, .string ⟨#[13, 10]⟩] w fun e w' => e = .returned (.int .i64 (Lib.indexAny s.data.toList [13, 10])) ∧ Below w.heap.size w w' := by
  rcases Nat.lt_or_ge 8 s.size with h | h
  · refine (Tryz.strings_IndexAny_long (fun _ => by kernel_rfl) s ⟨#[13, 10]⟩ w (by decide) h (by omega) (by decide) (ascii_of_all (by decide))).mono ?_
    rintro e w' ⟨he, rfl⟩
    exact ⟨he, ((Below.refl _ _).alloc (Nat.le_refl _) _).alloc (by simp) _⟩
  · exact any_short s h w
end Go.Proofs.YtgaknbnhmoddcaaGreatDoor
namespace Go.Proofs.YtgaknbnhmoddcaaGreatDoor
open Go.RowKit
def fr (ms l : List UInt8) : List UInt8 := l.takeWhile (ms.contains ·)
theorem fr_take (ms l : List UInt8) : l.take (fr ms l).length = fr ms l := by
  unfold fr
  induction l with
  | nil => rfl
  | cons a l ih =>
    rw [List.takeWhile_cons]
    split
    · simp only [List.length_cons, List.take_succ_cons]; rw [ih]
    · rfl
set_option maxRecDepth 100000 in
set_option maxHeartbeats 1000000 in
theorem front_any (s ms : ByteArray) (hs : s.size ≤ 1000000) (w : World) :
    Calls Tryz.prog 73 #[.string s, .string ms] w fun e w' => e = .returned (.string ⟨(fr ms.data.toList s.data.toList).toArray⟩) ∧ w = w' := by
  obtain ⟨R, hR⟩ : ∃ R, (fr ms.data.toList s.data.toList).length = R := ⟨_, rfl⟩
  have ht := fr_take ms.data.toList s.data.toList
  rw [hR] at ht
  have HT := Lib.hid ht
  have HR : Hid (0 + (fr ms.data.toList (s.data.toList.drop 0)).length = R) := Lib.hid (by rw [List.drop_zero, Nat.zero_add]; exact hR)
  rw [← ht]
  clear hR ht
  go_enter Tryz.func73, Tryz.ntmps73
  go_wp2_with fail
  go_loop [8] (fun i => ∃ k : Nat, k ≤ s.size ∧ i = .int .i64 k ∧ Hid (k + (fr ms.data.toList (s.data.toList.drop k)).length = R)) (fun i => s.size - (intOf i).toNat)
  case atStart => exact ⟨0, Nat.zero_le _, rfl, HR⟩
  case round =>
    obtain ⟨k, hk, rfl, HK⟩ := hrel
    by_cases hlt : k < s.size
    · have hd := drop_at s k hlt
      have H1 : ∀ w, Calls Tryz.prog 72 #[.string ms, .int .u8 (s[k].toNat : Int)] w fun e w' => e = .returned (.int .i64 (Lib.indexByte ms.data.toList s[k])) ∧ w = w' := fun w => by
        have := Tryz.strings_IndexByte ms (s[k].toNat : Int) w
        rw [show ((s[k].toNat : Int)).toNat.toUInt8 = s[k] by simp] at this
        exact this.mono fun e w' ⟨h1, h2⟩ => ⟨h1, h2.symm⟩
      have hf : fr ms.data.toList (s.data.toList.drop k) = if ms.data.toList.contains s[k] then s[k] :: fr ms.data.toList (s.data.toList.drop (k + 1)) else [] := by
        rw [hd]; unfold fr; rw [List.takeWhile_cons]
      rcases ib_cases s[k] ms.data.toList with ⟨g1, n, g2⟩ | ⟨g1, g2⟩
      · rw [g1] at hf
        rw [g2] at H1
        have HK2 : Hid (k + 1 + (fr ms.data.toList (s.data.toList.drop (k + 1))).length = R) := Lib.hid (by have := HK.out; rw [hf] at this; simp at this; omega)
        have HI := Lib.hid H1
        have hn : ¬ (n : Int) < 0 := by omega
        clear hf H1 g1 g2 hd
        go_wp2_with fail
        refine (HI.out _).mono ?_; rintro e w1 ⟨rfl, rfl⟩
        go_wp2_with fail
        go_round
        case rel => exact ⟨k + 1, by omega, by go_num, HK2⟩
        case measure => simp [intOf]; omega
      · rw [g1] at hf
        rw [g2] at H1
        have HK2 : Hid (k = R) := Lib.hid (by have := HK.out; rw [hf] at this; simpa using this)
        have HI := Lib.hid H1
        have b1 : (k : Int) ≤ s.size := by omega
        have b2 : (0 : Int) ≤ k := by omega
        have HX : Hid (s.extract 0 k = ⟨(s.data.toList.take R).toArray⟩) := Lib.hid (by
          rw [← HK2.out]
          apply ByteArray.ext
          apply Array.ext'
          rw [ByteArray.data_extract, Array.toList_extract, List.extract_eq_take_drop]
          simp)
        clear hf H1 g1 g2 hd
        go_wp2_with fail
        refine (HI.out _).mono ?_; rintro e w1 ⟨rfl, rfl⟩
        go_wp2_with fail
        go_ret
        exact ⟨congrArg (fun z : ByteArray => Ending.returned (Value.string z)) HX.out, rfl⟩
    · have HX : Hid (s = ⟨(s.data.toList.take R).toArray⟩) := Lib.hid (by
        have := HK.out
        rw [List.drop_of_length_le (by rw [Array.length_toList]; exact Nat.le_of_not_lt hlt)] at this
        have hRs : s.size ≤ R := by simp [fr] at this; omega
        rw [List.take_of_length_le (by rw [Array.length_toList]; exact hRs)])
      go_wp2_with fail
      go_ret
      exact ⟨congrArg (fun z : ByteArray => Ending.returned (Value.string z)) HX.out, rfl⟩
end Go.Proofs.YtgaknbnhmoddcaaGreatDoor
namespace Go.Proofs.YtgaknbnhmoddcaaGreatDoor
open Go.RowKit
theorem fr_all (ms l : List UInt8) : (fr ms l == l) = l.all (ms.contains ·) := by
  unfold fr
  induction l with
  | nil => rfl
  | cons a l ih =>
    rw [List.takeWhile_cons, List.all_cons]
    cases ms.contains a with
    | true => simpa using ih
    | false => rfl
set_option maxRecDepth 100000 in
set_option maxHeartbeats 1000000 in
theorem lname_any (s : ByteArray) (hs : s.size ≤ 1000000) (w : World) :
    Calls Tryz.prog 38 #[.string s] w fun e w' => e = .returned (.bool (nameB s.data.toList)) ∧ w = w' := by
  rcases empty_z s with ⟨h0, h1, h2, h3⟩ | ⟨h0, h1, h2, h3⟩
  · have hr : nameB s.data.toList = (!isDig s[0] && (fr nameMs s.data.toList == s.data.toList)) := by
      rw [fr_all, show (nameMs.contains ·) = nameC from funext name_ms]
      have := head_z s h0
      rw [this]; rfl
    have H1 : ∀ w, Calls Tryz.prog 72 #[.string ⟨#[48, 49, 50, 51, 52, 53, 54, 55, 56, 57]⟩, .int .u8 (s[0].toNat : Int)] w fun e w' => e = .returned (.int .i64 (if isDig s[0] then ((s[0].toNat - 48 : Nat) : Int) else -1)) ∧ w = w' := fun w => by
      have := Tryz.strings_IndexByte ⟨#[48, 49, 50, 51, 52, 53, 54, 55, 56, 57]⟩ (s[0].toNat : Int) w
      rw [show ((s[0].toNat : Int)).toNat.toUInt8 = s[0] by simp, ib_dig] at this
      exact this.mono fun e w' ⟨h1, h2⟩ => ⟨h1, h2.symm⟩
    have H2 := Lib.hid (fun w => front_any s ⟨nameMs.toArray⟩ hs w)
    obtain ⟨r, hr2⟩ : ∃ r, nameB s.data.toList = r := ⟨_, rfl⟩
    rw [hr2]
    rw [hr2] at hr
    obtain ⟨F, hF⟩ : ∃ F : ByteArray, (⟨(fr (⟨nameMs.toArray⟩ : ByteArray).data.toList s.data.toList).toArray⟩ : ByteArray) = F := ⟨_, rfl⟩
    rw [hF] at H2
    have hc : (F.toList == s.toList) = (fr nameMs s.data.toList == s.data.toList) := by rw [← hF, ByteArray.toList_eq, ByteArray.toList_eq]
    rw [← hc] at hr
    have HR := Lib.hid hr
    unfold nameMs at H2
    clear hr hr2 hF hc
    cases hd : isDig s[0] with
    | true =>
      rw [hd] at H1 HR
      simp only [if_true] at H1
      have HI := Lib.hid H1
      have HF : Hid (false = r) := Lib.hid (by rw [HR.out]; rfl)
      clear H1 HR hd
      generalize s[0].toNat - 48 = n at *
      have hn : ¬ (n : Int) < 0 := by omega
      go_enter Tryz.func38, Tryz.ntmps38
      go_wp2_with fail
      refine (HI.out _).mono ?_; rintro e w1 ⟨rfl, rfl⟩
      go_wp2_with fail
      go_ret
      exact ⟨ret_b HF.out, rfl⟩
    | false =>
      rw [hd] at H1 HR
      simp only [Bool.false_eq_true, if_false] at H1
      have HI := Lib.hid H1
      have HF : Hid ((F.toList == s.toList) = r) := Lib.hid (by rw [HR.out]; rfl)
      clear H1 HR hd
      go_enter Tryz.func38, Tryz.ntmps38
      go_wp2_with fail
      refine (HI.out _).mono ?_; rintro e w1 ⟨rfl, rfl⟩
      go_wp2_with fail
      refine (H2.out _).mono ?_; rintro e w1 ⟨rfl, rfl⟩
      go_wp2_with fail
      go_ret
      exact ⟨ret_b HF.out, rfl⟩
  · have hr : nameB s.data.toList = false := by rw [h3]; rfl
    rw [hr]
    clear h0 h3 hr
    go_enter Tryz.func38, Tryz.ntmps38
    go_wp2_with fail
    go_ret
    exact ⟨rfl, rfl⟩
theorem dig_ms (c : UInt8) : ([48, 49, 50, 51, 52, 53, 54, 55, 56, 57] : List UInt8).contains c = isDig c := by
  have := all256' (f := fun c => ([48, 49, 50, 51, 52, 53, 54, 55, 56, 57] : List UInt8).contains c == isDig c) (by decide +kernel) c
  simpa using this
set_option maxRecDepth 100000 in
set_option maxHeartbeats 1000000 in
theorem lnumber_any (s : ByteArray) (hs : s.size ≤ 1000000) (w : World) :
    Calls Tryz.prog 201 #[.string s] w fun e w' => e = .returned (.bool (okDigits (body s.data.toList))) ∧ w = w' := by
  have H1 : ∀ w, Calls Tryz.prog 200 #[.string s, .string ⟨#[45]⟩] w fun e w' => e = .returned (.string ⟨(body s.data.toList).toArray⟩) ∧ w = w' := fun w => by
    have := Tryz.strings_TrimPrefix s ⟨#[45]⟩ w
    rw [show (⟨#[45]⟩ : ByteArray).data.toList = [45] from rfl, trimPrefix_dash] at this
    exact this.mono fun e w' ⟨h1, h2⟩ => ⟨h1, h2.symm⟩
  have hbl : (body s.data.toList).length ≤ s.size := by
    have := len_z s
    unfold body
    split
    · rw [List.length_tail]; omega
    · omega
  obtain ⟨B, hB⟩ : ∃ B : ByteArray, (⟨(body s.data.toList).toArray⟩ : ByteArray) = B := ⟨_, rfl⟩
  have hBl : body s.data.toList = B.data.toList := by rw [← hB]
  rw [hB] at H1
  rw [hBl] at hbl ⊢
  rw [len_z] at hbl
  have HI := Lib.hid H1
  clear H1 hB hBl
  obtain ⟨r, hr⟩ : ∃ r, okDigits B.data.toList = r := ⟨_, rfl⟩
  rw [hr]
  rcases empty_z B with ⟨h0, h1, h2, h3⟩ | ⟨h0, h1, h2, h3⟩
  · have H2 := Lib.hid (fun w => front_any B ⟨#[48, 49, 50, 51, 52, 53, 54, 55, 56, 57]⟩ (by omega) w)
    have hz := head_z B h0
    have hall := fr_all [48, 49, 50, 51, 52, 53, 54, 55, 56, 57] B.data.toList
    rw [show ((([48, 49, 50, 51, 52, 53, 54, 55, 56, 57] : List UInt8)).contains ·) = isDig from funext dig_ms] at hall
    obtain ⟨F, hF⟩ : ∃ F : ByteArray, (⟨(fr (⟨#[48, 49, 50, 51, 52, 53, 54, 55, 56, 57]⟩ : ByteArray).data.toList B.data.toList).toArray⟩ : ByteArray) = F := ⟨_, rfl⟩
    rw [hF] at H2
    have hc : (F.toList == B.toList) = B.data.toList.all isDig := by rw [← hall, ← hF, ByteArray.toList_eq, ByteArray.toList_eq]
    have hne : B.data.toList.isEmpty = false := by rw [hz]; rfl
    have hhd : B.data.toList.head? = some B[0] := by rw [hz]; rfl
    have hone : (B.toList == [48]) = (B[0] == 48 && decide (B.size = 1)) := by
      rw [ByteArray.toList_eq]
      have hl := len_z B
      rw [hz] at hl ⊢
      simp only [List.length_cons] at hl
      rw [Bool.eq_iff_iff]
      simp only [beq_iff_eq, List.cons.injEq, Bool.and_eq_true, decide_eq_true_eq]
      constructor
      · rintro ⟨a, b⟩; rw [b] at hl; exact ⟨a, by simp at hl; omega⟩
      · rintro ⟨a, b⟩; exact ⟨a, List.eq_nil_of_length_eq_zero (by omega)⟩
    unfold okDigits digitsB at hr
    rw [hne, hhd, ← hc, len_z] at hr
    clear hz hall hF hc hne hhd
    cases ha : (F.toList == B.toList) with
    | false =>
      have HF : Hid (false = r) := Lib.hid (by rw [← hr, ha]; rfl)
      clear hr hone
      go_enter Tryz.func201, Tryz.ntmps201
      go_wp2_with fail
      refine (HI.out _).mono ?_; rintro e w1 ⟨rfl, rfl⟩
      go_wp2_with fail
      refine (H2.out _).mono ?_; rintro e w1 ⟨rfl, rfl⟩
      go_wp2_with fail
      go_ret
      exact ⟨ret_b HF.out, rfl⟩
    | true =>
      rw [ha] at hr
      by_cases h48 : B[0] = 48
      · have HF : Hid ((B.toList == [48]) = r) := Lib.hid (by
          rw [← hr, hone, h48]
          have : decide (B.size = 1) = !decide (1 < B.size) := by rw [Bool.eq_iff_iff]; simp; omega
          rw [this]; simp)
        have e1 : ((B[0].toNat : Int) != 48) = false := by rw [h48]; rfl
        have e2 : ((B[0].toNat : Int) == 48) = true := by rw [h48]; rfl
        clear hr hone h48
        go_enter Tryz.func201, Tryz.ntmps201
        go_wp2_with fail
        refine (HI.out _).mono ?_; rintro e w1 ⟨rfl, rfl⟩
        go_wp2_with fail
        refine (H2.out _).mono ?_; rintro e w1 ⟨rfl, rfl⟩
        go_wp2_with fail
        go_ret
        exact ⟨ret_b HF.out, rfl⟩
      · have HF : Hid (true = r) := Lib.hid (by
          rw [← hr]
          have : (some B[0] == some (48 : UInt8)) = false := by simpa using h48
          rw [this]; rfl)
        have e0 : ¬ (B[0].toNat : Int) = 48 := fun e => h48 (UInt8.toNat_inj.1 (by show B[0].toNat = 48; omega))
        have e1 : ((B[0].toNat : Int) != 48) = true := by simpa using e0
        have e2 : ((B[0].toNat : Int) == 48) = false := by simpa using e0
        clear hr hone h48 e0
        go_enter Tryz.func201, Tryz.ntmps201
        go_wp2_with fail
        refine (HI.out _).mono ?_; rintro e w1 ⟨rfl, rfl⟩
        go_wp2_with fail
        refine (H2.out _).mono ?_; rintro e w1 ⟨rfl, rfl⟩
        go_wp2_with fail
        go_ret
        exact ⟨ret_b HF.out, rfl⟩
  · have HF : Hid (false = r) := Lib.hid (by rw [← hr, h3]; rfl)
    clear hr h3 h0
    go_enter Tryz.func201, Tryz.ntmps201
    go_wp2_with fail
    refine (HI.out _).mono ?_; rintro e w1 ⟨rfl, rfl⟩
    go_wp2_with fail
    go_ret
    exact ⟨ret_b HF.out, rfl⟩
end Go.Proofs.YtgaknbnhmoddcaaGreatDoor
namespace Go.Proofs.YtgaknbnhmoddcaaGreatDoor
open Go.RowKit
/-- A token's value. -/
def tokV (k : UInt8) (x : List UInt8) (p : Int) : Value := .agg #[.int .u8 (k.toNat : Int), .string ⟨x.toArray⟩, .int .i64 p]
theorem while_le (p : UInt8 → Bool) : ∀ l : List UInt8, (l.takeWhile p).length ≤ l.length
  | [] => Nat.le_refl _
  | c :: l => by
    rw [List.takeWhile_cons]
    split
    · have := while_le p l; simp only [List.length_cons]; omega
    · exact Nat.zero_le _
theorem fr_name (l : List UInt8) : fr nameMs l = l.takeWhile nameC := by
  unfold fr
  rw [show (nameMs.contains ·) = nameC from funext name_ms]
theorem tcellsL {b : Nat} {W : World} {v0 v1 v2 : Value} (h : W.heap[b]? = some (.cells #[v0, v1, v2] 72 (0, 0))) :
    (W.cell? ⟨b, 0, none⟩ = some v0 ∧ W.cell? ⟨b, 1, none⟩ = some v1 ∧ W.cell? ⟨b, 2, none⟩ = some v2) ∧
    (W.frozen? ⟨b, 0, none⟩ = false ∧ W.frozen? ⟨b, 1, none⟩ = false ∧ W.frozen? ⟨b, 2, none⟩ = false) ∧ b < W.heap.size := by
  refine ⟨⟨?_, ?_, ?_⟩, ⟨Lib.frozen_of_heap h 0, Lib.frozen_of_heap h 1, Lib.frozen_of_heap h 2⟩, (Array.getElem?_eq_some_iff.1 h).1⟩
  all_goals (rw [Lib.cell_of_heap h]; rfl)
theorem cells_new (w : World) (A : Obj) (v0 v1 v2 : Value) : ((w.alloc A).alloc (.cells #[v0, v1, v2] 72)).heap[w.heap.size + 1]? = some (.cells #[v0, v1, v2] 72 (0, 0)) := by
  have := heap_alloc_new (w.alloc A) (.cells #[v0, v1, v2] 72 (0, 0))
  rw [show (w.alloc A).heap.size = w.heap.size + 1 from by simp] at this
  exact this
/-- What a reader tells: the token, how many bytes. -/
def tellV (k : UInt8) (o : Option (List UInt8)) : Value := match o with
  | some a => .tuple #[tokV k a 0, .int .i64 (a.length : Int)]
  | none => .tuple #[tokV 0 [] 0, .int .i64 0]
set_option maxRecDepth 100000 in
set_option maxHeartbeats 1000000 in
theorem nread_any (s : ByteArray) (hs : s.size ≤ 1000000) (w : World) :
    Calls Tryz.prog 198 #[.agg #[], .string s] w fun e w' => e = .returned (tellV 1 (nameT s.data.toList)) ∧ Below w.heap.size w w' := by
  have H1 := Lib.hid (fun w => front_any s ⟨nameMs.toArray⟩ hs w)
  obtain ⟨F, hF⟩ : ∃ F : List UInt8, fr nameMs s.data.toList = F := ⟨_, rfl⟩
  have hF2 : nameT s.data.toList = if nameB F then some F else none := by unfold nameT; rw [← hF, fr_name]
  have hle : F.length ≤ s.size := by rw [← hF, ← len_z s]; unfold fr; exact while_le _ _
  rw [show fr (⟨nameMs.toArray⟩ : ByteArray).data.toList s.data.toList = F from hF] at H1
  have H2 := Lib.hid (fun w => lname_any ⟨F.toArray⟩ (by show F.toArray.size ≤ 1000000; rw [List.size_toArray]; omega) w)
  rw [show (⟨F.toArray⟩ : ByteArray).data.toList = F from rfl] at H2
  have hz : ((⟨F.toArray⟩ : ByteArray).size : Int) = (F.length : Int) := by show (F.toArray.size : Int) = _; rw [List.size_toArray]
  have hz2 : (⟨F.toArray⟩ : ByteArray).size ≤ 1000000 := by omega
  have hV : tellV 1 (nameT s.data.toList) = if nameB F then .tuple #[tokV 1 F 0, .int .i64 (F.length : Int)] else .tuple #[tokV 0 [] 0, .int .i64 0] := by
    rw [hF2]; unfold tellV; cases nameB F <;> rfl
  rw [hV]
  unfold nameMs at H1
  clear hF hF2 hV
  cases hb : nameB F with
  | true =>
    rw [hb] at H2
    rw [if_pos rfl]
    obtain ⟨V, hV⟩ : ∃ V, Value.tuple #[tokV 1 F 0, .int .i64 (F.length : Int)] = V := ⟨_, rfl⟩
    rw [hV]
    have HV := Lib.hid hV
    clear hV hb
    go_enter Tryz.func198, Tryz.ntmps198
    go_wp2_with fail
    refine (H1.out _).mono ?_; rintro e w1 ⟨rfl, rfl⟩
    go_wp2_with fail
    refine (H2.out _).mono ?_; rintro e w1 ⟨rfl, rfl⟩
    go_wp2_with fail
    obtain ⟨⟨c0, c1, c2⟩, ⟨g0, g1, g2⟩, hz⟩ := tcellsL (cells_new w (.cells #[] 97) (.int .u8 1) (.string ⟨F.toArray⟩) (.int .i64 0))
    refine bodyPost_ret (v := .tuple #[.agg #[(.int .u8 1), .string ⟨F.toArray⟩, .int .i64 0], .int .i64 (F.length : Int)]) (by simp [results, Tryz.results198, go_sem, *]) rfl ⟨by rw [← HV.out]; rfl, ((Below.refl _ _).alloc (Nat.le_refl _) _).alloc (by simp) _⟩
  | false =>
    rw [hb] at H2
    rw [if_neg (by decide)]
    obtain ⟨V, hV⟩ : ∃ V, Value.tuple #[tokV 0 [] 0, .int .i64 0] = V := ⟨_, rfl⟩
    rw [hV]
    have HV := Lib.hid hV
    clear hV hb
    go_enter Tryz.func198, Tryz.ntmps198
    go_wp2_with fail
    refine (H1.out _).mono ?_; rintro e w1 ⟨rfl, rfl⟩
    go_wp2_with fail
    refine (H2.out _).mono ?_; rintro e w1 ⟨rfl, rfl⟩
    go_wp2_with fail
    obtain ⟨⟨c0, c1, c2⟩, ⟨g0, g1, g2⟩, hz⟩ := tcellsL (cells_new w (.cells #[] 97) (.int .u8 0) (.string ⟨#[]⟩) (.int .i64 0))
    refine bodyPost_ret (v := .tuple #[.agg #[(.int .u8 0), .string ⟨#[]⟩, .int .i64 0], .int .i64 0]) (by simp [results, Tryz.results198, go_sem, *]) rfl ⟨by rw [← HV.out]; rfl, ((Below.refl _ _).alloc (Nat.le_refl _) _).alloc (by simp) _⟩
theorem marks_ib (c : UInt8) : ((Lib.indexByte (⟨#[33, 36, 38, 40, 41, 58, 61, 64, 91, 93, 123, 124, 125]⟩ : ByteArray).data.toList c < 0) ↔ marksL.contains c = false) := by
  have := all256' (f := fun c => decide ((Lib.indexByte (⟨#[33, 36, 38, 40, 41, 58, 61, 64, 91, 93, 123, 124, 125]⟩ : ByteArray).data.toList c < 0) ↔ marksL.contains c = false)) (by decide +kernel) c
  exact of_decide_eq_true this
set_option maxRecDepth 100000 in
set_option maxHeartbeats 1000000 in
theorem pread17_any (s : ByteArray) (h0 : 0 < s.size) (hs : s.size ≤ 1000000) (w : World) :
    Calls Tryz.prog 230 #[.agg #[], .string s] w fun e w' => e = .returned (tellV 4 (punT s.data.toList)) ∧ Below w.heap.size w w' := by
  obtain ⟨p, hp⟩ : ∃ p, ([46, 46, 46] : List UInt8).isPrefixOf s.data.toList = p := ⟨_, rfl⟩
  have H1 : Hid (∀ w, Calls Tryz.prog 77 #[.string s, .string ⟨#[46, 46, 46]⟩] w fun e w' => e = .returned (.bool p) ∧ w = w') := Lib.hid (fun w => (Tryz.strings_HasPrefix s ⟨#[46, 46, 46]⟩ w).mono fun e w' ⟨h1, h2⟩ => ⟨h1.trans (by rw [← hp]; rfl), h2.symm⟩)
  obtain ⟨ix, hix⟩ : ∃ ix, Lib.indexByte (⟨#[33, 36, 38, 40, 41, 58, 61, 64, 91, 93, 123, 124, 125]⟩ : ByteArray).data.toList s[0] = ix := ⟨_, rfl⟩
  have H2 : Hid (∀ w, Calls Tryz.prog 72 #[.string ⟨#[33, 36, 38, 40, 41, 58, 61, 64, 91, 93, 123, 124, 125]⟩, .int .u8 (s[0].toNat : Int)] w fun e w' => e = .returned (.int .i64 ix) ∧ w = w') := Lib.hid (fun w => by
    have := Tryz.strings_IndexByte ⟨#[33, 36, 38, 40, 41, 58, 61, 64, 91, 93, 123, 124, 125]⟩ (s[0].toNat : Int) w
    rw [show ((s[0].toNat : Int)).toNat.toUInt8 = s[0] by simp, hix] at this
    exact this.mono fun e w' ⟨h1, h2⟩ => ⟨h1, h2.symm⟩)
  have hm := marks_ib s[0]
  rw [hix] at hm
  have hP : punT s.data.toList = if p then (some [46, 46, 46] : Option (List UInt8)) else if marksL.contains s[0] then some [s[0]] else none := by
    unfold punT
    rw [hp, head_z s h0]
  rw [hP]
  cases p with
  | true =>
    have h3 : 3 ≤ s.size := by
      have := (List.isPrefixOf_iff_prefix.1 hp).length_le
      rw [len_z] at this; exact this
    have hx : s.extract 0 3 = ⟨#[46, 46, 46]⟩ := by
      obtain ⟨z, hz⟩ := List.isPrefixOf_iff_prefix.1 hp
      apply bytes_ext'
      rw [ByteArray.data_extract, Array.toList_extract, ← hz]
      rfl
    rw [if_pos rfl]
    clear hP hm hp H2
    obtain ⟨V, hV⟩ : ∃ V, tellV 4 (some [46, 46, 46]) = V := ⟨_, rfl⟩
    rw [hV]
    have HV := Lib.hid hV
    clear hV
    go_enter Tryz.func230, Tryz.ntmps230
    go_wp2_with fail
    refine (H1.out _).mono ?_; rintro e w1 ⟨rfl, rfl⟩
    go_wp2_with fail
    obtain ⟨⟨c0, c1, c2⟩, ⟨g0, g1, g2⟩, hz⟩ := tcellsL (cells_new w (.cells #[] 100) (.int .u8 4) (.string ⟨#[46, 46, 46]⟩) (.int .i64 0))
    refine bodyPost_ret (v := .tuple #[.agg #[(.int .u8 4), .string ⟨#[46, 46, 46]⟩, .int .i64 0], .int .i64 3]) (by simp [results, Tryz.results230, go_sem, *]) rfl ⟨by rw [← HV.out]; rfl, ((Below.refl _ _).alloc (Nat.le_refl _) _).alloc (by simp) _⟩
  | false =>
    rw [if_neg (by decide)]
    cases hc : marksL.contains s[0] with
    | true =>
      have hx : s.extract 0 1 = ⟨#[s[0]]⟩ := by
        apply bytes_ext'
        rw [ByteArray.data_extract, Array.toList_extract, head_z s h0]
        rfl
      have hge : ¬ ix < 0 := fun h => by have := hm.1 h; rw [hc] at this; cases this
      rw [if_pos rfl]
      clear hP hm hp hix
      obtain ⟨V, hV⟩ : ∃ V, tellV 4 (some [s[0]]) = V := ⟨_, rfl⟩
      rw [hV]
      have HV := Lib.hid hV
      clear hV
      go_enter Tryz.func230, Tryz.ntmps230
      go_wp2_with fail
      refine (H1.out _).mono ?_; rintro e w1 ⟨rfl, rfl⟩
      go_wp2_with fail
      refine (H2.out _).mono ?_; rintro e w1 ⟨rfl, rfl⟩
      go_wp2_with fail
      obtain ⟨⟨c0, c1, c2⟩, ⟨g0, g1, g2⟩, hz⟩ := tcellsL (cells_new w (.cells #[] 100) (.int .u8 4) (.string ⟨#[s[0]]⟩) (.int .i64 0))
      refine bodyPost_ret (v := .tuple #[.agg #[(.int .u8 4), .string ⟨#[s[0]]⟩, .int .i64 0], .int .i64 1]) (by simp [results, Tryz.results230, go_sem, *]) rfl ⟨by rw [← HV.out]; rfl, ((Below.refl _ _).alloc (Nat.le_refl _) _).alloc (by simp) _⟩
    | false =>
      have hlt : ix < 0 := hm.2 hc
      rw [if_neg (by decide)]
      clear hP hm hp hix
      obtain ⟨V, hV⟩ : ∃ V, tellV 4 none = V := ⟨_, rfl⟩
      rw [hV]
      have HV := Lib.hid hV
      clear hV
      go_enter Tryz.func230, Tryz.ntmps230
      go_wp2_with fail
      refine (H1.out _).mono ?_; rintro e w1 ⟨rfl, rfl⟩
      go_wp2_with fail
      refine (H2.out _).mono ?_; rintro e w1 ⟨rfl, rfl⟩
      go_wp2_with fail
      obtain ⟨⟨c0, c1, c2⟩, ⟨g0, g1, g2⟩, hz⟩ := tcellsL (cells_new w (.cells #[] 100) (.int .u8 0) (.string ⟨#[]⟩) (.int .i64 0))
      refine bodyPost_ret (v := .tuple #[.agg #[(.int .u8 0), .string ⟨#[]⟩, .int .i64 0], .int .i64 0]) (by simp [results, Tryz.results230, go_sem, *]) rfl ⟨by rw [← HV.out]; rfl, ((Below.refl _ _).alloc (Nat.le_refl _) _).alloc (by simp) _⟩
end Go.Proofs.YtgaknbnhmoddcaaGreatDoor
namespace Go.Proofs.YtgaknbnhmoddcaaGreatDoor
open Go.RowKit
theorem dot_ib (c : UInt8) : ((0 ≤ Lib.indexByte (⟨#[95, 97, 98, 99, 100, 101, 102, 103, 104, 105, 106, 107, 108, 109, 110, 111, 112, 113, 114, 115, 116, 117, 118, 119, 120, 121, 122, 65, 66, 67, 68, 69, 70, 71, 72, 73, 74, 75, 76, 77, 78, 79, 80, 81, 82, 83, 84, 85, 86, 87, 88, 89, 90, 46]⟩ : ByteArray).data.toList c) ↔ (isDig c = false ∧ (nameC c || c == 46) = true)) := by
  have := all256' (f := fun c => decide ((0 ≤ Lib.indexByte (⟨#[95, 97, 98, 99, 100, 101, 102, 103, 104, 105, 106, 107, 108, 109, 110, 111, 112, 113, 114, 115, 116, 117, 118, 119, 120, 121, 122, 65, 66, 67, 68, 69, 70, 71, 72, 73, 74, 75, 76, 77, 78, 79, 80, 81, 82, 83, 84, 85, 86, 87, 88, 89, 90, 46]⟩ : ByteArray).data.toList c) ↔ (isDig c = false ∧ (nameC c || c == 46) = true))) (by decide +kernel) c
  exact of_decide_eq_true this
theorem while_drop (p : UInt8 → Bool) : ∀ l : List UInt8, l.dropWhile p = l.drop (l.takeWhile p).length ∧ ∀ c, (l.dropWhile p).head? = some c → p c = false
  | [] => ⟨rfl, fun c h => by cases h⟩
  | a :: l => by
    obtain ⟨h1, h2⟩ := while_drop p l
    rw [List.dropWhile_cons, List.takeWhile_cons]
    cases h : p a with
    | true => rw [if_pos rfl, if_pos rfl, List.length_cons, List.drop_succ_cons]; exact ⟨h1, h2⟩
    | false => exact ⟨rfl, fun c hc => by injection hc with hc; subst hc; exact h⟩
theorem body_sign (l : List UInt8) : body ((if below l then [45] else []) ++ (body l).takeWhile isDig) = (body l).takeWhile isDig := by
  cases hx : below l with
  | true => rfl
  | false =>
    rw [if_neg (by decide), List.nil_append]
    have hb : body l = l := by unfold body; rw [hx]; rfl
    rw [hb]
    cases l with
    | nil => rfl
    | cons c r =>
      have hc : c ≠ 45 := by
        have : below (c :: r) = false := hx
        unfold below at this
        exact beq_eq_false_iff_ne.1 this
      rw [List.takeWhile_cons]
      split
      · unfold body
        rw [show below (c :: r.takeWhile isDig) = false from by unfold below; exact beq_eq_false_iff_ne.2 hc]
        rfl
      · rfl
theorem sign_body (l : List UInt8) : (if below l then ([45] : List UInt8) else []) ++ body l = l := by
  cases l with
  | nil => rfl
  | cons c r =>
    unfold body
    by_cases h : c = 45
    · subst h; rfl
    · rw [show below (c :: r) = false from by unfold below; exact beq_eq_false_iff_ne.2 h]; rfl
set_option maxRecDepth 100000 in
set_option maxHeartbeats 1000000 in
/-- The walk over letters. -/
theorem num_path (s B D : ByteArray) (g n : Nat) (q : Bool) (ix : Int) (o : Option (List UInt8)) (hs : s.size ≤ 1000000) (hB : B.size ≤ 1000000) (eg : (s.size : Int) - (B.size : Int) = (g : Int)) (hg : g ≤ s.size) (en : (g : Int) + (D.size : Int) = (n : Int)) (hn : n ≤ s.size)
    (HT : Hid (∀ w, Calls Tryz.prog 200 #[.string s, .string ⟨#[45]⟩] w fun e w' => e = .returned (.string B) ∧ w = w'))
    (HF : Hid (∀ w, Calls Tryz.prog 73 #[.string (s.extract g s.size), .string ⟨#[48, 49, 50, 51, 52, 53, 54, 55, 56, 57]⟩] w fun e w' => e = .returned (.string D) ∧ w = w'))
    (HN : Hid (∀ w, Calls Tryz.prog 201 #[.string (s.extract 0 n)] w fun e w' => e = .returned (.bool q) ∧ w = w'))
    (HI : ∀ h : n < s.size, Hid (∀ w, Calls Tryz.prog 72 #[.string ⟨#[95, 97, 98, 99, 100, 101, 102, 103, 104, 105, 106, 107, 108, 109, 110, 111, 112, 113, 114, 115, 116, 117, 118, 119, 120, 121, 122, 65, 66, 67, 68, 69, 70, 71, 72, 73, 74, 75, 76, 77, 78, 79, 80, 81, 82, 83, 84, 85, 86, 87, 88, 89, 90, 46]⟩, .int .u8 (s[n].toNat : Int)] w fun e w' => e = .returned (.int .i64 ix) ∧ w = w'))
    (ho : Hid (o = if q = true ∧ ¬ (n < s.size ∧ 0 ≤ ix) then some (s.extract 0 n).data.toList else none)) (hl : ((s.extract 0 n).data.toList.length : Int) = n) (w : World) :
    Calls Tryz.prog 199 #[.agg #[], .string s] w fun e w' => e = .returned (tellV 2 o) ∧ Below w.heap.size w w' := by
  have hx : (⟨(s.extract 0 n).data.toList.toArray⟩ : ByteArray) = s.extract 0 n := rfl
  cases q with
  | false =>
    have HV : Hid (tellV 2 none = tellV 2 o) := Lib.hid (by rw [ho.out, if_neg (by simp)])
    obtain ⟨V, hV⟩ : ∃ V, tellV 2 o = V := ⟨_, rfl⟩
    rw [hV] at HV ⊢
    clear ho HI hV
    go_enter Tryz.func199, Tryz.ntmps199
    go_wp2_with fail
    refine (HT.out _).mono ?_; rintro e w1 ⟨rfl, rfl⟩
    go_wp2_with fail
    refine (HF.out _).mono ?_; rintro e w1 ⟨rfl, rfl⟩
    go_wp2_with fail
    refine (HN.out _).mono ?_; rintro e w1 ⟨rfl, rfl⟩
    go_wp2_with fail
    obtain ⟨⟨c0, c1, c2⟩, ⟨g0, g1, g2⟩, hz⟩ := tcellsL (cells_new w (.cells #[] 98) (.int .u8 0) (.string ⟨#[]⟩) (.int .i64 0))
    refine bodyPost_ret (v := .tuple #[.agg #[(.int .u8 0), .string ⟨#[]⟩, .int .i64 0], .int .i64 0]) (by simp [results, Tryz.results199, go_sem, *]) rfl ⟨by rw [← HV.out]; rfl, ((Below.refl _ _).alloc (Nat.le_refl _) _).alloc (by simp) _⟩
  | true =>
    by_cases hlt : n < s.size
    · have HI := HI hlt
      have hlt2 : ((n : Int) < (s.size : Int)) := by omega
      by_cases hix : 0 ≤ ix
      · have HV : Hid (tellV 2 none = tellV 2 o) := Lib.hid (by rw [ho.out, if_neg (by simp [hlt, hix])])
        obtain ⟨V, hV⟩ : ∃ V, tellV 2 o = V := ⟨_, rfl⟩
        rw [hV] at HV ⊢
        clear ho hV
        go_enter Tryz.func199, Tryz.ntmps199
        go_wp2_with fail
        refine (HT.out _).mono ?_; rintro e w1 ⟨rfl, rfl⟩
        go_wp2_with fail
        refine (HF.out _).mono ?_; rintro e w1 ⟨rfl, rfl⟩
        go_wp2_with fail
        refine (HN.out _).mono ?_; rintro e w1 ⟨rfl, rfl⟩
        go_wp2_with fail
        refine (HI.out _).mono ?_; rintro e w1 ⟨rfl, rfl⟩
        go_wp2_with fail
        obtain ⟨⟨c0, c1, c2⟩, ⟨g0, g1, g2⟩, hz⟩ := tcellsL (cells_new w (.cells #[] 98) (.int .u8 0) (.string ⟨#[]⟩) (.int .i64 0))
        refine bodyPost_ret (v := .tuple #[.agg #[(.int .u8 0), .string ⟨#[]⟩, .int .i64 0], .int .i64 0]) (by simp [results, Tryz.results199, go_sem, *]) rfl ⟨by rw [← HV.out]; rfl, ((Below.refl _ _).alloc (Nat.le_refl _) _).alloc (by simp) _⟩
      · have HV : Hid (tellV 2 (some (s.extract 0 n).data.toList) = tellV 2 o) := Lib.hid (by rw [ho.out, if_pos (by simp [hix])])
        obtain ⟨V, hV⟩ : ∃ V, tellV 2 o = V := ⟨_, rfl⟩
        rw [hV] at HV ⊢
        clear ho hV
        go_enter Tryz.func199, Tryz.ntmps199
        go_wp2_with fail
        refine (HT.out _).mono ?_; rintro e w1 ⟨rfl, rfl⟩
        go_wp2_with fail
        refine (HF.out _).mono ?_; rintro e w1 ⟨rfl, rfl⟩
        go_wp2_with fail
        refine (HN.out _).mono ?_; rintro e w1 ⟨rfl, rfl⟩
        go_wp2_with fail
        refine (HI.out _).mono ?_; rintro e w1 ⟨rfl, rfl⟩
        go_wp2_with fail
        obtain ⟨⟨c0, c1, c2⟩, ⟨g0, g1, g2⟩, hz⟩ := tcellsL (cells_new w (.cells #[] 98) (.int .u8 2) (.string (s.extract 0 n)) (.int .i64 0))
        refine bodyPost_ret (v := .tuple #[.agg #[(.int .u8 2), .string (s.extract 0 n), .int .i64 0], .int .i64 n]) (by simp [results, Tryz.results199, go_sem, *]) rfl ⟨by rw [← HV.out, ← hl]; rfl, ((Below.refl _ _).alloc (Nat.le_refl _) _).alloc (by simp) _⟩
    · have hlt2 : ¬ ((n : Int) < (s.size : Int)) := by omega
      have HV : Hid (tellV 2 (some (s.extract 0 n).data.toList) = tellV 2 o) := Lib.hid (by rw [ho.out, if_pos (by simp [hlt])])
      obtain ⟨V, hV⟩ : ∃ V, tellV 2 o = V := ⟨_, rfl⟩
      rw [hV] at HV ⊢
      clear ho hV HI
      go_enter Tryz.func199, Tryz.ntmps199
      go_wp2_with fail
      refine (HT.out _).mono ?_; rintro e w1 ⟨rfl, rfl⟩
      go_wp2_with fail
      refine (HF.out _).mono ?_; rintro e w1 ⟨rfl, rfl⟩
      go_wp2_with fail
      refine (HN.out _).mono ?_; rintro e w1 ⟨rfl, rfl⟩
      go_wp2_with fail
      obtain ⟨⟨c0, c1, c2⟩, ⟨g0, g1, g2⟩, hz⟩ := tcellsL (cells_new w (.cells #[] 98) (.int .u8 2) (.string (s.extract 0 n)) (.int .i64 0))
      refine bodyPost_ret (v := .tuple #[.agg #[(.int .u8 2), .string (s.extract 0 n), .int .i64 0], .int .i64 n]) (by simp [results, Tryz.results199, go_sem, *]) rfl ⟨by rw [← HV.out, ← hl]; rfl, ((Below.refl _ _).alloc (Nat.le_refl _) _).alloc (by simp) _⟩
theorem extract_drop (s : ByteArray) (k : Nat) : (s.extract k s.size).data.toList = s.data.toList.drop k := by
  rw [ByteArray.data_extract, Array.toList_extract, List.extract_eq_take_drop]
  have := len_z s
  rw [List.take_of_length_le]
  rw [List.length_drop]; omega
theorem extract_take (s : ByteArray) (k : Nat) : (s.extract 0 k).data.toList = s.data.toList.take k := by
  rw [ByteArray.data_extract, Array.toList_extract, List.extract_eq_take_drop]
  simp
theorem numread_any (s : ByteArray) (hs : s.size ≤ 1000000) (w : World) :
    Calls Tryz.prog 199 #[.agg #[], .string s] w fun e w' => e = .returned (tellV 2 (numTk s.data.toList)) ∧ Below w.heap.size w w' := by
  obtain ⟨l, hl⟩ : ∃ l, s.data.toList = l := ⟨_, rfl⟩
  have hlen := len_z s
  rw [hl] at hlen
  obtain ⟨sg, hsg⟩ : ∃ sg : List UInt8, (if below l then ([45] : List UInt8) else []) = sg := ⟨_, rfl⟩
  have hsb := sign_body l
  rw [hsg] at hsb
  have hbs := body_sign l
  rw [hsg] at hbs
  obtain ⟨d, hd⟩ : ∃ d, (body l).takeWhile isDig = d := ⟨_, rfl⟩
  rw [hd] at hbs
  have hwd := while_drop isDig (body l)
  rw [hd] at hwd
  have hdl : d.length ≤ (body l).length := by rw [← hd]; exact while_le _ _
  have htk : (body l).take d.length = d := by
    have := List.takeWhile_append_dropWhile (p := isDig) (l := body l)
    rw [hd] at this
    rw [← this, List.take_left]
  have hsl : sg.length + (body l).length = l.length := by rw [← List.length_append, hsb]
  have hdrop : l.drop sg.length = body l := by
    conv => lhs; rw [← hsb]
    exact List.drop_left
  have htake : l.take (sg.length + d.length) = sg ++ d := by
    conv => lhs; rw [← hsb]
    rw [List.take_length_add_append, htk]
  have hdrop2 : l.drop (sg.length + d.length) = (body l).dropWhile isDig := by rw [hwd.1, ← hdrop, List.drop_drop]
  have ex : (s.extract 0 (sg.length + d.length)).data.toList = sg ++ d := by rw [extract_take, hl, htake]
  rw [hl]
  refine num_path s ⟨(body l).toArray⟩ ⟨d.toArray⟩ sg.length (sg.length + d.length) (okDigits d) (if h : sg.length + d.length < s.size then Lib.indexByte (⟨#[95, 97, 98, 99, 100, 101, 102, 103, 104, 105, 106, 107, 108, 109, 110, 111, 112, 113, 114, 115, 116, 117, 118, 119, 120, 121, 122, 65, 66, 67, 68, 69, 70, 71, 72, 73, 74, 75, 76, 77, 78, 79, 80, 81, 82, 83, 84, 85, 86, 87, 88, 89, 90, 46]⟩ : ByteArray).data.toList s[sg.length + d.length] else 0) (numTk l) hs ?_ ?_ ?_ ?_ ?_ ?_ ?_ ?_ ?_ ?_ ?_ w
  · show (body l).toArray.size ≤ 1000000; rw [List.size_toArray]; omega
  · show (s.size : Int) - ((body l).toArray.size : Int) = _; rw [List.size_toArray]; omega
  · omega
  · show (sg.length : Int) + (d.toArray.size : Int) = _; rw [List.size_toArray]; omega
  · omega
  · refine Lib.hid fun w => ?_
    have := Tryz.strings_TrimPrefix s ⟨#[45]⟩ w
    rw [show (⟨#[45]⟩ : ByteArray).data.toList = [45] from rfl, trimPrefix_dash, hl] at this
    exact this.mono fun e w' ⟨h1, h2⟩ => ⟨h1, h2.symm⟩
  · refine Lib.hid fun w => ?_
    have := front_any (s.extract sg.length s.size) ⟨#[48, 49, 50, 51, 52, 53, 54, 55, 56, 57]⟩ (by
      have e := len_z (s.extract sg.length s.size)
      rw [extract_drop, List.length_drop, hl] at e; omega) w
    rw [extract_drop, hl, hdrop] at this
    have hfr : fr (⟨#[48, 49, 50, 51, 52, 53, 54, 55, 56, 57]⟩ : ByteArray).data.toList (body l) = d := by
      rw [← hd]
      unfold fr
      rw [show (((⟨#[48, 49, 50, 51, 52, 53, 54, 55, 56, 57]⟩ : ByteArray).data.toList).contains ·) = isDig from funext dig_ms]
    rw [hfr] at this
    exact this
  · refine Lib.hid fun w => ?_
    have := lnumber_any (s.extract 0 (sg.length + d.length)) (by
      have e := len_z (s.extract 0 (sg.length + d.length))
      rw [ex, List.length_append] at e; omega) w
    rw [ex, hbs] at this
    exact this
  · intro h
    refine Lib.hid fun w => ?_
    rw [dif_pos h]
    have := Tryz.strings_IndexByte ⟨#[95, 97, 98, 99, 100, 101, 102, 103, 104, 105, 106, 107, 108, 109, 110, 111, 112, 113, 114, 115, 116, 117, 118, 119, 120, 121, 122, 65, 66, 67, 68, 69, 70, 71, 72, 73, 74, 75, 76, 77, 78, 79, 80, 81, 82, 83, 84, 85, 86, 87, 88, 89, 90, 46]⟩ (s[sg.length + d.length].toNat : Int) w
    rw [show ((s[sg.length + d.length].toNat : Int)).toNat.toUInt8 = s[sg.length + d.length] by simp] at this
    exact this.mono fun e w' ⟨h1, h2⟩ => ⟨h1, h2.symm⟩
  · refine Lib.hid ?_
    rw [ex]
    unfold numTk
    simp only
    rw [hd, hsg, ← hdrop2]
    by_cases h : sg.length + d.length < s.size
    · rw [dif_pos h]
      have hc := drop_at s _ h
      rw [hl] at hc
      have hnd : isDig s[sg.length + d.length] = false := hwd.2 _ (by rw [← hdrop2, hc]; rfl)
      have hib := dot_ib s[sg.length + d.length]
      rw [hc]
      simp only [List.head?_cons, Option.map_some, Option.getD_some]
      cases okDigits d with
      | false => simp
      | true =>
        rcases Bool.eq_false_or_eq_true (nameC s[sg.length + d.length] || s[sg.length + d.length] == 46) with hq | hq
        · have := hib.2 ⟨hnd, hq⟩
          rw [if_neg (fun hh => hh.2 ⟨h, this⟩)]
          exact if_neg (show ¬ (true && !(nameC s[sg.length + d.length] || s[sg.length + d.length] == 46)) = true from by rw [hq]; decide)
        · have : ¬ 0 ≤ Lib.indexByte (⟨#[95, 97, 98, 99, 100, 101, 102, 103, 104, 105, 106, 107, 108, 109, 110, 111, 112, 113, 114, 115, 116, 117, 118, 119, 120, 121, 122, 65, 66, 67, 68, 69, 70, 71, 72, 73, 74, 75, 76, 77, 78, 79, 80, 81, 82, 83, 84, 85, 86, 87, 88, 89, 90, 46]⟩ : ByteArray).data.toList s[sg.length + d.length] := fun hh => by have := (hib.1 hh).2; rw [hq] at this; cases this
          rw [if_pos ⟨rfl, fun hh => this hh.2⟩]
          exact if_pos (show (true && !(nameC s[sg.length + d.length] || s[sg.length + d.length] == 46)) = true from by rw [hq]; decide)
    · rw [dif_neg h, List.drop_eq_nil_of_le (by omega)]
      cases okDigits d with
      | false => simp
      | true => rw [if_pos (by simp), if_pos ⟨rfl, fun hh => h hh.1⟩]
  · rw [ex, List.length_append]
end Go.Proofs.YtgaknbnhmoddcaaGreatDoor
