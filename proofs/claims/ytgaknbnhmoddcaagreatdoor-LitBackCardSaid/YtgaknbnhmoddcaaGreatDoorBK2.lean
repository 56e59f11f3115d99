/- Walks and plain laws of this proof, joined from smaller texts (2). -/
import Derived.Maps.RangeWalk
import Derived.Carry
import Derived.Tactics
import Derived.Tactics2
import Derived.Defers
import Derived.Recover
import Derived.Laws.Pointers
import Derived.Test.YtgaknbnhmoddcaaGreatDoorShelf
import Derived.Laws.RangeAny
import Derived.Laws.Cover4
import Derived.Laws.RangeString
import Derived.Deep.QuietTactic
import Derived.BigQuiet
import Derived.Test.YtgaknbnhmoddcaaGreatDoorBK1
set_option linter.unusedSimpArgs false
set_option linter.unusedVariables false
namespace Go.Proofs.YtgaknbnhmoddcaaGreatDoor
open Go.RowKit Go.Lib
theorem mrk_one {T : List Tok} {k : Nat} {s : List UInt8} (h : mrkP T k s = true) : (lookP T k).kind = 4 ∧ (lookP T k).text = s := by
  unfold mrkP at h
  simpa using h
theorem mrk_ne {T : List Tok} {k : Nat} {s u : List UInt8} (h : mrkP T k s = true) (hne : s ≠ u) : mrkP T k u = false := by
  unfold mrkP
  rw [(mrk_one h).2, beq_eq_false_iff_ne.2 hne, Bool.and_false]
set_option maxRecDepth 100000 in
set_option maxHeartbeats 4000000 in
theorem l_value_full_list {p tb off cap : Nat} {T : List Tok} {fx : Bool} {k : Nat} {op : Int} (v : Value) (L : List Cel) (name : ByteArray) (W : World) (h : LS p tb off cap T fx k op v W) (hown : OwnC (p + 1) v L W) (hL : L.length ≤ 2048) (hk : k ≤ 100000) (hf : L.length = 2048) (mm : mrkP T k [91] = true) :
    Calls Tryz.prog 91 #[.pointer (some ⟨p, 0, none⟩), .string name] W (LVE p tb off cap T fx W v op (.error (4, k))) := by
  have HV0 : Hid (LV p tb off cap T fx W v v L k op W) := Lib.hid ⟨h, hown, VK.refl _ _ _, fun k hk => Or.inl hk⟩
  have HLK := Lib.hid (fun (W : World) (hW : LS p tb off cap T fx k op v W) => l_look W hW)
  have HIS := Lib.hid (fun (s : ByteArray) (W : World) (hW : LS p tb off cap T fx k op v W) => l_is s W hW)
  have HNO := Lib.hid (fun (e : Int) (W : World) (hW : LS p tb off cap T fx k op v W) => l_no e W hW)
  have hw1 : IntKind.i64.wrap ((k : Int) + 1) = (k : Int) + 1 := IntWalk.i64_in _ (by omega)
  have hvl : ∃ a n c, v = .slice a n c ∧ n = L.length := by
    rcases HV0.out.own.2 with ⟨h1, h2⟩ | ⟨g, cap, cur, h1, _⟩
    · exact ⟨none, 0, 0, h1, h2.symm⟩
    · exact ⟨_, _, _, h1, rfl⟩
  obtain ⟨av, nv, cv, rfl, hnv⟩ := hvl
  have HNV := Lib.hid hnv
  have hnv8 : nv ≤ 2048 := by omega
  clear h hown
  have tf : ((nv : Int) == 2048) = true := by rw [beq_iff_eq]; omega
  have hkk := (mrk_one mm).1
  have m91 : mrkP T k [91] = true := mm
  have m123 : mrkP T k [123] = false := mrk_ne mm (by decide)
  have m36 : mrkP T k [36] = false := mrk_ne mm (by decide)
  have H91 : Hid (∀ W', LS p tb off cap T fx k op (.slice av nv cv) W' → Calls Tryz.prog 82 #[.pointer (some ⟨p, 0, none⟩), .int .u8 4, .string ⟨#[91]⟩] W' fun x w' => x = .returned (.bool true) ∧ Below W'.heap.size W' w') := Lib.hid fun W' hW => by
    have := HIS.out ⟨#[91]⟩ W' hW
    rw [show (⟨#[91]⟩ : ByteArray).data.toList = [91] from rfl, m91] at this; exact this
  have H123 : Hid (∀ W', LS p tb off cap T fx k op (.slice av nv cv) W' → Calls Tryz.prog 82 #[.pointer (some ⟨p, 0, none⟩), .int .u8 4, .string ⟨#[123]⟩] W' fun x w' => x = .returned (.bool false) ∧ Below W'.heap.size W' w') := Lib.hid fun W' hW => by
    have := HIS.out ⟨#[123]⟩ W' hW
    rw [show (⟨#[123]⟩ : ByteArray).data.toList = [123] from rfl, m123] at this; exact this
  have H36 : Hid (∀ W', LS p tb off cap T fx k op (.slice av nv cv) W' → Calls Tryz.prog 82 #[.pointer (some ⟨p, 0, none⟩), .int .u8 4, .string ⟨#[36]⟩] W' fun x w' => x = .returned (.bool false) ∧ Below W'.heap.size W' w') := Lib.hid fun W' hW => by
    have := HIS.out ⟨#[36]⟩ W' hW
    rw [show (⟨#[36]⟩ : ByteArray).data.toList = [36] from rfl, m36] at this; exact this
  obtain ⟨kd, hkd⟩ : ∃ kd : Int, ((lookP T k).kind.toNat : Int) = kd := ⟨_, rfl⟩
  obtain ⟨tb0, htb0⟩ : ∃ b : ByteArray, (⟨(lookP T k).text.toArray⟩ : ByteArray) = b := ⟨_, rfl⟩
  obtain ⟨ps, hps⟩ : ∃ ps : Int, (lookP T k).pos = ps := ⟨_, rfl⟩
  have HTX : Hid (tb0.data.toList = (lookP T k).text) := Lib.hid (by rw [← htb0])
  have HTB := Lib.hid htb0
  unfold tokW at HLK
  rw [hkd, htb0, hps] at HLK
  have hkd2 : kd = 4 := by rw [← hkd, hkk]; rfl
  subst hkd2
  clear hkd htb0 hps hkk hnv mm m91 m123 m36
  cases fx
  case' true =>
    go_enter Tryz.func91, Tryz.ntmps91
    go_wp2_with fail
    refine (HLK.out _ HV0.out.st).mono ?_; rintro x w1 ⟨rfl, hb⟩
    have HV1 := Lib.hid ((HV0.out.below hb).alloc (.cells #[.int .u8 4, .string tb0, .int .i64 ps] 72 (0, 0)))
    have HA1 : Hid ((w1.alloc (.cells #[.int .u8 4, .string tb0, .int .i64 ps] 72 (0, 0))).heap[w1.heap.size]? = some (.cells #[.int .u8 4, .string tb0, .int .i64 ps] 72 (0, 0))) := Lib.hid (heap_alloc_last _ _)
    obtain ⟨A, hA⟩ : ∃ A, w1.heap.size = A := ⟨_, rfl⟩
    rw [hA] at HA1
    have HAZ := Lib.hid hA
    clear hb
    go_wp2_with fail
    refine (H91.out _ HV1.out.st).mono ?_; rintro x w3 ⟨rfl, hb⟩
    have HV3 := Lib.hid (HV1.out.below hb)
    have HA3 := Lib.hid ((hb.block A (heap_lt HA1.out)).trans HA1.out)
    clear hb
  case' false =>
    go_enter Tryz.func91, Tryz.ntmps91
    go_wp2_with fail
    refine (HLK.out _ HV0.out.st).mono ?_; rintro x w1 ⟨rfl, hb⟩
    have HV1 := Lib.hid ((HV0.out.below hb).alloc (.cells #[.int .u8 4, .string tb0, .int .i64 ps] 72 (0, 0)))
    have HA1 : Hid ((w1.alloc (.cells #[.int .u8 4, .string tb0, .int .i64 ps] 72 (0, 0))).heap[w1.heap.size]? = some (.cells #[.int .u8 4, .string tb0, .int .i64 ps] 72 (0, 0))) := Lib.hid (heap_alloc_last _ _)
    obtain ⟨A, hA⟩ : ∃ A, w1.heap.size = A := ⟨_, rfl⟩
    rw [hA] at HA1
    have HAZ := Lib.hid hA
    clear hb
    go_wp2_with fail
    refine (H91.out _ HV1.out.st).mono ?_; rintro x w2 ⟨rfl, hb⟩
    have HV2 := Lib.hid (HV1.out.below hb)
    have HA2 := Lib.hid ((hb.block A (heap_lt HA1.out)).trans HA1.out)
    clear hb
    obtain ⟨c0, c1, c2, c3, c4⟩ := HV2.out.st.cells
    go_wp2_with fail
    refine (H36.out _ HV2.out.st).mono ?_; rintro x w3 ⟨rfl, hb⟩
    have HV3 := Lib.hid (HV2.out.below hb)
    have HA3 := Lib.hid ((hb.block A (heap_lt HA2.out)).trans HA2.out)
    clear hb
    clear c0 c1 c2 c3 c4
  all_goals
    obtain ⟨c0, c1, c2, c3, c4⟩ := HV3.out.st.cells
    obtain ⟨a0, a1, a2⟩ := tcells HA3.out
    have hA3 : A < w3.heap.size := heap_lt HA3.out
    have hp3 : p < w3.heap.size := HV3.out.st.lt
    go_wp2_with fail
    have hpy : p ≤ w3.heap.size := Nat.le_of_lt hp3
    refine (HNO.out _ _ HV3.out.st).mono ?_; rintro x y4 ⟨rfl, hb⟩
    have HB9 := Lib.hid (HV3.out.vk.1.trans (hb.mono hpy))
    clear hb
    go_wp2_with fail
    exact ⟨rfl, rfl, HB9.out⟩
set_option maxRecDepth 100000 in
set_option maxHeartbeats 4000000 in
theorem l_value_full_obj {p tb off cap : Nat} {T : List Tok} {fx : Bool} {k : Nat} {op : Int} (v : Value) (L : List Cel) (name : ByteArray) (W : World) (h : LS p tb off cap T fx k op v W) (hown : OwnC (p + 1) v L W) (hL : L.length ≤ 2048) (hk : k ≤ 100000) (hf : L.length = 2048) (mm : mrkP T k [123] = true) :
    Calls Tryz.prog 91 #[.pointer (some ⟨p, 0, none⟩), .string name] W (LVE p tb off cap T fx W v op (.error (4, k))) := by
  have HV0 : Hid (LV p tb off cap T fx W v v L k op W) := Lib.hid ⟨h, hown, VK.refl _ _ _, fun k hk => Or.inl hk⟩
  have HLK := Lib.hid (fun (W : World) (hW : LS p tb off cap T fx k op v W) => l_look W hW)
  have HIS := Lib.hid (fun (s : ByteArray) (W : World) (hW : LS p tb off cap T fx k op v W) => l_is s W hW)
  have HNO := Lib.hid (fun (e : Int) (W : World) (hW : LS p tb off cap T fx k op v W) => l_no e W hW)
  have hw1 : IntKind.i64.wrap ((k : Int) + 1) = (k : Int) + 1 := IntWalk.i64_in _ (by omega)
  have hvl : ∃ a n c, v = .slice a n c ∧ n = L.length := by
    rcases HV0.out.own.2 with ⟨h1, h2⟩ | ⟨g, cap, cur, h1, _⟩
    · exact ⟨none, 0, 0, h1, h2.symm⟩
    · exact ⟨_, _, _, h1, rfl⟩
  obtain ⟨av, nv, cv, rfl, hnv⟩ := hvl
  have HNV := Lib.hid hnv
  have hnv8 : nv ≤ 2048 := by omega
  clear h hown
  have tf : ((nv : Int) == 2048) = true := by rw [beq_iff_eq]; omega
  have hkk := (mrk_one mm).1
  have m91 : mrkP T k [91] = false := mrk_ne mm (by decide)
  have m123 : mrkP T k [123] = true := mm
  have m36 : mrkP T k [36] = false := mrk_ne mm (by decide)
  have H91 : Hid (∀ W', LS p tb off cap T fx k op (.slice av nv cv) W' → Calls Tryz.prog 82 #[.pointer (some ⟨p, 0, none⟩), .int .u8 4, .string ⟨#[91]⟩] W' fun x w' => x = .returned (.bool false) ∧ Below W'.heap.size W' w') := Lib.hid fun W' hW => by
    have := HIS.out ⟨#[91]⟩ W' hW
    rw [show (⟨#[91]⟩ : ByteArray).data.toList = [91] from rfl, m91] at this; exact this
  have H123 : Hid (∀ W', LS p tb off cap T fx k op (.slice av nv cv) W' → Calls Tryz.prog 82 #[.pointer (some ⟨p, 0, none⟩), .int .u8 4, .string ⟨#[123]⟩] W' fun x w' => x = .returned (.bool true) ∧ Below W'.heap.size W' w') := Lib.hid fun W' hW => by
    have := HIS.out ⟨#[123]⟩ W' hW
    rw [show (⟨#[123]⟩ : ByteArray).data.toList = [123] from rfl, m123] at this; exact this
  have H36 : Hid (∀ W', LS p tb off cap T fx k op (.slice av nv cv) W' → Calls Tryz.prog 82 #[.pointer (some ⟨p, 0, none⟩), .int .u8 4, .string ⟨#[36]⟩] W' fun x w' => x = .returned (.bool false) ∧ Below W'.heap.size W' w') := Lib.hid fun W' hW => by
    have := HIS.out ⟨#[36]⟩ W' hW
    rw [show (⟨#[36]⟩ : ByteArray).data.toList = [36] from rfl, m36] at this; exact this
  obtain ⟨kd, hkd⟩ : ∃ kd : Int, ((lookP T k).kind.toNat : Int) = kd := ⟨_, rfl⟩
  obtain ⟨tb0, htb0⟩ : ∃ b : ByteArray, (⟨(lookP T k).text.toArray⟩ : ByteArray) = b := ⟨_, rfl⟩
  obtain ⟨ps, hps⟩ : ∃ ps : Int, (lookP T k).pos = ps := ⟨_, rfl⟩
  have HTX : Hid (tb0.data.toList = (lookP T k).text) := Lib.hid (by rw [← htb0])
  have HTB := Lib.hid htb0
  unfold tokW at HLK
  rw [hkd, htb0, hps] at HLK
  have hkd2 : kd = 4 := by rw [← hkd, hkk]; rfl
  subst hkd2
  clear hkd htb0 hps hkk hnv mm m91 m123 m36
  cases fx
  case' true =>
    go_enter Tryz.func91, Tryz.ntmps91
    go_wp2_with fail
    refine (HLK.out _ HV0.out.st).mono ?_; rintro x w1 ⟨rfl, hb⟩
    have HV1 := Lib.hid ((HV0.out.below hb).alloc (.cells #[.int .u8 4, .string tb0, .int .i64 ps] 72 (0, 0)))
    have HA1 : Hid ((w1.alloc (.cells #[.int .u8 4, .string tb0, .int .i64 ps] 72 (0, 0))).heap[w1.heap.size]? = some (.cells #[.int .u8 4, .string tb0, .int .i64 ps] 72 (0, 0))) := Lib.hid (heap_alloc_last _ _)
    obtain ⟨A, hA⟩ : ∃ A, w1.heap.size = A := ⟨_, rfl⟩
    rw [hA] at HA1
    have HAZ := Lib.hid hA
    clear hb
    go_wp2_with fail
    refine (H91.out _ HV1.out.st).mono ?_; rintro x w2 ⟨rfl, hb⟩
    have HV2 := Lib.hid (HV1.out.below hb)
    have HA2 := Lib.hid ((hb.block A (heap_lt HA1.out)).trans HA1.out)
    clear hb
    go_wp2_with fail
    refine (H123.out _ HV2.out.st).mono ?_; rintro x w4 ⟨rfl, hb⟩
    have HV4 := Lib.hid (HV2.out.below hb)
    have HA4 := Lib.hid ((hb.block A (heap_lt HA2.out)).trans HA2.out)
    clear hb
  case' false =>
    go_enter Tryz.func91, Tryz.ntmps91
    go_wp2_with fail
    refine (HLK.out _ HV0.out.st).mono ?_; rintro x w1 ⟨rfl, hb⟩
    have HV1 := Lib.hid ((HV0.out.below hb).alloc (.cells #[.int .u8 4, .string tb0, .int .i64 ps] 72 (0, 0)))
    have HA1 : Hid ((w1.alloc (.cells #[.int .u8 4, .string tb0, .int .i64 ps] 72 (0, 0))).heap[w1.heap.size]? = some (.cells #[.int .u8 4, .string tb0, .int .i64 ps] 72 (0, 0))) := Lib.hid (heap_alloc_last _ _)
    obtain ⟨A, hA⟩ : ∃ A, w1.heap.size = A := ⟨_, rfl⟩
    rw [hA] at HA1
    have HAZ := Lib.hid hA
    clear hb
    go_wp2_with fail
    refine (H91.out _ HV1.out.st).mono ?_; rintro x w2 ⟨rfl, hb⟩
    have HV2 := Lib.hid (HV1.out.below hb)
    have HA2 := Lib.hid ((hb.block A (heap_lt HA1.out)).trans HA1.out)
    clear hb
    go_wp2_with fail
    refine (H123.out _ HV2.out.st).mono ?_; rintro x w3 ⟨rfl, hb⟩
    have HV3 := Lib.hid (HV2.out.below hb)
    have HA3 := Lib.hid ((hb.block A (heap_lt HA2.out)).trans HA2.out)
    clear hb
    obtain ⟨c0, c1, c2, c3, c4⟩ := HV3.out.st.cells
    go_wp2_with fail
    refine (H36.out _ HV3.out.st).mono ?_; rintro x w4 ⟨rfl, hb⟩
    have HV4 := Lib.hid (HV3.out.below hb)
    have HA4 := Lib.hid ((hb.block A (heap_lt HA3.out)).trans HA3.out)
    clear hb
    clear c0 c1 c2 c3 c4
  all_goals
    obtain ⟨c0, c1, c2, c3, c4⟩ := HV4.out.st.cells
    obtain ⟨a0, a1, a2⟩ := tcells HA4.out
    have hA4 : A < w4.heap.size := heap_lt HA4.out
    have hp4 : p < w4.heap.size := HV4.out.st.lt
    go_wp2_with fail
    have hpy : p ≤ w4.heap.size := Nat.le_of_lt hp4
    refine (HNO.out _ _ HV4.out.st).mono ?_; rintro x y4 ⟨rfl, hb⟩
    have HB9 := Lib.hid (HV4.out.vk.1.trans (hb.mono hpy))
    clear hb
    go_wp2_with fail
    exact ⟨rfl, rfl, HB9.out⟩
set_option maxRecDepth 100000 in
set_option maxHeartbeats 4000000 in
theorem l_value_full_var {p tb off cap : Nat} {T : List Tok} {fx : Bool} {k : Nat} {op : Int} (v : Value) (L : List Cel) (name : ByteArray) (W : World) (h : LS p tb off cap T fx k op v W) (hown : OwnC (p + 1) v L W) (hL : L.length ≤ 2048) (hk : k ≤ 100000) (hf : L.length = 2048) (hfx : fx = false) (mm : mrkP T k [36] = true) :
    Calls Tryz.prog 91 #[.pointer (some ⟨p, 0, none⟩), .string name] W (LVE p tb off cap T fx W v op (.error (4, k))) := by
  have HV0 : Hid (LV p tb off cap T fx W v v L k op W) := Lib.hid ⟨h, hown, VK.refl _ _ _, fun k hk => Or.inl hk⟩
  have HLK := Lib.hid (fun (W : World) (hW : LS p tb off cap T fx k op v W) => l_look W hW)
  have HIS := Lib.hid (fun (s : ByteArray) (W : World) (hW : LS p tb off cap T fx k op v W) => l_is s W hW)
  have HNO := Lib.hid (fun (e : Int) (W : World) (hW : LS p tb off cap T fx k op v W) => l_no e W hW)
  have hw1 : IntKind.i64.wrap ((k : Int) + 1) = (k : Int) + 1 := IntWalk.i64_in _ (by omega)
  have hvl : ∃ a n c, v = .slice a n c ∧ n = L.length := by
    rcases HV0.out.own.2 with ⟨h1, h2⟩ | ⟨g, cap, cur, h1, _⟩
    · exact ⟨none, 0, 0, h1, h2.symm⟩
    · exact ⟨_, _, _, h1, rfl⟩
  obtain ⟨av, nv, cv, rfl, hnv⟩ := hvl
  have HNV := Lib.hid hnv
  have hnv8 : nv ≤ 2048 := by omega
  clear h hown
  subst hfx
  have tf : ((nv : Int) == 2048) = true := by rw [beq_iff_eq]; omega
  have hkk := (mrk_one mm).1
  have m91 : mrkP T k [91] = false := mrk_ne mm (by decide)
  have m123 : mrkP T k [123] = false := mrk_ne mm (by decide)
  have m36 : mrkP T k [36] = true := mm
  have H91 : Hid (∀ W', LS p tb off cap T false k op (.slice av nv cv) W' → Calls Tryz.prog 82 #[.pointer (some ⟨p, 0, none⟩), .int .u8 4, .string ⟨#[91]⟩] W' fun x w' => x = .returned (.bool false) ∧ Below W'.heap.size W' w') := Lib.hid fun W' hW => by
    have := HIS.out ⟨#[91]⟩ W' hW
    rw [show (⟨#[91]⟩ : ByteArray).data.toList = [91] from rfl, m91] at this; exact this
  have H123 : Hid (∀ W', LS p tb off cap T false k op (.slice av nv cv) W' → Calls Tryz.prog 82 #[.pointer (some ⟨p, 0, none⟩), .int .u8 4, .string ⟨#[123]⟩] W' fun x w' => x = .returned (.bool false) ∧ Below W'.heap.size W' w') := Lib.hid fun W' hW => by
    have := HIS.out ⟨#[123]⟩ W' hW
    rw [show (⟨#[123]⟩ : ByteArray).data.toList = [123] from rfl, m123] at this; exact this
  have H36 : Hid (∀ W', LS p tb off cap T false k op (.slice av nv cv) W' → Calls Tryz.prog 82 #[.pointer (some ⟨p, 0, none⟩), .int .u8 4, .string ⟨#[36]⟩] W' fun x w' => x = .returned (.bool true) ∧ Below W'.heap.size W' w') := Lib.hid fun W' hW => by
    have := HIS.out ⟨#[36]⟩ W' hW
    rw [show (⟨#[36]⟩ : ByteArray).data.toList = [36] from rfl, m36] at this; exact this
  obtain ⟨kd, hkd⟩ : ∃ kd : Int, ((lookP T k).kind.toNat : Int) = kd := ⟨_, rfl⟩
  obtain ⟨tb0, htb0⟩ : ∃ b : ByteArray, (⟨(lookP T k).text.toArray⟩ : ByteArray) = b := ⟨_, rfl⟩
  obtain ⟨ps, hps⟩ : ∃ ps : Int, (lookP T k).pos = ps := ⟨_, rfl⟩
  have HTX : Hid (tb0.data.toList = (lookP T k).text) := Lib.hid (by rw [← htb0])
  have HTB := Lib.hid htb0
  unfold tokW at HLK
  rw [hkd, htb0, hps] at HLK
  have hkd2 : kd = 4 := by rw [← hkd, hkk]; rfl
  subst hkd2
  clear hkd htb0 hps hkk hnv mm m91 m123 m36
  go_enter Tryz.func91, Tryz.ntmps91
  go_wp2_with fail
  refine (HLK.out _ HV0.out.st).mono ?_; rintro x w1 ⟨rfl, hb⟩
  have HV1 := Lib.hid ((HV0.out.below hb).alloc (.cells #[.int .u8 4, .string tb0, .int .i64 ps] 72 (0, 0)))
  have HA1 : Hid ((w1.alloc (.cells #[.int .u8 4, .string tb0, .int .i64 ps] 72 (0, 0))).heap[w1.heap.size]? = some (.cells #[.int .u8 4, .string tb0, .int .i64 ps] 72 (0, 0))) := Lib.hid (heap_alloc_last _ _)
  obtain ⟨A, hA⟩ : ∃ A, w1.heap.size = A := ⟨_, rfl⟩
  rw [hA] at HA1
  have HAZ := Lib.hid hA
  clear hb
  go_wp2_with fail
  refine (H91.out _ HV1.out.st).mono ?_; rintro x w2 ⟨rfl, hb⟩
  have HV2 := Lib.hid (HV1.out.below hb)
  have HA2 := Lib.hid ((hb.block A (heap_lt HA1.out)).trans HA1.out)
  clear hb
  go_wp2_with fail
  refine (H123.out _ HV2.out.st).mono ?_; rintro x w3 ⟨rfl, hb⟩
  have HV3 := Lib.hid (HV2.out.below hb)
  have HA3 := Lib.hid ((hb.block A (heap_lt HA2.out)).trans HA2.out)
  clear hb
  obtain ⟨c0, c1, c2, c3, c4⟩ := HV3.out.st.cells
  go_wp2_with fail
  refine (H36.out _ HV3.out.st).mono ?_; rintro x w4 ⟨rfl, hb⟩
  have HV4 := Lib.hid (HV3.out.below hb)
  have HA4 := Lib.hid ((hb.block A (heap_lt HA3.out)).trans HA3.out)
  clear hb
  clear c0 c1 c2 c3 c4
  obtain ⟨c0, c1, c2, c3, c4⟩ := HV4.out.st.cells
  obtain ⟨a0, a1, a2⟩ := tcells HA4.out
  have hA4 : A < w4.heap.size := heap_lt HA4.out
  have hp4 : p < w4.heap.size := HV4.out.st.lt
  go_wp2_with fail
  have hpy : p ≤ w4.heap.size := Nat.le_of_lt hp4
  refine (HNO.out _ _ HV4.out.st).mono ?_; rintro x y4 ⟨rfl, hb⟩
  have HB9 := Lib.hid (HV4.out.vk.1.trans (hb.mono hpy))
  clear hb
  go_wp2_with fail
  exact ⟨rfl, rfl, HB9.out⟩
end Go.Proofs.YtgaknbnhmoddcaaGreatDoor
namespace Go.Proofs.YtgaknbnhmoddcaaGreatDoor
open Go.RowKit Go.Lib
set_option maxRecDepth 100000 in
set_option maxHeartbeats 4000000 in
theorem l_value_var_no {p tb off cap : Nat} {T : List Tok} {fx : Bool} {k : Nat} {op : Int} (v : Value) (L : List Cel) (name : ByteArray) (W : World) (h : LS p tb off cap T fx k op v W) (hown : OwnC (p + 1) v L W) (hL : L.length ≤ 2048) (hk : k ≤ 100000) (hf : L.length ≠ 2048) (hfx : fx = false) (mm : mrkP T k [36] = true) (e : ErrP) (hnm : namP [] T (k + 1) = .error e) :
    Calls Tryz.prog 91 #[.pointer (some ⟨p, 0, none⟩), .string name] W (LVE p tb off cap T fx W v op (.error e)) := by
  have HV0 : Hid (LV p tb off cap T fx W v v L k op W) := Lib.hid ⟨h, hown, VK.refl _ _ _, fun k hk => Or.inl hk⟩
  have HLK := Lib.hid (fun (W : World) (hW : LS p tb off cap T fx k op v W) => l_look W hW)
  have HIS := Lib.hid (fun (s : ByteArray) (W : World) (hW : LS p tb off cap T fx k op v W) => l_is s W hW)
  have HNO := Lib.hid (fun (e : Int) (W : World) (hW : LS p tb off cap T fx k op v W) => l_no e W hW)
  have hw1 : IntKind.i64.wrap ((k : Int) + 1) = (k : Int) + 1 := IntWalk.i64_in _ (by omega)
  have hvl : ∃ a n c, v = .slice a n c ∧ n = L.length := by
    rcases HV0.out.own.2 with ⟨h1, h2⟩ | ⟨g, cap, cur, h1, _⟩
    · exact ⟨none, 0, 0, h1, h2.symm⟩
    · exact ⟨_, _, _, h1, rfl⟩
  obtain ⟨av, nv, cv, rfl, hnv⟩ := hvl
  have HNV := Lib.hid hnv
  have hnv8 : nv ≤ 2048 := by omega
  clear h hown
  subst hfx
  have hL2 : nv ≤ 2047 := by omega
  have tf : ((nv : Int) == 2048) = false := by rw [beq_eq_false_iff_ne]; omega
  have hkT : k < T.length := by
    rcases Nat.lt_or_ge k T.length with h | h
    · exact h
    · have := (mrk_one mm).1
      rw [lookP_out (by omega)] at this; cases this
  have hk9 : k + 1 ≤ 100000 := by have := HV0.out.st.2.2.2.1.1; omega
  have HNM : Hid (∀ W', LS p tb off cap T false (k + 1) op (.slice av nv cv) W' → Calls Tryz.prog 86 #[.pointer (some ⟨p, 0, none⟩), .map none] W' fun x w' => x = .panicked (stopP e) ∧ Below p W' w') := Lib.hid fun W' hW => by
    have := l_name0 W' hW hk9
    rw [hnm] at this; exact this
  clear hkT hnm
  have hkk := (mrk_one mm).1
  have m91 : mrkP T k [91] = false := mrk_ne mm (by decide)
  have m123 : mrkP T k [123] = false := mrk_ne mm (by decide)
  have m36 : mrkP T k [36] = true := mm
  have H91 : Hid (∀ W', LS p tb off cap T false k op (.slice av nv cv) W' → Calls Tryz.prog 82 #[.pointer (some ⟨p, 0, none⟩), .int .u8 4, .string ⟨#[91]⟩] W' fun x w' => x = .returned (.bool false) ∧ Below W'.heap.size W' w') := Lib.hid fun W' hW => by
    have := HIS.out ⟨#[91]⟩ W' hW
    rw [show (⟨#[91]⟩ : ByteArray).data.toList = [91] from rfl, m91] at this; exact this
  have H123 : Hid (∀ W', LS p tb off cap T false k op (.slice av nv cv) W' → Calls Tryz.prog 82 #[.pointer (some ⟨p, 0, none⟩), .int .u8 4, .string ⟨#[123]⟩] W' fun x w' => x = .returned (.bool false) ∧ Below W'.heap.size W' w') := Lib.hid fun W' hW => by
    have := HIS.out ⟨#[123]⟩ W' hW
    rw [show (⟨#[123]⟩ : ByteArray).data.toList = [123] from rfl, m123] at this; exact this
  have H36 : Hid (∀ W', LS p tb off cap T false k op (.slice av nv cv) W' → Calls Tryz.prog 82 #[.pointer (some ⟨p, 0, none⟩), .int .u8 4, .string ⟨#[36]⟩] W' fun x w' => x = .returned (.bool true) ∧ Below W'.heap.size W' w') := Lib.hid fun W' hW => by
    have := HIS.out ⟨#[36]⟩ W' hW
    rw [show (⟨#[36]⟩ : ByteArray).data.toList = [36] from rfl, m36] at this; exact this
  obtain ⟨kd, hkd⟩ : ∃ kd : Int, ((lookP T k).kind.toNat : Int) = kd := ⟨_, rfl⟩
  obtain ⟨tb0, htb0⟩ : ∃ b : ByteArray, (⟨(lookP T k).text.toArray⟩ : ByteArray) = b := ⟨_, rfl⟩
  obtain ⟨ps, hps⟩ : ∃ ps : Int, (lookP T k).pos = ps := ⟨_, rfl⟩
  have HTX : Hid (tb0.data.toList = (lookP T k).text) := Lib.hid (by rw [← htb0])
  have HTB := Lib.hid htb0
  unfold tokW at HLK
  rw [hkd, htb0, hps] at HLK
  have hkd2 : kd = 4 := by rw [← hkd, hkk]; rfl
  subst hkd2
  clear hkd htb0 hps hkk hnv mm m91 m123 m36
  go_enter Tryz.func91, Tryz.ntmps91
  go_wp2_with fail
  refine (HLK.out _ HV0.out.st).mono ?_; rintro x w1 ⟨rfl, hb⟩
  have HV1 := Lib.hid ((HV0.out.below hb).alloc (.cells #[.int .u8 4, .string tb0, .int .i64 ps] 72 (0, 0)))
  have HA1 : Hid ((w1.alloc (.cells #[.int .u8 4, .string tb0, .int .i64 ps] 72 (0, 0))).heap[w1.heap.size]? = some (.cells #[.int .u8 4, .string tb0, .int .i64 ps] 72 (0, 0))) := Lib.hid (heap_alloc_last _ _)
  obtain ⟨A, hA⟩ : ∃ A, w1.heap.size = A := ⟨_, rfl⟩
  rw [hA] at HA1
  have HAZ := Lib.hid hA
  clear hb
  go_wp2_with fail
  refine (H91.out _ HV1.out.st).mono ?_; rintro x w2 ⟨rfl, hb⟩
  have HV2 := Lib.hid (HV1.out.below hb)
  have HA2 := Lib.hid ((hb.block A (heap_lt HA1.out)).trans HA1.out)
  clear hb
  go_wp2_with fail
  refine (H123.out _ HV2.out.st).mono ?_; rintro x w3 ⟨rfl, hb⟩
  have HV3 := Lib.hid (HV2.out.below hb)
  have HA3 := Lib.hid ((hb.block A (heap_lt HA2.out)).trans HA2.out)
  clear hb
  obtain ⟨c0, c1, c2, c3, c4⟩ := HV3.out.st.cells
  go_wp2_with fail
  refine (H36.out _ HV3.out.st).mono ?_; rintro x w4 ⟨rfl, hb⟩
  have HV4 := Lib.hid (HV3.out.below hb)
  have HA4 := Lib.hid ((hb.block A (heap_lt HA3.out)).trans HA3.out)
  clear hb
  clear c0 c1 c2 c3 c4
  obtain ⟨c0, c1, c2, c3, c4⟩ := HV4.out.st.cells
  obtain ⟨a0, a1, a2⟩ := tcells HA4.out
  have hA4 : A < w4.heap.size := heap_lt HA4.out
  have hp4 : p < w4.heap.size := HV4.out.st.lt
  have f1 := HV4.out.st.frozen 1
  go_wp2_with fail
  have HV8 := Lib.hid ((HV4.out.go (k + 1) (by omega)).alloc (.cells #[.int .u8 5, .string name, .string ⟨#[]⟩, .int .i64 0, .int .i64 0] 63 (0, 0)))
  refine (HNM.out _ HV8.out.st).mono ?_; rintro x y4 ⟨rfl, hb⟩
  have HB9 := Lib.hid (HV8.out.vk.1.trans hb)
  clear hb
  go_wp2_with fail
  exact ⟨rfl, rfl, HB9.out⟩
end Go.Proofs.YtgaknbnhmoddcaaGreatDoor
namespace Go.Proofs.YtgaknbnhmoddcaaGreatDoor
open Go.RowKit Go.Lib
theorem LV.other {p tb off cap : Nat} {T : List Tok} {fx : Bool} {w : World} {v0 v : Value} {out : List Cel} {k : Nat} {op : Int} {W : World} (h : LV p tb off cap T fx w v0 v out k op W) (C i : Nat) (u : Value) (hC : w.heap.size ≤ C) (hp : p < C) (hv : v.ownBlock ≠ some C) : LV p tb off cap T fx w v0 v out k op (W.setCell ⟨C, i, none⟩ u) := by
  have htb := h.st.2.2.1
  refine ⟨h.st.same ?_ ?_, h.own.mk (m := C) ⟨(Below.refl p W).setCell (p := ⟨C, i, none⟩) (Nat.le_of_lt hp) u, fun k o hk h1 h2 => ?_⟩ (Nat.lt_succ_self p) hv, ⟨h.vk.1.setCell (p := ⟨C, i, none⟩) (Nat.le_of_lt hp) u, fun k o hk h1 h2 => ?_⟩, h.ob⟩
  · exact Below.heap_setCell _ _ _ _ (by show p ≠ C; omega)
  · exact Below.heap_setCell _ _ _ _ (by show tb ≠ C; omega)
  · rw [Below.heap_setCell _ _ _ _ (by show k ≠ C; exact h2)]; exact hk
  · rw [Below.heap_setCell _ _ _ _ (by show k ≠ C; have := heap_lt hk; omega)]; exact h.vk.2 k o hk h1 h2
set_option maxRecDepth 100000 in
set_option maxHeartbeats 4000000 in
theorem l_value_int {p tb off cap : Nat} {T : List Tok} {fx : Bool} {k : Nat} {op : Int} (v : Value) (L : List Cel) (name : ByteArray) (W : World) (h : LS p tb off cap T fx k op v W) (hown : OwnC (p + 1) v L W) (hL : L.length ≤ 2048) (hk : k ≤ 100000) (hE : ∀ W', Below p W W' → Env W') (hf : L.length ≠ 2048) (hkk : (lookP T k).kind = 2) (hre : rdE (lookP T k).text = 0) :
    Calls Tryz.prog 91 #[.pointer (some ⟨p, 0, none⟩), .string name] W (LVE p tb off cap T fx W v op (.ok (k + 1, L ++ [⟨2, name.data.toList, [], rdV (lookP T k).text, 0⟩]))) := by
  have HV0 : Hid (LV p tb off cap T fx W v v L k op W) := Lib.hid ⟨h, hown, VK.refl _ _ _, fun k hk => Or.inl hk⟩
  have HLK := Lib.hid (fun (W : World) (hW : LS p tb off cap T fx k op v W) => l_look W hW)
  have HIS := Lib.hid (fun (s : ByteArray) (W : World) (hW : LS p tb off cap T fx k op v W) => l_is s W hW)
  have HNO := Lib.hid (fun (e : Int) (W : World) (hW : LS p tb off cap T fx k op v W) => l_no e W hW)
  have hw1 : IntKind.i64.wrap ((k : Int) + 1) = (k : Int) + 1 := IntWalk.i64_in _ (by omega)
  have hvl : ∃ a n c, v = .slice a n c ∧ n = L.length := by
    rcases HV0.out.own.2 with ⟨h1, h2⟩ | ⟨g, cap, cur, h1, _⟩
    · exact ⟨none, 0, 0, h1, h2.symm⟩
    · exact ⟨_, _, _, h1, rfl⟩
  obtain ⟨av, nv, cv, rfl, hnv⟩ := hvl
  have HNV := Lib.hid hnv
  have hnv8 : nv ≤ 2048 := by omega
  clear h hown
  have hz := lookP_small (HV0.out.st.2.2.2.1.2) k
  have HEE := Lib.hid hE
  clear hE
  have hL2 : nv ≤ 2047 := by omega
  have tf : ((nv : Int) == 2048) = false := by rw [beq_eq_false_iff_ne]; omega
  have hno := mrk_no (T := T) (k := k) (by rw [hkk]; decide)
  simp only [hno] at HIS
  obtain ⟨kd, hkd⟩ : ∃ kd : Int, ((lookP T k).kind.toNat : Int) = kd := ⟨_, rfl⟩
  obtain ⟨tb0, htb0⟩ : ∃ b : ByteArray, (⟨(lookP T k).text.toArray⟩ : ByteArray) = b := ⟨_, rfl⟩
  obtain ⟨ps, hps⟩ : ∃ ps : Int, (lookP T k).pos = ps := ⟨_, rfl⟩
  have HTX : Hid (tb0.data.toList = (lookP T k).text) := Lib.hid (by rw [← htb0])
  have HTB := Lib.hid htb0
  unfold tokW at HLK
  rw [hkd, htb0, hps] at HLK
  have hkd2 : kd = 2 := by rw [← hkd, hkk]; rfl
  subst hkd2
  clear hkd htb0 hps hkk hno hnv
  obtain ⟨nn, hnn⟩ : ∃ n : Int, rdV (lookP T k).text = n := ⟨_, rfl⟩
  obtain ⟨ee, hee⟩ : ∃ e : Int, rdE (lookP T k).text = e := ⟨_, rfl⟩
  have HRD : Hid (∀ W', Env W' → Calls Tryz.prog 111 #[.string tb0] W' fun x w' => x = .returned (.tuple #[.int .i64 nn, .int .i64 ee]) ∧ Below W'.heap.size W' w') := Lib.hid fun W' he => by
    have := read_any tb0 (by rw [← bsz, HTX.out]; omega) W' he
    rw [HTX.out, hnn, hee] at this; exact this
  rw [hee] at hre
  clear hz hee
  subst hre
  rw [hnn]
  clear hnn
  cases fx
  case' true =>
    go_enter Tryz.func91, Tryz.ntmps91
    go_wp2_with fail
    refine (HLK.out _ HV0.out.st).mono ?_; rintro x w1 ⟨rfl, hb⟩
    have HV1 := Lib.hid ((HV0.out.below hb).alloc (.cells #[.int .u8 2, .string tb0, .int .i64 ps] 72 (0, 0)))
    have HA1 : Hid ((w1.alloc (.cells #[.int .u8 2, .string tb0, .int .i64 ps] 72 (0, 0))).heap[w1.heap.size]? = some (.cells #[.int .u8 2, .string tb0, .int .i64 ps] 72 (0, 0))) := Lib.hid (heap_alloc_last _ _)
    obtain ⟨A, hA⟩ : ∃ A, w1.heap.size = A := ⟨_, rfl⟩
    rw [hA] at HA1
    have HAZ := Lib.hid hA
    clear hb
    go_wp2_with fail
    refine (HIS.out _ _ HV1.out.st).mono ?_; rintro x w2 ⟨rfl, hb⟩
    have HV2 := Lib.hid (HV1.out.below hb)
    have HA2 := Lib.hid ((hb.block A (heap_lt HA1.out)).trans HA1.out)
    clear hb
    go_wp2_with fail
    refine (HIS.out _ _ HV2.out.st).mono ?_; rintro x w4 ⟨rfl, hb⟩
    have HV4 := Lib.hid (HV2.out.below hb)
    have HA4 := Lib.hid ((hb.block A (heap_lt HA2.out)).trans HA2.out)
    clear hb
  case' false =>
    go_enter Tryz.func91, Tryz.ntmps91
    go_wp2_with fail
    refine (HLK.out _ HV0.out.st).mono ?_; rintro x w1 ⟨rfl, hb⟩
    have HV1 := Lib.hid ((HV0.out.below hb).alloc (.cells #[.int .u8 2, .string tb0, .int .i64 ps] 72 (0, 0)))
    have HA1 : Hid ((w1.alloc (.cells #[.int .u8 2, .string tb0, .int .i64 ps] 72 (0, 0))).heap[w1.heap.size]? = some (.cells #[.int .u8 2, .string tb0, .int .i64 ps] 72 (0, 0))) := Lib.hid (heap_alloc_last _ _)
    obtain ⟨A, hA⟩ : ∃ A, w1.heap.size = A := ⟨_, rfl⟩
    rw [hA] at HA1
    have HAZ := Lib.hid hA
    clear hb
    go_wp2_with fail
    refine (HIS.out _ _ HV1.out.st).mono ?_; rintro x w2 ⟨rfl, hb⟩
    have HV2 := Lib.hid (HV1.out.below hb)
    have HA2 := Lib.hid ((hb.block A (heap_lt HA1.out)).trans HA1.out)
    clear hb
    go_wp2_with fail
    refine (HIS.out _ _ HV2.out.st).mono ?_; rintro x w3 ⟨rfl, hb⟩
    have HV3 := Lib.hid (HV2.out.below hb)
    have HA3 := Lib.hid ((hb.block A (heap_lt HA2.out)).trans HA2.out)
    clear hb
    obtain ⟨c0, c1, c2, c3, c4⟩ := HV3.out.st.cells
    go_wp2_with fail
    refine (HIS.out _ _ HV3.out.st).mono ?_; rintro x w4 ⟨rfl, hb⟩
    have HV4 := Lib.hid (HV3.out.below hb)
    have HA4 := Lib.hid ((hb.block A (heap_lt HA3.out)).trans HA3.out)
    clear hb
    clear c0 c1 c2 c3 c4
  all_goals
    obtain ⟨c0, c1, c2, c3, c4⟩ := HV4.out.st.cells
    obtain ⟨a0, a1, a2⟩ := tcells HA4.out
    have hA4 : A < w4.heap.size := heap_lt HA4.out
    have hp4 : p < w4.heap.size := HV4.out.st.lt
    go_wp2_with fail
    obtain ⟨C, hC⟩ : ∃ C, w4.heap.size = C := ⟨_, rfl⟩
    have HVc := Lib.hid (HV4.out.alloc (.cells #[.int .u8 0, .string name, .string ⟨#[]⟩, .int .i64 0, .int .i64 0] 63 (0, 0)))
    have HCc : Hid ((w4.alloc (.cells #[.int .u8 0, .string name, .string ⟨#[]⟩, .int .i64 0, .int .i64 0] 63 (0, 0))).heap[C]? = some (.cells #[.int .u8 0, .string name, .string ⟨#[]⟩, .int .i64 0, .int .i64 0] 63 (0, 0))) := Lib.hid (by rw [← hC]; exact heap_alloc_last _ _)
    have hov : (Value.slice av nv cv).ownBlock ≠ some C := fun e => by have := (World.ownsRow.lt HV4.out.own C e).2; omega
    have hpC : p < C := by rw [← hC]; exact hp4
    have hWC : W.heap.size ≤ C := by rw [← hC]; exact HV4.out.size
    refine (HRD.out _ (HEE.out _ HVc.out.vk.1)).mono ?_; rintro x y3 ⟨rfl, hb⟩
    have HV9 := Lib.hid (HVc.out.below hb)
    have HC9 := Lib.hid ((hb.block C (heap_lt HCc.out)).trans HCc.out)
    rw [hC]
    clear hb c0 c1 c2 c3 c4 a0 a1 a2 hA4 hp4
    have hcn : C ≠ p := by omega
    obtain ⟨c0, c1, c2, c3, c4⟩ := HV9.out.st.cells
    obtain ⟨q0, q1, q2, q3, q4⟩ := ccells HC9.out
    have f1 := HV9.out.st.frozen 1
    have g0 := Lib.frozen_of_heap HC9.out 0
    have g3 := Lib.frozen_of_heap HC9.out 3
    obtain ⟨y5, hy5⟩ : ∃ y5, ((y3.setCell ⟨C, 0, none⟩ (.int .u8 2)).setCell ⟨C, 3, none⟩ (.int .i64 nn)).setCell ⟨p, 1, none⟩ (.int .i64 ((k : Int) + 1)) = y5 := ⟨_, rfl⟩
    have HY5 := Lib.hid (((HV9.out.other C 0 (.int .u8 2) hWC hpC hov).other C 3 (.int .i64 nn) hWC hpC hov).go (k + 1) (by omega))
    have HC5 : Hid (y5.heap[C]? = some (.cells #[.int .u8 2, .string name, .string ⟨#[]⟩, .int .i64 nn, .int .i64 0] 63 (0, 0))) := Lib.hid (by rw [← hy5, Below.heap_setCell _ _ _ _ (by show C ≠ p; omega)]; exact pset (pset HC9.out _ rfl) _ rfl)
    rw [show ((y3.setCell ⟨C, 0, none⟩ (.int .u8 2)).setCell ⟨C, 3, none⟩ (.int .i64 nn)).setCell ⟨p, 1, none⟩ (.int .i64 ((k + 1 : Nat) : Int)) = y5 from hy5] at HY5
    have HW5 := Lib.hid hy5
    clear hy5 hC
    go_wp2_with fail
    try rw [HW5.out]
    clear c0 c1 c2 c3 c4 f1 q0 q1 q2 q3 q4 g0 g3
    have hlt5 := HY5.out.st.lt
    have hC5 := heap_lt HC5.out
    obtain ⟨_, _, _, _, c4⟩ := HY5.out.st.cells
    have e4 : y5.drew.cell? ⟨p, 4, none⟩ = some (.slice av nv cv) := c4
    have e4' : ∀ o, (y5.drew.alloc o).cell? ⟨p, 4, none⟩ = some (.slice av nv cv) := fun o => by
      rw [World.cell?_alloc_lt _ _ _ (by exact hlt5)]; exact c4
    obtain ⟨q0, q1, q2, q3, q4⟩ := ccells (W := y5.drew) HC5.out
    have HCEL : Hid (celCells ⟨2, name.data.toList, [], nn, 0⟩ = #[.int .u8 2, .string name, .string ⟨#[]⟩, .int .i64 nn, .int .i64 0]) := Lib.hid (by rfl)
    refine wp_region_held_drew (S := fun _ => True) (by kernel_rfl) trivial (fun hHeld => ?_)
    refine tky 0 (some 160) (v := ?_) rfl (by kernel_rfl) (by kernel_rfl) (by kernel_rfl) (fun _ _ _ h => h) ?_ hHeld ?_
    rotate_left
    focus (intro w hSw; go_simp; (try with_reducible rfl); done)
    go_frame
    refine tky 1 (some 161) (v := ?_) rfl (by kernel_rfl) (by kernel_rfl) (by kernel_rfl) (fun _ _ _ h => h) ?_ hHeld ?_
    rotate_left
    focus (intro w hSw; go_simp; (try with_reducible rfl); done)
    go_frame
    refine tky 2 (some 162) (v := ?_) rfl (by kernel_rfl) (by kernel_rfl) (by kernel_rfl) (fun _ _ _ h => h) ?_ hHeld ?_
    rotate_left
    focus (intro w hSw; go_simp; (try with_reducible rfl); done)
    go_frame
    refine tky 3 (some 163) (v := ?_) rfl (by kernel_rfl) (by kernel_rfl) (by kernel_rfl) (fun _ _ _ h => h) ?_ hHeld ?_
    rotate_left
    focus (intro w hSw; go_simp; (try with_reducible rfl); done)
    go_frame
    refine wpAnyH_ready (rs := [4, 5]) (by kernel_rfl) (by simp) ?_
    refine acons 4 rfl (fun K hK => ?_) ?_
    go_simp
    refine hK.out _ _ trivial (fun _ => ?_)
    clear hK K
    (try go_frame)
    refine rcons 5 rfl (by kernel_rfl) (fun K hK => ?_)
    go_simp
    refine hK.out _ _ trivial (fun _ => ?_)
    clear hK K
    (try go_frame)
    refine rcons 6 rfl (by kernel_rfl) (fun K hK => ?_)
    go_simp
    refine hK.out _ _ trivial (fun _ => ?_)
    clear hK K
    (try go_frame)
    rotate_left
    refine acons 5 rfl (fun K hK => ?_) ?_
    go_simp
    refine hK.out _ _ trivial (fun _ => ?_)
    clear hK K
    (try go_frame)
    refine wpAnyH_ready (rs := [4, 6]) (by kernel_rfl) (by simp) ?_
    refine acons 4 rfl (fun K hK => ?_) ?_
    go_simp
    refine hK.out _ _ trivial (fun _ => ?_)
    clear hK K
    (try go_frame)
    refine rcons 6 rfl (by kernel_rfl) (fun K hK => ?_)
    go_simp
    refine hK.out _ _ trivial (fun _ => ?_)
    clear hK K
    (try go_frame)
    rotate_left
    refine acons 6 rfl (fun K hK => ?_) ?_
    go_simp
    refine hK.out _ _ trivial (fun _ => ?_)
    clear hK K
    (try go_frame)
    refine rcons 4 rfl (by kernel_rfl) (fun K hK => ?_)
    go_simp
    refine hK.out _ _ trivial (fun _ => ?_)
    clear hK K
    (try go_frame)
    rotate_left
    exact AllReadyH.nil
    exact AllReadyH.nil
    all_goals
      refine rcons 7 rfl (by kernel_rfl) (fun K hK => ?_)
      rw [if_pos]
      rotate_left
      focus kernel_rfl
      refine wp_pushL _ _ rfl (p + 1) (.slice av nv cv) L rfl (by exact ((HY5.out.drewN 1).alloc _).own) y5.heap.size 1 ⟨2, name.data.toList, [], nn, 0⟩ rfl (by rw [HCEL.out]; exact heap_alloc_last y5.drew _) (by omega) (by show _ ≤ Array.size _; simp; omega) ?_
      intro v' y6 hown' hgrow hat
      obtain ⟨g6, cap6, hvg, -⟩ := hown'.form L.length (by simp)
      generalize (L ++ [(⟨2, name.data.toList, [], nn, 0⟩ : Cel)]).length = n6 at hvg
      subst hvg
      obtain ⟨hst6, hy6⟩ := LV.grown ((HY5.out.drewN 1).alloc _) hown' hgrow hat rfl
      have HY6 := Lib.hid hy6
      obtain ⟨_, _, _, _, g4⟩ := hst6.cells
      have f6 := hst6.frozen 4
      clear hown' hgrow hat hst6 hy6
      (try dsimp only)
      refine hK.out _ _ trivial (fun _ => ?_)
      clear hK K
      (try go_frame)
      refine tky 8 (some 168) (v := ?_) rfl (by kernel_rfl) (by kernel_rfl) (by kernel_rfl) (fun _ _ _ h => h) ?_ hHeld ?_
      rotate_left
      focus (intro w hSw; go_simp; (try with_reducible rfl); done)
      go_frame
      refine tky 9 (some 169) (v := ?_) rfl (by kernel_rfl) (by kernel_rfl) (by kernel_rfl) (fun _ _ _ h => h) ?_ hHeld ?_
      rotate_left
      focus (intro w hSw; go_simp; (try with_reducible rfl); done)
      go_frame
      refine rcons 10 rfl (by kernel_rfl) (fun K hK => ?_)
      go_simp
      refine hK.out _ _ trivial (fun _ => ?_)
      clear hK K
      (try go_frame)
      refine wpAnyH_done (by kernel_rfl) ?_ _
      go_wp2_with fail
      go_end0
      exact ⟨rfl, by simp; omega, _, HY6.out⟩
set_option maxRecDepth 100000 in
set_option maxHeartbeats 4000000 in
theorem l_value_int_no {p tb off cap : Nat} {T : List Tok} {fx : Bool} {k : Nat} {op : Int} (v : Value) (L : List Cel) (name : ByteArray) (W : World) (h : LS p tb off cap T fx k op v W) (hown : OwnC (p + 1) v L W) (hL : L.length ≤ 2048) (hk : k ≤ 100000) (hE : ∀ W', Below p W W' → Env W') (hf : L.length ≠ 2048) (hkk : (lookP T k).kind = 2) (hre : rdE (lookP T k).text ≠ 0) :
    Calls Tryz.prog 91 #[.pointer (some ⟨p, 0, none⟩), .string name] W (LVE p tb off cap T fx W v op (.error (41, k))) := by
  have HV0 : Hid (LV p tb off cap T fx W v v L k op W) := Lib.hid ⟨h, hown, VK.refl _ _ _, fun k hk => Or.inl hk⟩
  have HLK := Lib.hid (fun (W : World) (hW : LS p tb off cap T fx k op v W) => l_look W hW)
  have HIS := Lib.hid (fun (s : ByteArray) (W : World) (hW : LS p tb off cap T fx k op v W) => l_is s W hW)
  have HNO := Lib.hid (fun (e : Int) (W : World) (hW : LS p tb off cap T fx k op v W) => l_no e W hW)
  have hw1 : IntKind.i64.wrap ((k : Int) + 1) = (k : Int) + 1 := IntWalk.i64_in _ (by omega)
  have hvl : ∃ a n c, v = .slice a n c ∧ n = L.length := by
    rcases HV0.out.own.2 with ⟨h1, h2⟩ | ⟨g, cap, cur, h1, _⟩
    · exact ⟨none, 0, 0, h1, h2.symm⟩
    · exact ⟨_, _, _, h1, rfl⟩
  obtain ⟨av, nv, cv, rfl, hnv⟩ := hvl
  have HNV := Lib.hid hnv
  have hnv8 : nv ≤ 2048 := by omega
  clear h hown
  have hz := lookP_small (HV0.out.st.2.2.2.1.2) k
  have HEE := Lib.hid hE
  clear hE
  have hL2 : nv ≤ 2047 := by omega
  have tf : ((nv : Int) == 2048) = false := by rw [beq_eq_false_iff_ne]; omega
  have hno := mrk_no (T := T) (k := k) (by rw [hkk]; decide)
  simp only [hno] at HIS
  obtain ⟨kd, hkd⟩ : ∃ kd : Int, ((lookP T k).kind.toNat : Int) = kd := ⟨_, rfl⟩
  obtain ⟨tb0, htb0⟩ : ∃ b : ByteArray, (⟨(lookP T k).text.toArray⟩ : ByteArray) = b := ⟨_, rfl⟩
  obtain ⟨ps, hps⟩ : ∃ ps : Int, (lookP T k).pos = ps := ⟨_, rfl⟩
  have HTX : Hid (tb0.data.toList = (lookP T k).text) := Lib.hid (by rw [← htb0])
  have HTB := Lib.hid htb0
  unfold tokW at HLK
  rw [hkd, htb0, hps] at HLK
  have hkd2 : kd = 2 := by rw [← hkd, hkk]; rfl
  subst hkd2
  clear hkd htb0 hps hkk hno hnv
  obtain ⟨nn, hnn⟩ : ∃ n : Int, rdV (lookP T k).text = n := ⟨_, rfl⟩
  obtain ⟨ee, hee⟩ : ∃ e : Int, rdE (lookP T k).text = e := ⟨_, rfl⟩
  have HRD : Hid (∀ W', Env W' → Calls Tryz.prog 111 #[.string tb0] W' fun x w' => x = .returned (.tuple #[.int .i64 nn, .int .i64 ee]) ∧ Below W'.heap.size W' w') := Lib.hid fun W' he => by
    have := read_any tb0 (by rw [← bsz, HTX.out]; omega) W' he
    rw [HTX.out, hnn, hee] at this; exact this
  rw [hee] at hre
  clear hz hee
  have te : (ee == 0) = false := by rw [beq_eq_false_iff_ne]; exact hre
  clear hnn
  cases fx
  case' true =>
    go_enter Tryz.func91, Tryz.ntmps91
    go_wp2_with fail
    refine (HLK.out _ HV0.out.st).mono ?_; rintro x w1 ⟨rfl, hb⟩
    have HV1 := Lib.hid ((HV0.out.below hb).alloc (.cells #[.int .u8 2, .string tb0, .int .i64 ps] 72 (0, 0)))
    have HA1 : Hid ((w1.alloc (.cells #[.int .u8 2, .string tb0, .int .i64 ps] 72 (0, 0))).heap[w1.heap.size]? = some (.cells #[.int .u8 2, .string tb0, .int .i64 ps] 72 (0, 0))) := Lib.hid (heap_alloc_last _ _)
    obtain ⟨A, hA⟩ : ∃ A, w1.heap.size = A := ⟨_, rfl⟩
    rw [hA] at HA1
    have HAZ := Lib.hid hA
    clear hb
    go_wp2_with fail
    refine (HIS.out _ _ HV1.out.st).mono ?_; rintro x w2 ⟨rfl, hb⟩
    have HV2 := Lib.hid (HV1.out.below hb)
    have HA2 := Lib.hid ((hb.block A (heap_lt HA1.out)).trans HA1.out)
    clear hb
    go_wp2_with fail
    refine (HIS.out _ _ HV2.out.st).mono ?_; rintro x w4 ⟨rfl, hb⟩
    have HV4 := Lib.hid (HV2.out.below hb)
    have HA4 := Lib.hid ((hb.block A (heap_lt HA2.out)).trans HA2.out)
    clear hb
  case' false =>
    go_enter Tryz.func91, Tryz.ntmps91
    go_wp2_with fail
    refine (HLK.out _ HV0.out.st).mono ?_; rintro x w1 ⟨rfl, hb⟩
    have HV1 := Lib.hid ((HV0.out.below hb).alloc (.cells #[.int .u8 2, .string tb0, .int .i64 ps] 72 (0, 0)))
    have HA1 : Hid ((w1.alloc (.cells #[.int .u8 2, .string tb0, .int .i64 ps] 72 (0, 0))).heap[w1.heap.size]? = some (.cells #[.int .u8 2, .string tb0, .int .i64 ps] 72 (0, 0))) := Lib.hid (heap_alloc_last _ _)
    obtain ⟨A, hA⟩ : ∃ A, w1.heap.size = A := ⟨_, rfl⟩
    rw [hA] at HA1
    have HAZ := Lib.hid hA
    clear hb
    go_wp2_with fail
    refine (HIS.out _ _ HV1.out.st).mono ?_; rintro x w2 ⟨rfl, hb⟩
    have HV2 := Lib.hid (HV1.out.below hb)
    have HA2 := Lib.hid ((hb.block A (heap_lt HA1.out)).trans HA1.out)
    clear hb
    go_wp2_with fail
    refine (HIS.out _ _ HV2.out.st).mono ?_; rintro x w3 ⟨rfl, hb⟩
    have HV3 := Lib.hid (HV2.out.below hb)
    have HA3 := Lib.hid ((hb.block A (heap_lt HA2.out)).trans HA2.out)
    clear hb
    obtain ⟨c0, c1, c2, c3, c4⟩ := HV3.out.st.cells
    go_wp2_with fail
    refine (HIS.out _ _ HV3.out.st).mono ?_; rintro x w4 ⟨rfl, hb⟩
    have HV4 := Lib.hid (HV3.out.below hb)
    have HA4 := Lib.hid ((hb.block A (heap_lt HA3.out)).trans HA3.out)
    clear hb
    clear c0 c1 c2 c3 c4
  all_goals
    obtain ⟨c0, c1, c2, c3, c4⟩ := HV4.out.st.cells
    obtain ⟨a0, a1, a2⟩ := tcells HA4.out
    have hA4 : A < w4.heap.size := heap_lt HA4.out
    have hp4 : p < w4.heap.size := HV4.out.st.lt
    go_wp2_with fail
    obtain ⟨C, hC⟩ : ∃ C, w4.heap.size = C := ⟨_, rfl⟩
    have HVc := Lib.hid (HV4.out.alloc (.cells #[.int .u8 0, .string name, .string ⟨#[]⟩, .int .i64 0, .int .i64 0] 63 (0, 0)))
    have HCc : Hid ((w4.alloc (.cells #[.int .u8 0, .string name, .string ⟨#[]⟩, .int .i64 0, .int .i64 0] 63 (0, 0))).heap[C]? = some (.cells #[.int .u8 0, .string name, .string ⟨#[]⟩, .int .i64 0, .int .i64 0] 63 (0, 0))) := Lib.hid (by rw [← hC]; exact heap_alloc_last _ _)
    have hov : (Value.slice av nv cv).ownBlock ≠ some C := fun e => by have := (World.ownsRow.lt HV4.out.own C e).2; omega
    have hpC : p < C := by rw [← hC]; exact hp4
    have hWC : W.heap.size ≤ C := by rw [← hC]; exact HV4.out.size
    refine (HRD.out _ (HEE.out _ HVc.out.vk.1)).mono ?_; rintro x y3 ⟨rfl, hb⟩
    have HV9 := Lib.hid (HVc.out.below hb)
    have HC9 := Lib.hid ((hb.block C (heap_lt HCc.out)).trans HCc.out)
    rw [hC]
    clear hb c0 c1 c2 c3 c4 a0 a1 a2 hA4 hp4
    have hpy : p ≤ y3.heap.size := Nat.le_of_lt HV9.out.st.lt
    go_wp2_with fail
    refine (HNO.out _ _ HV9.out.st).mono ?_; rintro x y4 ⟨rfl, hb⟩
    have HB9 := Lib.hid (HV9.out.vk.1.trans (hb.mono hpy))
    clear hb
    go_wp2_with fail
    exact ⟨rfl, rfl, HB9.out⟩
end Go.Proofs.YtgaknbnhmoddcaaGreatDoor
namespace Go.Proofs.YtgaknbnhmoddcaaGreatDoor
open Go.RowKit Go.Lib
set_option maxRecDepth 100000 in
set_option maxHeartbeats 4000000 in
theorem l_value_var {p tb off cap : Nat} {T : List Tok} {fx : Bool} {k : Nat} {op : Int} (v : Value) (L : List Cel) (name : ByteArray) (W : World) (h : LS p tb off cap T fx k op v W) (hown : OwnC (p + 1) v L W) (hL : L.length ≤ 2048) (hk : k ≤ 100000) (hf : L.length ≠ 2048) (hfx : fx = false) (mm : mrkP T k [36] = true) (sn : List UInt8) (hnm : namP [] T (k + 1) = .ok sn) :
    Calls Tryz.prog 91 #[.pointer (some ⟨p, 0, none⟩), .string name] W (LVE p tb off cap T fx W v op (.ok (k + 2, L ++ [⟨5, name.data.toList, sn, 0, 0⟩]))) := by
  have HV0 : Hid (LV p tb off cap T fx W v v L k op W) := Lib.hid ⟨h, hown, VK.refl _ _ _, fun k hk => Or.inl hk⟩
  have HLK := Lib.hid (fun (W : World) (hW : LS p tb off cap T fx k op v W) => l_look W hW)
  have HIS := Lib.hid (fun (s : ByteArray) (W : World) (hW : LS p tb off cap T fx k op v W) => l_is s W hW)
  have HNO := Lib.hid (fun (e : Int) (W : World) (hW : LS p tb off cap T fx k op v W) => l_no e W hW)
  have hw1 : IntKind.i64.wrap ((k : Int) + 1) = (k : Int) + 1 := IntWalk.i64_in _ (by omega)
  have hvl : ∃ a n c, v = .slice a n c ∧ n = L.length := by
    rcases HV0.out.own.2 with ⟨h1, h2⟩ | ⟨g, cap, cur, h1, _⟩
    · exact ⟨none, 0, 0, h1, h2.symm⟩
    · exact ⟨_, _, _, h1, rfl⟩
  obtain ⟨av, nv, cv, rfl, hnv⟩ := hvl
  have HNV := Lib.hid hnv
  have hnv8 : nv ≤ 2048 := by omega
  clear h hown
  subst hfx
  have hL2 : nv ≤ 2047 := by omega
  have tf : ((nv : Int) == 2048) = false := by rw [beq_eq_false_iff_ne]; omega
  have hkT : k < T.length := by
    rcases Nat.lt_or_ge k T.length with h | h
    · exact h
    · have := (mrk_one mm).1
      rw [lookP_out (by omega)] at this; cases this
  have hk9 : k + 1 ≤ 100000 := by have := HV0.out.st.2.2.2.1.1; omega
  obtain ⟨sb, hsb⟩ : ∃ b : ByteArray, (⟨sn.toArray⟩ : ByteArray) = b := ⟨_, rfl⟩
  have HSB := Lib.hid hsb
  have HNM : Hid (∀ W', LS p tb off cap T false (k + 1) op (.slice av nv cv) W' → Calls Tryz.prog 86 #[.pointer (some ⟨p, 0, none⟩), .map none] W' fun x w' => x = .returned (.string sb) ∧ LS p tb off cap T false (k + 2) op (.slice av nv cv) w' ∧ RK p W' w') := Lib.hid fun W' hW => by
    have := l_name0 W' hW hk9
    rw [hnm] at this
    simp only [naV, hsb] at this
    exact this
  clear hkT hnm hsb
  have hkk := (mrk_one mm).1
  have m91 : mrkP T k [91] = false := mrk_ne mm (by decide)
  have m123 : mrkP T k [123] = false := mrk_ne mm (by decide)
  have m36 : mrkP T k [36] = true := mm
  have H91 : Hid (∀ W', LS p tb off cap T false k op (.slice av nv cv) W' → Calls Tryz.prog 82 #[.pointer (some ⟨p, 0, none⟩), .int .u8 4, .string ⟨#[91]⟩] W' fun x w' => x = .returned (.bool false) ∧ Below W'.heap.size W' w') := Lib.hid fun W' hW => by
    have := HIS.out ⟨#[91]⟩ W' hW
    rw [show (⟨#[91]⟩ : ByteArray).data.toList = [91] from rfl, m91] at this; exact this
  have H123 : Hid (∀ W', LS p tb off cap T false k op (.slice av nv cv) W' → Calls Tryz.prog 82 #[.pointer (some ⟨p, 0, none⟩), .int .u8 4, .string ⟨#[123]⟩] W' fun x w' => x = .returned (.bool false) ∧ Below W'.heap.size W' w') := Lib.hid fun W' hW => by
    have := HIS.out ⟨#[123]⟩ W' hW
    rw [show (⟨#[123]⟩ : ByteArray).data.toList = [123] from rfl, m123] at this; exact this
  have H36 : Hid (∀ W', LS p tb off cap T false k op (.slice av nv cv) W' → Calls Tryz.prog 82 #[.pointer (some ⟨p, 0, none⟩), .int .u8 4, .string ⟨#[36]⟩] W' fun x w' => x = .returned (.bool true) ∧ Below W'.heap.size W' w') := Lib.hid fun W' hW => by
    have := HIS.out ⟨#[36]⟩ W' hW
    rw [show (⟨#[36]⟩ : ByteArray).data.toList = [36] from rfl, m36] at this; exact this
  obtain ⟨kd, hkd⟩ : ∃ kd : Int, ((lookP T k).kind.toNat : Int) = kd := ⟨_, rfl⟩
  obtain ⟨tb0, htb0⟩ : ∃ b : ByteArray, (⟨(lookP T k).text.toArray⟩ : ByteArray) = b := ⟨_, rfl⟩
  obtain ⟨ps, hps⟩ : ∃ ps : Int, (lookP T k).pos = ps := ⟨_, rfl⟩
  have HTX : Hid (tb0.data.toList = (lookP T k).text) := Lib.hid (by rw [← htb0])
  have HTB := Lib.hid htb0
  unfold tokW at HLK
  rw [hkd, htb0, hps] at HLK
  have hkd2 : kd = 4 := by rw [← hkd, hkk]; rfl
  subst hkd2
  clear hkd htb0 hps hkk hnv mm m91 m123 m36
  go_enter Tryz.func91, Tryz.ntmps91
  go_wp2_with fail
  refine (HLK.out _ HV0.out.st).mono ?_; rintro x w1 ⟨rfl, hb⟩
  have HV1 := Lib.hid ((HV0.out.below hb).alloc (.cells #[.int .u8 4, .string tb0, .int .i64 ps] 72 (0, 0)))
  have HA1 : Hid ((w1.alloc (.cells #[.int .u8 4, .string tb0, .int .i64 ps] 72 (0, 0))).heap[w1.heap.size]? = some (.cells #[.int .u8 4, .string tb0, .int .i64 ps] 72 (0, 0))) := Lib.hid (heap_alloc_last _ _)
  obtain ⟨A, hA⟩ : ∃ A, w1.heap.size = A := ⟨_, rfl⟩
  rw [hA] at HA1
  have HAZ := Lib.hid hA
  clear hb
  go_wp2_with fail
  refine (H91.out _ HV1.out.st).mono ?_; rintro x w2 ⟨rfl, hb⟩
  have HV2 := Lib.hid (HV1.out.below hb)
  have HA2 := Lib.hid ((hb.block A (heap_lt HA1.out)).trans HA1.out)
  clear hb
  go_wp2_with fail
  refine (H123.out _ HV2.out.st).mono ?_; rintro x w3 ⟨rfl, hb⟩
  have HV3 := Lib.hid (HV2.out.below hb)
  have HA3 := Lib.hid ((hb.block A (heap_lt HA2.out)).trans HA2.out)
  clear hb
  obtain ⟨c0, c1, c2, c3, c4⟩ := HV3.out.st.cells
  go_wp2_with fail
  refine (H36.out _ HV3.out.st).mono ?_; rintro x w4 ⟨rfl, hb⟩
  have HV4 := Lib.hid (HV3.out.below hb)
  have HA4 := Lib.hid ((hb.block A (heap_lt HA3.out)).trans HA3.out)
  clear hb
  clear c0 c1 c2 c3 c4
  obtain ⟨c0, c1, c2, c3, c4⟩ := HV4.out.st.cells
  obtain ⟨a0, a1, a2⟩ := tcells HA4.out
  have hA4 : A < w4.heap.size := heap_lt HA4.out
  have hp4 : p < w4.heap.size := HV4.out.st.lt
  have f1 := HV4.out.st.frozen 1
  go_wp2_with fail
  obtain ⟨C, hC⟩ : ∃ C, w4.heap.size = C := ⟨_, rfl⟩
  have HV8 := Lib.hid ((HV4.out.go (k + 1) (by omega)).alloc (.cells #[.int .u8 5, .string name, .string ⟨#[]⟩, .int .i64 0, .int .i64 0] 63 (0, 0)))
  have hov : (Value.slice av nv cv).ownBlock ≠ some C := fun e => by have := (World.ownsRow.lt HV4.out.own C e).2; omega
  have hpC : p < C := by rw [← hC]; exact hp4
  have hWC : W.heap.size ≤ C := by rw [← hC]; exact HV4.out.size
  have HC8 : Hid (((w4.setCell ⟨p, 1, none⟩ (.int .i64 ((k + 1 : Nat) : Int))).alloc (.cells #[.int .u8 5, .string name, .string ⟨#[]⟩, .int .i64 0, .int .i64 0] 63 (0, 0))).heap[C]? = some (.cells #[.int .u8 5, .string name, .string ⟨#[]⟩, .int .i64 0, .int .i64 0] 63 (0, 0))) := Lib.hid (by
    have := heap_alloc_last (w4.setCell ⟨p, 1, none⟩ (.int .i64 ((k + 1 : Nat) : Int))) (.cells #[.int .u8 5, .string name, .string ⟨#[]⟩, .int .i64 0, .int .i64 0] 63 (0, 0))
    simp only [World.size_setCell] at this
    rw [← hC]; exact this)
  refine (HNM.out _ HV8.out.st).mono ?_; rintro x y3 ⟨rfl, hl, hk⟩
  have HV9 := Lib.hid (HV8.out.rk hl hk)
  have HC9 := Lib.hid (hk.2 C _ HC8.out (by omega))
  rw [hC]
  clear hl hk c0 c1 c2 c3 c4 a0 a1 a2 hA4 hp4 f1
  have hcn : C ≠ p := by omega
  obtain ⟨c0, c1, c2, c3, c4⟩ := HV9.out.st.cells
  rw [show ((k + 2 : Nat) : Int) = (k : Int) + 2 by omega] at c1
  obtain ⟨q0, q1, q2, q3, q4⟩ := ccells HC9.out
  have f1 := HV9.out.st.frozen 1
  have g2 := Lib.frozen_of_heap HC9.out 2
  have e1 : (k : Int) + 2 - 1 = (k : Int) + 1 := by omega
  have e2 : (k : Int) + 1 + 1 = (k : Int) + 2 := by omega
  have hw2 : IntKind.i64.wrap ((k : Int) + 2) = (k : Int) + 2 := IntWalk.i64_in _ (by omega)
  have hw3 : IntKind.i64.wrap ((k : Int) + 2 - 1) = (k : Int) + 1 := by rw [e1]; exact hw1
  have hw4 : IntKind.i64.wrap ((k : Int) + 1 + 1) = (k : Int) + 2 := by rw [e2]; exact hw2
  clear hC e1 e2
  go_wp2_with fail
  obtain ⟨y5, hy5⟩ : ∃ y5, ((y3.setCell ⟨C, 2, none⟩ (.string sb)).setCell ⟨p, 1, none⟩ (.int .i64 ((k : Int) + 1))).setCell ⟨p, 1, none⟩ (.int .i64 ((k : Int) + 2)) = y5 := ⟨_, rfl⟩
  have HY5 := Lib.hid (((HV9.out.other C 2 (.string sb) hWC hpC hov).go (k + 1) (by omega)).go (k + 2) (by omega))
  have HC5 : Hid (y5.heap[C]? = some (.cells #[.int .u8 5, .string name, .string sb, .int .i64 0, .int .i64 0] 63 (0, 0))) := Lib.hid (by rw [← hy5, Below.heap_setCell _ _ _ _ (by show C ≠ p; omega), Below.heap_setCell _ _ _ _ (by show C ≠ p; omega)]; exact pset HC9.out _ rfl)
  rw [show ((y3.setCell ⟨C, 2, none⟩ (.string sb)).setCell ⟨p, 1, none⟩ (.int .i64 ((k + 1 : Nat) : Int))).setCell ⟨p, 1, none⟩ (.int .i64 ((k + 2 : Nat) : Int)) = y5 from hy5] at HY5
  rw [hy5]
  clear hy5 c0 c1 c2 c3 c4 f1 q0 q1 q2 q3 q4 g2 HTB
  have HTB := HSB
  have hlt5 := HY5.out.st.lt
  have hC5 := heap_lt HC5.out
  obtain ⟨_, _, _, _, c4⟩ := HY5.out.st.cells
  have e4 : y5.drew.cell? ⟨p, 4, none⟩ = some (.slice av nv cv) := c4
  have e4' : ∀ o, (y5.drew.alloc o).cell? ⟨p, 4, none⟩ = some (.slice av nv cv) := fun o => by
    rw [World.cell?_alloc_lt _ _ _ (by exact hlt5)]; exact c4
  obtain ⟨q0, q1, q2, q3, q4⟩ := ccells (W := y5.drew) HC5.out
  have HCEL : Hid (celCells ⟨5, name.data.toList, sn, 0, 0⟩ = #[.int .u8 5, .string name, .string sb, .int .i64 0, .int .i64 0]) := Lib.hid (by rw [← HTB.out]; rfl)
  refine wp_region_held_drew (S := fun _ => True) (by kernel_rfl) trivial (fun hHeld => ?_)
  refine tky 0 (some 160) (v := ?_) rfl (by kernel_rfl) (by kernel_rfl) (by kernel_rfl) (fun _ _ _ h => h) ?_ hHeld ?_
  rotate_left
  focus (intro w hSw; go_simp; (try with_reducible rfl); done)
  go_frame
  refine tky 1 (some 161) (v := ?_) rfl (by kernel_rfl) (by kernel_rfl) (by kernel_rfl) (fun _ _ _ h => h) ?_ hHeld ?_
  rotate_left
  focus (intro w hSw; go_simp; (try with_reducible rfl); done)
  go_frame
  refine tky 2 (some 162) (v := ?_) rfl (by kernel_rfl) (by kernel_rfl) (by kernel_rfl) (fun _ _ _ h => h) ?_ hHeld ?_
  rotate_left
  focus (intro w hSw; go_simp; (try with_reducible rfl); done)
  go_frame
  refine tky 3 (some 163) (v := ?_) rfl (by kernel_rfl) (by kernel_rfl) (by kernel_rfl) (fun _ _ _ h => h) ?_ hHeld ?_
  rotate_left
  focus (intro w hSw; go_simp; (try with_reducible rfl); done)
  go_frame
  refine wpAnyH_ready (rs := [4, 5]) (by kernel_rfl) (by simp) ?_
  refine acons 4 rfl (fun K hK => ?_) ?_
  go_simp
  refine hK.out _ _ trivial (fun _ => ?_)
  clear hK K
  (try go_frame)
  refine rcons 5 rfl (by kernel_rfl) (fun K hK => ?_)
  go_simp
  refine hK.out _ _ trivial (fun _ => ?_)
  clear hK K
  (try go_frame)
  refine rcons 6 rfl (by kernel_rfl) (fun K hK => ?_)
  go_simp
  refine hK.out _ _ trivial (fun _ => ?_)
  clear hK K
  (try go_frame)
  rotate_left
  refine acons 5 rfl (fun K hK => ?_) ?_
  go_simp
  refine hK.out _ _ trivial (fun _ => ?_)
  clear hK K
  (try go_frame)
  refine wpAnyH_ready (rs := [4, 6]) (by kernel_rfl) (by simp) ?_
  refine acons 4 rfl (fun K hK => ?_) ?_
  go_simp
  refine hK.out _ _ trivial (fun _ => ?_)
  clear hK K
  (try go_frame)
  refine rcons 6 rfl (by kernel_rfl) (fun K hK => ?_)
  go_simp
  refine hK.out _ _ trivial (fun _ => ?_)
  clear hK K
  (try go_frame)
  rotate_left
  refine acons 6 rfl (fun K hK => ?_) ?_
  go_simp
  refine hK.out _ _ trivial (fun _ => ?_)
  clear hK K
  (try go_frame)
  refine rcons 4 rfl (by kernel_rfl) (fun K hK => ?_)
  go_simp
  refine hK.out _ _ trivial (fun _ => ?_)
  clear hK K
  (try go_frame)
  rotate_left
  exact AllReadyH.nil
  exact AllReadyH.nil
  all_goals
    refine rcons 7 rfl (by kernel_rfl) (fun K hK => ?_)
    rw [if_pos]
    rotate_left
    focus kernel_rfl
    refine wp_pushL _ _ rfl (p + 1) (.slice av nv cv) L rfl (by exact ((HY5.out.drewN 1).alloc _).own) y5.heap.size 1 ⟨5, name.data.toList, sn, 0, 0⟩ rfl (by rw [HCEL.out]; exact heap_alloc_last y5.drew _) (by omega) (by show _ ≤ Array.size _; simp; omega) ?_
    intro v' y6 hown' hgrow hat
    obtain ⟨g6, cap6, hvg, -⟩ := hown'.form L.length (by simp)
    generalize (L ++ [(⟨5, name.data.toList, sn, 0, 0⟩ : Cel)]).length = n6 at hvg
    subst hvg
    obtain ⟨hst6, hy6⟩ := LV.grown ((HY5.out.drewN 1).alloc _) hown' hgrow hat rfl
    have HY6 := Lib.hid hy6
    obtain ⟨_, _, _, _, g4⟩ := hst6.cells
    have f6 := hst6.frozen 4
    clear hown' hgrow hat hst6 hy6
    (try dsimp only)
    refine hK.out _ _ trivial (fun _ => ?_)
    clear hK K
    (try go_frame)
    refine tky 8 (some 168) (v := ?_) rfl (by kernel_rfl) (by kernel_rfl) (by kernel_rfl) (fun _ _ _ h => h) ?_ hHeld ?_
    rotate_left
    focus (intro w hSw; go_simp; (try with_reducible rfl); done)
    go_frame
    refine tky 9 (some 169) (v := ?_) rfl (by kernel_rfl) (by kernel_rfl) (by kernel_rfl) (fun _ _ _ h => h) ?_ hHeld ?_
    rotate_left
    focus (intro w hSw; go_simp; (try with_reducible rfl); done)
    go_frame
    refine rcons 10 rfl (by kernel_rfl) (fun K hK => ?_)
    go_simp
    refine hK.out _ _ trivial (fun _ => ?_)
    clear hK K
    (try go_frame)
    refine wpAnyH_done (by kernel_rfl) ?_ _
    go_wp2_with fail
    go_end0
    exact ⟨rfl, by simp; omega, _, HY6.out⟩
  
end Go.Proofs.YtgaknbnhmoddcaaGreatDoor
namespace Go.Proofs.YtgaknbnhmoddcaaGreatDoor
open Go.RowKit Go.Lib
theorem l_value_leaf {p tb off cap : Nat} {T : List Tok} {fx : Bool} {k : Nat} {op : Int} (v : Value) (L : List Cel) (name : ByteArray) (W : World) (h : LS p tb off cap T fx k op v W) (hown : OwnC (p + 1) v L W) (hL : L.length ≤ 2048) (hk : k ≤ 100000)
    (hE : ∀ W', Below p W W' → Env W') (hf : L.length ≠ 2048) (hb : begP fx T k = true) (ho : opnP T k = false) :
    Calls Tryz.prog 91 #[.pointer (some ⟨p, 0, none⟩), .string name] W (LVE p tb off cap T fx W v op (leafP fx T name.data.toList k L)) := by
  unfold leafP
  cases hv : varP fx T k with
  | true =>
    have hv2 := hv
    unfold varP at hv2
    simp only [Bool.and_eq_true, Bool.not_eq_true'] at hv2
    rw [if_pos rfl]
    cases hn : namP [] T (k + 1) with
    | error e => exact l_value_var_no v L name W h hown hL hk hf hv2.1 hv2.2 e hn
    | ok s => exact l_value_var v L name W h hown hL hk hf hv2.1 hv2.2 s hn
  | false =>
    rw [if_neg (by simp)]
    by_cases h3 : (lookP T k).kind = 3
    · rw [if_pos h3]; exact l_value_text v L name W h hown hL hk hf h3
    · rw [if_neg h3]
      by_cases h2 : (lookP T k).kind = 2
      · rw [if_pos h2]
        by_cases hre : rdE (lookP T k).text = 0
        · rw [if_neg (by simp [hre])]; exact l_value_int v L name W h hown hL hk hE hf h2 hre
        · rw [if_pos (by simpa using hre)]; exact l_value_int_no v L name W h hown hL hk hE hf h2 hre
      · rw [if_neg h2]
        have h1 : (lookP T k).kind = 1 := by
          unfold begP at hb
          rw [ho, hv] at hb
          simpa [h2, h3] using hb
        unfold wordP
        by_cases hx : (lookP T k).text = [110, 117, 108, 108]
        · rw [if_pos hx]; exact l_value_null v L name W h hown hL hk hf h1 hx
        · rw [if_neg hx]
          by_cases hy : (lookP T k).text = [116, 114, 117, 101]
          · rw [if_pos hy]; exact l_value_true v L name W h hown hL hk hf h1 hy
          · rw [if_neg hy]
            by_cases hz : (lookP T k).text = [102, 97, 108, 115, 101]
            · rw [if_pos hz]; exact l_value_false v L name W h hown hL hk hf h1 hz
            · rw [if_neg hz]; exact l_value_enum v L name W h hown hL hk hf h1 hx hy hz
end Go.Proofs.YtgaknbnhmoddcaaGreatDoor
namespace Go.Proofs.YtgaknbnhmoddcaaGreatDoor
open Go.Lib
theorem look_in {T : List Tok} {a : Nat} (h : (lookP T a).kind ≠ 0) : a < T.length := by
  rcases Nat.lt_or_ge a T.length with h1 | h1
  · exact h1
  · exfalso; apply h
    unfold lookP
    rw [List.getD_eq_getElem?_getD, List.getElem?_eq_none h1]; rfl
theorem mrk_lt {T : List Tok} {a : Nat} {s : List UInt8} (h : mrkP T a s = true) : a < T.length := by
  unfold mrkP at h
  simp only [Bool.and_eq_true, beq_iff_eq] at h
  exact look_in (by rw [h.1]; decide)
theorem nam_lt {nm : List (List UInt8)} {T : List Tok} {a : Nat} {s : List UInt8} (h : namP nm T a = .ok s) : a < T.length ∧ (lookP T a).text = s := by
  unfold namP at h
  split at h
  · cases h
  · rename_i h1
    split at h
    · cases h
    · injection h with h
      refine ⟨look_in ?_, h⟩
      simp only [bne_iff_ne, ne_eq, Decidable.not_not] at h1
      rw [h1]; decide
theorem mem_lt {nm : List (List UInt8)} {T : List Tok} {a a1 : Nat} {s : List UInt8} (h : memP nm T a = .ok (s, a1)) : a1 = a + 2 ∧ a1 ≤ T.length ∧ namP nm T a = .ok s := by
  unfold memP at h
  split at h
  · cases h
  · rename_i s1 hn
    split at h
    · rename_i hm
      injection h with h
      injection h with h1 h2
      have := mrk_lt hm
      exact ⟨h2.symm, by omega, by rw [hn, h1]⟩
    · cases h
theorem beg_lt {fixed : Bool} {T : List Tok} {a : Nat} (h : begP fixed T a = true) : a < T.length := by
  refine look_in fun h0 => ?_
  have hm : ∀ s, mrkP T a s = false := fun s => by
    unfold mrkP; rw [h0]; rfl
  unfold begP opnP varP at h
  rw [h0, hm, hm, hm, Bool.and_false] at h
  cases h
theorem itmP_end {val : List UInt8 → Nat → List Cel → Except ErrP (Nat × List Cel)} {isO : Bool} {T : List Tok} {f n : Nat} {nm : List (List UInt8)} {a : Nat} {out : List Cel} (h : mrkP T a (if isO then [125] else [93]) = true) : itmP val isO T (f + 1) n nm a out = .ok (n, a + 1, out) := by
  unfold itmP
  rw [if_pos h]
theorem itmP_go {val : List UInt8 → Nat → List Cel → Except ErrP (Nat × List Cel)} {isO : Bool} {T : List Tok} {f n : Nat} {nm : List (List UInt8)} {a : Nat} {out : List Cel} (h : mrkP T a (if isO then [125] else [93]) = false) : itmP val isO T (f + 1) n nm a out = match (if isO then memP nm T a else .ok ([], a)) with
    | .error e => .error e
    | .ok (s, a1) => match val s a1 out with
      | .error e => .error e
      | .ok (a2, out2) => itmP val isO T f (n + 1) (if isO then s :: nm else nm) a2 out2 := by
  conv => lhs; unfold itmP
  rw [if_neg (by rw [h]; simp)]
  rfl
theorem many_app (k n : Nat) (out : List Cel) (c : Cel) (new : List Cel) (hk : k = out.length) : manyAt k n (out ++ c :: new) = out ++ { c with many := (n : Int) } :: new := by
  subst hk
  unfold manyAt
  induction out with
  | nil => rfl
  | cons x out ih => simp only [List.cons_append, List.length_cons, List.modify_succ_cons, ih]
theorem manyln (k n : Nat) (L : List Cel) : (manyAt k n L).length = L.length := by unfold manyAt; rw [List.length_modify]
theorem many_app2 (k n : Nat) : ∀ (out new : List Cel), k < out.length → manyAt k n out ++ new = manyAt k n (out ++ new) := by
  intro out new h
  unfold manyAt
  induction out generalizing k with
  | nil => simp at h
  | cons x out ih =>
    cases k with
    | zero => rfl
    | succ k => simp only [List.cons_append, List.modify_succ_cons]; rw [← ih k (by simpa using h)]
theorem many_many (k n m : Nat) (out : List Cel) : manyAt k m (manyAt k n out) = manyAt k m out := by
  unfold manyAt
  induction out generalizing k with
  | nil => simp
  | cons x out ih =>
    cases k with
    | zero => rfl
    | succ k => simp only [List.modify_succ_cons, ih]
theorem many_at (k n : Nat) (out : List Cel) (h : k < (manyAt k n out).length) : ((manyAt k n out)[k]'h).many = (n : Int) := by
  unfold manyAt at h ⊢
  rw [List.getElem_modify]
  simp
theorem many_last (k : Nat) (out : List Cel) (c : Cel) (h : k = out.length) (hc : c.many = 0) : manyAt k 0 (out ++ [c]) = out ++ [c] := by
  rw [many_app k 0 out c [] h]
  obtain ⟨a, b, c, d, e⟩ := c
  simp only at hc
  subst hc; rfl
/-- Two readings that differ in what stands ahead alone. -/
def AlkV (out out' : List Cel) (r r' : Except ErrP (Nat × List Cel)) : Prop := match r with
  | .error e => r' = .error e
  | .ok (a, o) => ∃ new, o = out ++ new ∧ 0 < new.length ∧ r' = .ok (a, out' ++ new)
def AlkI (out out' : List Cel) (r r' : Except ErrP (Nat × Nat × List Cel)) : Prop := match r with
  | .error e => r' = .error e
  | .ok (n, a, o) => ∃ new, o = out ++ new ∧ r' = .ok (n, a, out' ++ new)
theorem itm_alk (val : List UInt8 → Nat → List Cel → Except ErrP (Nat × List Cel)) (hval : ∀ s a out out', out.length = out'.length → AlkV out out' (val s a out) (val s a out')) (isO : Bool) (T : List Tok) : ∀ (f n : Nat) (nm : List (List UInt8)) (a : Nat) (out out' : List Cel), out.length = out'.length → AlkI out out' (itmP val isO T f n nm a out) (itmP val isO T f n nm a out')
  | 0, _, _, _, _, _, _ => rfl
  | f + 1, n, nm, a, out, out', hl => by
    cases hmk : mrkP T a (if isO then [125] else [93]) with
    | true =>
      rw [itmP_end hmk, itmP_end hmk]
      exact ⟨[], by simp, by simp⟩
    | false =>
      rw [itmP_go hmk, itmP_go hmk]
      cases hm : (if isO then memP nm T a else .ok ([], a)) with
      | error e => rfl
      | ok sa =>
        obtain ⟨s, a1⟩ := sa
        have hv := hval s a1 out out' hl
        dsimp only
        cases hx : val s a1 out with
        | error e =>
          rw [hx] at hv
          have hv2 : val s a1 out' = .error e := hv
          rw [hv2]
          rfl
        | ok y =>
          obtain ⟨a2, o2⟩ := y
          rw [hx] at hv
          obtain ⟨new, rfl, hp, hv2⟩ := hv
          rw [hv2]
          dsimp only
          have ih := itm_alk val hval isO T f (n + 1) (if isO then s :: nm else nm) a2 (out ++ new) (out' ++ new) (by simp [hl])
          revert ih
          generalize itmP val isO T f (n + 1) (if isO then s :: nm else nm) a2 (out ++ new) = R
          generalize itmP val isO T f (n + 1) (if isO then s :: nm else nm) a2 (out' ++ new) = R'
          intro ih
          match R, ih with
          | .error e, ih => exact ih
          | .ok (n, a, o), ih =>
            obtain ⟨new2, h1, h2⟩ := ih
            exact ⟨new ++ new2, by rw [h1, List.append_assoc], by rw [h2, List.append_assoc]⟩
theorem leaf_alk (fixed : Bool) (T : List Tok) (name : List UInt8) (a : Nat) (out out' : List Cel) : AlkV out out' (leafP fixed T name a out) (leafP fixed T name a out') := by
  unfold leafP
  split
  · cases namP [] T (a + 1) with
    | error e => rfl
    | ok s => exact ⟨_, rfl, Nat.zero_lt_one, rfl⟩
  · split
    · exact ⟨_, rfl, Nat.zero_lt_one, rfl⟩
    · split
      · split
        · rfl
        · exact ⟨_, rfl, Nat.zero_lt_one, rfl⟩
      · exact ⟨_, rfl, Nat.zero_lt_one, rfl⟩
theorem val_alk_step (fixed : Bool) (T : List Tok) (d : Nat) (ih : ∀ e, d = e + 1 → ∀ name a out out', out.length = out'.length → AlkV out out' (valP fixed T e name a out) (valP fixed T e name a out')) : ∀ name a out out', out.length = out'.length → AlkV out out' (valP fixed T d name a out) (valP fixed T d name a out') := by
  intro name a out out' hl
  unfold valP
  split
  · rfl
  · rw [hl]
    split
    · rfl
    · split
      · cases d with
        | zero => rfl
        | succ d =>
          have hi := itm_alk (valP fixed T d) (ih d rfl) (mrkP T a [123]) T (T.length + 1) 0 [] (a + 1) (out ++ [⟨if mrkP T a [123] then 7 else 6, name, [], 0, 0⟩]) (out' ++ [⟨if mrkP T a [123] then 7 else 6, name, [], 0, 0⟩]) (by simp [hl])
          simp only []
          revert hi
          generalize itmP (valP fixed T d) (mrkP T a [123]) T (T.length + 1) 0 [] (a + 1) (out ++ [⟨if mrkP T a [123] then 7 else 6, name, [], 0, 0⟩]) = R
          generalize itmP (valP fixed T d) (mrkP T a [123]) T (T.length + 1) 0 [] (a + 1) (out' ++ [⟨if mrkP T a [123] then 7 else 6, name, [], 0, 0⟩]) = R'
          intro hi
          match R, hi with
          | .error e, hi =>
            have hi2 : R' = .error e := hi
            subst hi2; rfl
          | .ok (n, a2, o), hi =>
            obtain ⟨new2, h1, h2⟩ := hi
            subst h1; subst h2
            refine ⟨{ kind := if mrkP T a [123] then 7 else 6, name := name, text := [], num := 0, many := (n : Int) } :: new2, ?_, by simp, ?_⟩
            · rw [List.append_assoc, List.singleton_append]
              exact many_app _ n _ _ _ hl.symm
            · simp only []
              rw [List.append_assoc, List.singleton_append, many_app _ n out' _ _ rfl]
      · exact leaf_alk fixed T name a out out'
theorem val_alk (fixed : Bool) (T : List Tok) : ∀ (d : Nat) name a out out', out.length = out'.length → AlkV out out' (valP fixed T d name a out) (valP fixed T d name a out')
  | 0 => val_alk_step fixed T 0 fun e h => by omega
  | d + 1 => val_alk_step fixed T (d + 1) fun e h => by
    have : e = d := by omega
    subst this
    exact val_alk fixed T e
/-- A reading goes on, and stays within the tokens. -/
def OnV (T : List Tok) (val : List UInt8 → Nat → List Cel → Except ErrP (Nat × List Cel)) : Prop := ∀ s a out a2 o2, val s a out = .ok (a2, o2) → a < a2 ∧ a2 ≤ T.length
theorem itm_on (val : List UInt8 → Nat → List Cel → Except ErrP (Nat × List Cel)) (T : List Tok) (hval : OnV T val) (isO : Bool) : ∀ (f n : Nat) (nm : List (List UInt8)) (a : Nat) (out : List Cel) (k a2 : Nat) (o2 : List Cel), itmP val isO T f n nm a out = .ok (k, a2, o2) → a < a2 ∧ a2 ≤ T.length
  | 0, _, _, _, _, _, _, _, h => by cases h
  | f + 1, n, nm, a, out, k, a2, o2, h => by
    cases hm : mrkP T a (if isO then [125] else [93]) with
    | true =>
      rw [itmP_end hm] at h
      injection h with h
      injection h with h1 h2
      injection h2 with h2 h3
      have := mrk_lt hm
      omega
    | false =>
      rw [itmP_go hm] at h
      cases hm : (if isO then memP nm T a else .ok ([], a)) with
      | error e => rw [hm] at h; cases h
      | ok sa =>
        obtain ⟨s, a1⟩ := sa
        rw [hm] at h
        simp only at h
        have ha : a ≤ a1 := by
          cases isO with
          | true => have := mem_lt hm; omega
          | false =>
            rw [if_neg (by simp)] at hm
            injection hm with hm
            injection hm with _ hm
            omega
        cases hx : val s a1 out with
        | error e => rw [hx] at h; cases h
        | ok y =>
          obtain ⟨a3, o3⟩ := y
          rw [hx] at h
          have h1 := hval _ _ _ _ _ hx
          have h2 := itm_on val T hval isO f _ _ _ _ _ _ _ h
          omega
theorem leaf_on (fixed : Bool) (T : List Tok) (name : List UInt8) (a : Nat) (out : List Cel) (hb : begP fixed T a = true) (a2 : Nat) (o2 : List Cel) (h : leafP fixed T name a out = .ok (a2, o2)) : a < a2 ∧ a2 ≤ T.length := by
  have hl := beg_lt hb
  unfold leafP at h
  split at h
  · split at h
    · cases h
    · rename_i s hn
      have := (nam_lt hn).1
      injection h with h
      injection h with h1 h2
      omega
  · split at h
    · injection h with h
      injection h with h1 h2
      omega
    · split at h
      · split at h
        · cases h
        · injection h with h
          injection h with h1 h2
          omega
      · injection h with h
        injection h with h1 h2
        omega
theorem val_on_step (fixed : Bool) (T : List Tok) (d : Nat) (ih : ∀ e, d = e + 1 → OnV T (valP fixed T e)) : OnV T (valP fixed T d) := by
  intro name a out a2 o2 h
  unfold valP at h
  split at h
  · cases h
  · rename_i hb
    split at h
    · cases h
    · split at h
      · cases d with
        | zero => cases h
        | succ d =>
          simp only [] at h
          split at h
          · cases h
          · rename_i n a3 o3 hi
            have := itm_on _ T (ih d rfl) _ _ _ _ _ _ _ _ _ hi
            injection h with h
            injection h with h1 h2
            omega
      · exact leaf_on fixed T name a out (by simpa using hb) a2 o2 h
theorem val_on (fixed : Bool) (T : List Tok) : ∀ d, OnV T (valP fixed T d)
  | 0 => val_on_step fixed T 0 fun e h => by omega
  | d + 1 => val_on_step fixed T (d + 1) fun e h => by
    have : e = d := by omega
    subst this
    exact val_on fixed T e
end Go.Proofs.YtgaknbnhmoddcaaGreatDoor
namespace Go.Proofs.YtgaknbnhmoddcaaGreatDoor
open Go.RowKit Go.Lib
theorem LV.join {p tb off cap : Nat} {T : List Tok} {fx : Bool} {w : World} {v0 v v2 : Value} {out out2 : List Cel} {k k' : Nat} {op op' : Int} {W W' : World} (h : LV p tb off cap T fx w v0 v out k op W) (h' : LV p tb off cap T fx W v v2 out2 k' op' W') : LV p tb off cap T fx w v0 v2 out2 k' op' W' :=
  ⟨h'.st, h'.own, h.vk.trans h'.vk h.ob, fun k hk => by
    rcases h'.ob k hk with e | e
    · exact h.ob k e
    · have := h.size; exact Or.inr (by omega)⟩
theorem LVE.err {p tb off cap : Nat} {T : List Tok} {fx : Bool} {w : World} {v0 : Value} {op : Int} {e : ErrP} {x : Ending} {W : World} (h : LVE p tb off cap T fx w v0 op (.error e) x W) : x = .panicked (stopP e) ∧ Below p w W := h
theorem LVE.ok_ {p tb off cap : Nat} {T : List Tok} {fx : Bool} {w : World} {v0 : Value} {op : Int} {k : Nat} {out' : List Cel} {x : Ending} {W : World} (h : LVE p tb off cap T fx w v0 op (.ok (k, out')) x W) : x = .returned (.tuple #[]) ∧ out'.length ≤ 2048 ∧ ∃ v', LV p tb off cap T fx w v0 v' out' k op W := h
theorem LVE.lift {p tb off cap : Nat} {T : List Tok} {fx : Bool} {w w1 : World} {v0 v : Value} {out : List Cel} {k1 : Nat} {op op1 : Int} {o : Except ErrP (Nat × List Cel)} {x : Ending} {W : World} (h : LV p tb off cap T fx w v0 v out k1 op1 w1) (h' : LVE p tb off cap T fx w1 v op o x W) : LVE p tb off cap T fx w v0 op o x W := by
  cases o with
  | error e => exact ⟨h'.1, h.vk.1.trans h'.2⟩
  | ok y =>
    obtain ⟨h1, h2, v', h3⟩ := h'
    exact ⟨h1, h2, v', h.join h3⟩
/-- Inside of brackets. -/
structure LI (p bm C tb off cap : Nat) (T : List Tok) (fx : Bool) (w : World) (v0 v : Value) (out : List Cel) (k : Nat) (op : Int) (nm : List (List UInt8)) (cc : Array Value) (W : World) : Prop where
  vp : LV p tb off cap T fx w v0 v out k op W
  nm : NamesM bm nm W
  cc : W.heap[C]? = some (.cells cc 63 (0, 0))
  lo : w.heap.size ≤ C
  lt : C < bm
  pl : p < w.heap.size
  ne : v.ownBlock ≠ some bm
  nc : v.ownBlock ≠ some C
section
variable {p bm C tb off cap : Nat} {T : List Tok} {fx : Bool} {w : World} {v0 v : Value} {out : List Cel} {k k' : Nat} {op op' : Int} {nm nm' : List (List UInt8)} {cc : Array Value} {W W' : World}
theorem LI.rk (h : LI p bm C tb off cap T fx w v0 v out k op nm cc W) (hs : LS p tb off cap T fx k' op' v W') (hk : RK p W W') : LI p bm C tb off cap T fx w v0 v out k' op' nm cc W' :=
  ⟨h.vp.rk hs hk, h.nm.rk hk (by have := h.lo; have := h.lt; have := h.pl; omega), hk.2 C _ h.cc (by have := h.lo; have := h.pl; omega), h.lo, h.lt, h.pl, h.ne, h.nc⟩
theorem LI.below (h : LI p bm C tb off cap T fx w v0 v out k op nm cc W) (hb : Below W.heap.size W W') : LI p bm C tb off cap T fx w v0 v out k op nm cc W' := h.rk (h.vp.st.below hb) (RK.of_below hb h.vp.st.lt)
theorem LI.drewN (h : LI p bm C tb off cap T fx w v0 v out k op nm cc W) (n : Nat) : LI p bm C tb off cap T fx w v0 v out k op nm cc (W.drewN n) := h.below (below_dN n (Below.refl _ _))
theorem LI.op_ (h : LI p bm C tb off cap T fx w v0 v out k op nm cc W) (a : Int) : LI p bm C tb off cap T fx w v0 v out k a nm cc (W.setCell ⟨p, 3, none⟩ (.int .i64 a)) := h.rk (h.vp.st.op_ a) (RK.set p 3 W _)
theorem LI.go (h : LI p bm C tb off cap T fx w v0 v out k op nm cc W) (k' : Nat) (hk : k' ≤ 200000) : LI p bm C tb off cap T fx w v0 v out k' op nm cc (W.setCell ⟨p, 1, none⟩ (.int .i64 k')) := h.rk (h.vp.st.go k' hk) (RK.set p 1 W _)
theorem LI.mk_ (h : LI p bm C tb off cap T fx w v0 v out k op nm cc W) (hs : LS p tb off cap T fx k' op v W') (hm : NamesM bm nm' W') (hk : MK p bm W W') : LI p bm C tb off cap T fx w v0 v out k' op nm' cc W' :=
  ⟨⟨hs, h.vp.own.mk hk (Nat.lt_succ_self p) h.ne, ⟨h.vp.vk.1.trans hk.1, fun k o ho h1 h2 => hk.2 k o (h.vp.vk.2 k o ho h1 h2) h1 (by have := heap_lt ho; have := h.lo; have := h.lt; omega)⟩, h.vp.ob⟩, hm, hk.2 C _ h.cc (by have := h.lo; have := h.pl; omega) (by have := h.lt; omega), h.lo, h.lt, h.pl, h.ne, h.nc⟩
theorem LI.val {v2 : Value} {out2 : List Cel} (h : LI p bm C tb off cap T fx w v0 v out k op nm cc W) (h' : LV p tb off cap T fx W v v2 out2 k' op' W') : LI p bm C tb off cap T fx w v0 v2 out2 k' op' nm cc W' := by
  have hlt := h.nm.lt
  have hlc := heap_lt h.cc
  refine ⟨h.vp.join h', h.nm.keep ?_, ?_, h.lo, h.lt, h.pl, fun e => ?_, fun e => ?_⟩
  · have := Array.getElem?_eq_getElem hlt
    rw [this]
    exact h'.vk.2 bm _ this (by have := h.lo; have := h.lt; have := h.pl; omega) h.ne
  · exact h'.vk.2 C _ h.cc (by have := h.lo; have := h.pl; omega) h.nc
  · rcases h'.ob bm e with e | e
    · exact h.ne e
    · omega
  · rcases h'.ob C e with e | e
    · exact h.nc e
    · omega
theorem LI.set {g i m c : Nat} {u : Value} {out' : List Cel} (h : LI p bm C tb off cap T fx w v0 v out k op nm cc W) (hv : v = .slice (some ⟨g, 0, none⟩) m c) (hr : p < g) (hl : out'.length = out.length) (hf : celFlat out' = (celFlat out).set i u) : LI p bm C tb off cap T fx w v0 v out' k op nm cc (W.setCell ⟨g, i, none⟩ u) := by
  have hgm : g ≠ bm := fun e => h.ne (by rw [hv, e]; rfl)
  have hgc : g ≠ C := fun e => h.nc (by rw [hv, e]; rfl)
  refine ⟨h.vp.set hv hr hl hf, h.nm.keep ?_, ?_, h.lo, h.lt, h.pl, h.ne, h.nc⟩
  · exact Below.heap_setCell _ _ _ _ (by show bm ≠ g; omega)
  · exact (Below.heap_setCell _ _ _ _ (by show C ≠ g; omega)).trans h.cc
end
/-- A bracket's reading, at whatever depth is left. -/
def manP (fixed : Bool) (T : List Tok) : Nat → List UInt8 → Nat → List Cel → Except ErrP (Nat × List Cel)
  | 0, _, a, _ => .error (30, a)
  | d + 1, name, a, out => match itmP (valP fixed T d) (mrkP T a [123]) T (T.length + 1) 0 [] (a + 1) (out ++ [⟨if mrkP T a [123] then 7 else 6, name, [], 0, 0⟩]) with
    | .error e => .error e
    | .ok (n, a2, out2) => .ok (a2, manyAt out.length n out2)
theorem valP_open (fixed : Bool) (T : List Tok) (d : Nat) (name : List UInt8) (a : Nat) (out : List Cel) (ho : opnP T a = true) (hf : out.length ≠ 2048) : valP fixed T d name a out = manP fixed T d name a out := by
  have hb : begP fixed T a = true := by unfold begP; rw [ho]; simp
  unfold valP
  rw [hb, if_neg (by simp), if_neg hf, if_pos ho]
  cases d <;> rfl
theorem valP_leaf (fixed : Bool) (T : List Tok) (d : Nat) (name : List UInt8) (a : Nat) (out : List Cel) (hb : begP fixed T a = true) (ho : opnP T a = false) (hf : out.length ≠ 2048) : valP fixed T d name a out = leafP fixed T name a out := by
  unfold valP
  rw [hb, if_neg (by simp), if_neg hf, if_neg (by rw [ho]; simp)]
theorem valP_bad (fixed : Bool) (T : List Tok) (d : Nat) (name : List UInt8) (a : Nat) (out : List Cel) (hb : begP fixed T a = false) : valP fixed T d name a out = .error (180, a) := by
  unfold valP
  rw [hb, if_pos (by simp)]
theorem valP_full (fixed : Bool) (T : List Tok) (d : Nat) (name : List UInt8) (a : Nat) (out : List Cel) (hb : begP fixed T a = true) (hf : out.length = 2048) : valP fixed T d name a out = .error (4, a) := by
  unfold valP
  rw [hb, if_neg (by simp), if_pos hf]
def LValSpec (d : Nat) : Prop := ∀ (p tb off cap : Nat) (T : List Tok) (fx : Bool) (k : Nat) (op : Int) (v : Value) (L : List Cel) (name : ByteArray) (W : World), op + (d : Int) = 16 → 0 ≤ op → LS p tb off cap T fx k op v W → OwnC (p + 1) v L W → L.length ≤ 2048 → k ≤ 100000 → (∀ W', Below p W W' → Env W') →
  Calls Tryz.prog 91 #[.pointer (some ⟨p, 0, none⟩), .string name] W (LVE p tb off cap T fx W v op (valP fx T d name.data.toList k L))
def LManSpec (d : Nat) : Prop := ∀ (p tb off cap : Nat) (T : List Tok) (fx : Bool) (k : Nat) (op : Int) (v : Value) (L : List Cel) (name : ByteArray) (W : World), op + (d : Int) = 16 → 0 ≤ op → LS p tb off cap T fx k op v W → OwnC (p + 1) v L W → L.length ≤ 2047 → k ≤ 100000 → opnP T k = true → (∀ W', Below p W W' → Env W') →
  Calls Tryz.prog 110 #[.pointer (some ⟨p, 0, none⟩), .agg #[.int .u8 0, .string name, .string ⟨#[]⟩, .int .i64 0, .int .i64 0]] W (LVE p tb off cap T fx W v op (manP fx T d name.data.toList k L))
end Go.Proofs.YtgaknbnhmoddcaaGreatDoor
namespace Go.Proofs.YtgaknbnhmoddcaaGreatDoor
open Go.RowKit Go.Lib
set_option maxRecDepth 100000 in
set_option maxHeartbeats 4000000 in
theorem l_value_many_list {p tb off cap : Nat} {T : List Tok} {fx : Bool} {k : Nat} {op : Int} (v : Value) (L : List Cel) (name : ByteArray) (W : World) (h : LS p tb off cap T fx k op v W) (hown : OwnC (p + 1) v L W) (hL : L.length ≤ 2048) (hk : k ≤ 100000) (d : Nat) (hop : op + (d : Int) = 16) (h0 : 0 ≤ op) (hE : ∀ W', Below p W W' → Env W') (hf : L.length ≠ 2048) (mm : mrkP T k [91] = true) (hm : LManSpec d) :
    Calls Tryz.prog 91 #[.pointer (some ⟨p, 0, none⟩), .string name] W (LVE p tb off cap T fx W v op (manP fx T d name.data.toList k L)) := by
  have HV0 : Hid (LV p tb off cap T fx W v v L k op W) := Lib.hid ⟨h, hown, VK.refl _ _ _, fun k hk => Or.inl hk⟩
  have HLK := Lib.hid (fun (W : World) (hW : LS p tb off cap T fx k op v W) => l_look W hW)
  have HIS := Lib.hid (fun (s : ByteArray) (W : World) (hW : LS p tb off cap T fx k op v W) => l_is s W hW)
  have HNO := Lib.hid (fun (e : Int) (W : World) (hW : LS p tb off cap T fx k op v W) => l_no e W hW)
  have hw1 : IntKind.i64.wrap ((k : Int) + 1) = (k : Int) + 1 := IntWalk.i64_in _ (by omega)
  have hvl : ∃ a n c, v = .slice a n c ∧ n = L.length := by
    rcases HV0.out.own.2 with ⟨h1, h2⟩ | ⟨g, cap, cur, h1, _⟩
    · exact ⟨none, 0, 0, h1, h2.symm⟩
    · exact ⟨_, _, _, h1, rfl⟩
  obtain ⟨av, nv, cv, rfl, hnv⟩ := hvl
  have HNV := Lib.hid hnv
  have hnv8 : nv ≤ 2048 := by omega
  clear h hown
  have tf : ((nv : Int) == 2048) = false := by rw [beq_eq_false_iff_ne]; omega
  have hopn : opnP T k = true := by unfold opnP; rw [mm]; simp
  have HEE := Lib.hid hE
  have HMAN : Hid (∀ W', LS p tb off cap T fx k op (.slice av nv cv) W' → OwnC (p + 1) (.slice av nv cv) L W' → (∀ W2, Below p W' W2 → Env W2) → Calls Tryz.prog 110 #[.pointer (some ⟨p, 0, none⟩), .agg #[.int .u8 0, .string name, .string ⟨#[]⟩, .int .i64 0, .int .i64 0]] W' (LVE p tb off cap T fx W' (.slice av nv cv) op (manP fx T d name.data.toList k L))) := Lib.hid fun W' hW ho he => hm p tb off cap T fx k op _ L name W' hop h0 hW ho (by omega) hk hopn he
  obtain ⟨R, hR⟩ : ∃ R, manP fx T d name.data.toList k L = R := ⟨_, rfl⟩
  rw [hR] at HMAN ⊢
  clear hE hm hop h0 hopn hR
  have hkk := (mrk_one mm).1
  have m91 : mrkP T k [91] = true := mm
  have m123 : mrkP T k [123] = false := mrk_ne mm (by decide)
  have m36 : mrkP T k [36] = false := mrk_ne mm (by decide)
  have H91 : Hid (∀ W', LS p tb off cap T fx k op (.slice av nv cv) W' → Calls Tryz.prog 82 #[.pointer (some ⟨p, 0, none⟩), .int .u8 4, .string ⟨#[91]⟩] W' fun x w' => x = .returned (.bool true) ∧ Below W'.heap.size W' w') := Lib.hid fun W' hW => by
    have := HIS.out ⟨#[91]⟩ W' hW
    rw [show (⟨#[91]⟩ : ByteArray).data.toList = [91] from rfl, m91] at this; exact this
  have H123 : Hid (∀ W', LS p tb off cap T fx k op (.slice av nv cv) W' → Calls Tryz.prog 82 #[.pointer (some ⟨p, 0, none⟩), .int .u8 4, .string ⟨#[123]⟩] W' fun x w' => x = .returned (.bool false) ∧ Below W'.heap.size W' w') := Lib.hid fun W' hW => by
    have := HIS.out ⟨#[123]⟩ W' hW
    rw [show (⟨#[123]⟩ : ByteArray).data.toList = [123] from rfl, m123] at this; exact this
  have H36 : Hid (∀ W', LS p tb off cap T fx k op (.slice av nv cv) W' → Calls Tryz.prog 82 #[.pointer (some ⟨p, 0, none⟩), .int .u8 4, .string ⟨#[36]⟩] W' fun x w' => x = .returned (.bool false) ∧ Below W'.heap.size W' w') := Lib.hid fun W' hW => by
    have := HIS.out ⟨#[36]⟩ W' hW
    rw [show (⟨#[36]⟩ : ByteArray).data.toList = [36] from rfl, m36] at this; exact this
  obtain ⟨kd, hkd⟩ : ∃ kd : Int, ((lookP T k).kind.toNat : Int) = kd := ⟨_, rfl⟩
  obtain ⟨tb0, htb0⟩ : ∃ b : ByteArray, (⟨(lookP T k).text.toArray⟩ : ByteArray) = b := ⟨_, rfl⟩
  obtain ⟨ps, hps⟩ : ∃ ps : Int, (lookP T k).pos = ps := ⟨_, rfl⟩
  have HTX : Hid (tb0.data.toList = (lookP T k).text) := Lib.hid (by rw [← htb0])
  have HTB := Lib.hid htb0
  unfold tokW at HLK
  rw [hkd, htb0, hps] at HLK
  have hkd2 : kd = 4 := by rw [← hkd, hkk]; rfl
  subst hkd2
  clear hkd htb0 hps hkk hnv mm m91 m123 m36
  cases fx
  case' true =>
    go_enter Tryz.func91, Tryz.ntmps91
    go_wp2_with fail
    refine (HLK.out _ HV0.out.st).mono ?_; rintro x w1 ⟨rfl, hb⟩
    have HV1 := Lib.hid ((HV0.out.below hb).alloc (.cells #[.int .u8 4, .string tb0, .int .i64 ps] 72 (0, 0)))
    have HA1 : Hid ((w1.alloc (.cells #[.int .u8 4, .string tb0, .int .i64 ps] 72 (0, 0))).heap[w1.heap.size]? = some (.cells #[.int .u8 4, .string tb0, .int .i64 ps] 72 (0, 0))) := Lib.hid (heap_alloc_last _ _)
    obtain ⟨A, hA⟩ : ∃ A, w1.heap.size = A := ⟨_, rfl⟩
    rw [hA] at HA1
    have HAZ := Lib.hid hA
    clear hb
    go_wp2_with fail
    refine (H91.out _ HV1.out.st).mono ?_; rintro x w3 ⟨rfl, hb⟩
    have HV3 := Lib.hid (HV1.out.below hb)
    have HA3 := Lib.hid ((hb.block A (heap_lt HA1.out)).trans HA1.out)
    clear hb
  case' false =>
    go_enter Tryz.func91, Tryz.ntmps91
    go_wp2_with fail
    refine (HLK.out _ HV0.out.st).mono ?_; rintro x w1 ⟨rfl, hb⟩
    have HV1 := Lib.hid ((HV0.out.below hb).alloc (.cells #[.int .u8 4, .string tb0, .int .i64 ps] 72 (0, 0)))
    have HA1 : Hid ((w1.alloc (.cells #[.int .u8 4, .string tb0, .int .i64 ps] 72 (0, 0))).heap[w1.heap.size]? = some (.cells #[.int .u8 4, .string tb0, .int .i64 ps] 72 (0, 0))) := Lib.hid (heap_alloc_last _ _)
    obtain ⟨A, hA⟩ : ∃ A, w1.heap.size = A := ⟨_, rfl⟩
    rw [hA] at HA1
    have HAZ := Lib.hid hA
    clear hb
    go_wp2_with fail
    refine (H91.out _ HV1.out.st).mono ?_; rintro x w2 ⟨rfl, hb⟩
    have HV2 := Lib.hid (HV1.out.below hb)
    have HA2 := Lib.hid ((hb.block A (heap_lt HA1.out)).trans HA1.out)
    clear hb
    obtain ⟨c0, c1, c2, c3, c4⟩ := HV2.out.st.cells
    go_wp2_with fail
    refine (H36.out _ HV2.out.st).mono ?_; rintro x w3 ⟨rfl, hb⟩
    have HV3 := Lib.hid (HV2.out.below hb)
    have HA3 := Lib.hid ((hb.block A (heap_lt HA2.out)).trans HA2.out)
    clear hb
    clear c0 c1 c2 c3 c4
  all_goals
    obtain ⟨c0, c1, c2, c3, c4⟩ := HV3.out.st.cells
    obtain ⟨a0, a1, a2⟩ := tcells HA3.out
    have hA3 : A < w3.heap.size := heap_lt HA3.out
    have hp3 : p < w3.heap.size := HV3.out.st.lt
    go_wp2_with fail
    have HVc := Lib.hid (HV3.out.alloc (.cells #[.int .u8 0, .string name, .string ⟨#[]⟩, .int .i64 0, .int .i64 0] 63 (0, 0)))
    refine (HMAN.out _ HVc.out.st HVc.out.own (fun W2 hW2 => HEE.out _ (HVc.out.vk.1.trans hW2))).mono ?_; rintro x y4 hx
    have HX := Lib.hid (LVE.lift HVc.out hx)
    clear hx
    cases R with
    | error e =>
      obtain ⟨hxe, hb⟩ := HX.out.err
      subst hxe
      have HB9 := Lib.hid hb
      clear hb HX
      go_wp2_with fail
      exact ⟨rfl, rfl, HB9.out⟩
    | ok y =>
      obtain ⟨k9, out9⟩ := y
      obtain ⟨hxe, hl9, v9, hv9⟩ := HX.out.ok_
      subst hxe
      have HV9 := Lib.hid hv9
      clear hv9 HX
      go_wp2_with fail
      go_end0
      exact ⟨rfl, hl9, v9, HV9.out⟩
set_option maxRecDepth 100000 in
set_option maxHeartbeats 4000000 in
theorem l_value_many_obj {p tb off cap : Nat} {T : List Tok} {fx : Bool} {k : Nat} {op : Int} (v : Value) (L : List Cel) (name : ByteArray) (W : World) (h : LS p tb off cap T fx k op v W) (hown : OwnC (p + 1) v L W) (hL : L.length ≤ 2048) (hk : k ≤ 100000) (d : Nat) (hop : op + (d : Int) = 16) (h0 : 0 ≤ op) (hE : ∀ W', Below p W W' → Env W') (hf : L.length ≠ 2048) (mm : mrkP T k [123] = true) (hm : LManSpec d) :
    Calls Tryz.prog 91 #[.pointer (some ⟨p, 0, none⟩), .string name] W (LVE p tb off cap T fx W v op (manP fx T d name.data.toList k L)) := by
  have HV0 : Hid (LV p tb off cap T fx W v v L k op W) := Lib.hid ⟨h, hown, VK.refl _ _ _, fun k hk => Or.inl hk⟩
  have HLK := Lib.hid (fun (W : World) (hW : LS p tb off cap T fx k op v W) => l_look W hW)
  have HIS := Lib.hid (fun (s : ByteArray) (W : World) (hW : LS p tb off cap T fx k op v W) => l_is s W hW)
  have HNO := Lib.hid (fun (e : Int) (W : World) (hW : LS p tb off cap T fx k op v W) => l_no e W hW)
  have hw1 : IntKind.i64.wrap ((k : Int) + 1) = (k : Int) + 1 := IntWalk.i64_in _ (by omega)
  have hvl : ∃ a n c, v = .slice a n c ∧ n = L.length := by
    rcases HV0.out.own.2 with ⟨h1, h2⟩ | ⟨g, cap, cur, h1, _⟩
    · exact ⟨none, 0, 0, h1, h2.symm⟩
    · exact ⟨_, _, _, h1, rfl⟩
  obtain ⟨av, nv, cv, rfl, hnv⟩ := hvl
  have HNV := Lib.hid hnv
  have hnv8 : nv ≤ 2048 := by omega
  clear h hown
  have tf : ((nv : Int) == 2048) = false := by rw [beq_eq_false_iff_ne]; omega
  have hopn : opnP T k = true := by unfold opnP; rw [mm]; simp
  have HEE := Lib.hid hE
  have HMAN : Hid (∀ W', LS p tb off cap T fx k op (.slice av nv cv) W' → OwnC (p + 1) (.slice av nv cv) L W' → (∀ W2, Below p W' W2 → Env W2) → Calls Tryz.prog 110 #[.pointer (some ⟨p, 0, none⟩), .agg #[.int .u8 0, .string name, .string ⟨#[]⟩, .int .i64 0, .int .i64 0]] W' (LVE p tb off cap T fx W' (.slice av nv cv) op (manP fx T d name.data.toList k L))) := Lib.hid fun W' hW ho he => hm p tb off cap T fx k op _ L name W' hop h0 hW ho (by omega) hk hopn he
  obtain ⟨R, hR⟩ : ∃ R, manP fx T d name.data.toList k L = R := ⟨_, rfl⟩
  rw [hR] at HMAN ⊢
  clear hE hm hop h0 hopn hR
  have hkk := (mrk_one mm).1
  have m91 : mrkP T k [91] = false := mrk_ne mm (by decide)
  have m123 : mrkP T k [123] = true := mm
  have m36 : mrkP T k [36] = false := mrk_ne mm (by decide)
  have H91 : Hid (∀ W', LS p tb off cap T fx k op (.slice av nv cv) W' → Calls Tryz.prog 82 #[.pointer (some ⟨p, 0, none⟩), .int .u8 4, .string ⟨#[91]⟩] W' fun x w' => x = .returned (.bool false) ∧ Below W'.heap.size W' w') := Lib.hid fun W' hW => by
    have := HIS.out ⟨#[91]⟩ W' hW
    rw [show (⟨#[91]⟩ : ByteArray).data.toList = [91] from rfl, m91] at this; exact this
  have H123 : Hid (∀ W', LS p tb off cap T fx k op (.slice av nv cv) W' → Calls Tryz.prog 82 #[.pointer (some ⟨p, 0, none⟩), .int .u8 4, .string ⟨#[123]⟩] W' fun x w' => x = .returned (.bool true) ∧ Below W'.heap.size W' w') := Lib.hid fun W' hW => by
    have := HIS.out ⟨#[123]⟩ W' hW
    rw [show (⟨#[123]⟩ : ByteArray).data.toList = [123] from rfl, m123] at this; exact this
  have H36 : Hid (∀ W', LS p tb off cap T fx k op (.slice av nv cv) W' → Calls Tryz.prog 82 #[.pointer (some ⟨p, 0, none⟩), .int .u8 4, .string ⟨#[36]⟩] W' fun x w' => x = .returned (.bool false) ∧ Below W'.heap.size W' w') := Lib.hid fun W' hW => by
    have := HIS.out ⟨#[36]⟩ W' hW
    rw [show (⟨#[36]⟩ : ByteArray).data.toList = [36] from rfl, m36] at this; exact this
  obtain ⟨kd, hkd⟩ : ∃ kd : Int, ((lookP T k).kind.toNat : Int) = kd := ⟨_, rfl⟩
  obtain ⟨tb0, htb0⟩ : ∃ b : ByteArray, (⟨(lookP T k).text.toArray⟩ : ByteArray) = b := ⟨_, rfl⟩
  obtain ⟨ps, hps⟩ : ∃ ps : Int, (lookP T k).pos = ps := ⟨_, rfl⟩
  have HTX : Hid (tb0.data.toList = (lookP T k).text) := Lib.hid (by rw [← htb0])
  have HTB := Lib.hid htb0
  unfold tokW at HLK
  rw [hkd, htb0, hps] at HLK
  have hkd2 : kd = 4 := by rw [← hkd, hkk]; rfl
  subst hkd2
  clear hkd htb0 hps hkk hnv mm m91 m123 m36
  cases fx
  case' true =>
    go_enter Tryz.func91, Tryz.ntmps91
    go_wp2_with fail
    refine (HLK.out _ HV0.out.st).mono ?_; rintro x w1 ⟨rfl, hb⟩
    have HV1 := Lib.hid ((HV0.out.below hb).alloc (.cells #[.int .u8 4, .string tb0, .int .i64 ps] 72 (0, 0)))
    have HA1 : Hid ((w1.alloc (.cells #[.int .u8 4, .string tb0, .int .i64 ps] 72 (0, 0))).heap[w1.heap.size]? = some (.cells #[.int .u8 4, .string tb0, .int .i64 ps] 72 (0, 0))) := Lib.hid (heap_alloc_last _ _)
    obtain ⟨A, hA⟩ : ∃ A, w1.heap.size = A := ⟨_, rfl⟩
    rw [hA] at HA1
    have HAZ := Lib.hid hA
    clear hb
    go_wp2_with fail
    refine (H91.out _ HV1.out.st).mono ?_; rintro x w2 ⟨rfl, hb⟩
    have HV2 := Lib.hid (HV1.out.below hb)
    have HA2 := Lib.hid ((hb.block A (heap_lt HA1.out)).trans HA1.out)
    clear hb
    go_wp2_with fail
    refine (H123.out _ HV2.out.st).mono ?_; rintro x w4 ⟨rfl, hb⟩
    have HV4 := Lib.hid (HV2.out.below hb)
    have HA4 := Lib.hid ((hb.block A (heap_lt HA2.out)).trans HA2.out)
    clear hb
  case' false =>
    go_enter Tryz.func91, Tryz.ntmps91
    go_wp2_with fail
    refine (HLK.out _ HV0.out.st).mono ?_; rintro x w1 ⟨rfl, hb⟩
    have HV1 := Lib.hid ((HV0.out.below hb).alloc (.cells #[.int .u8 4, .string tb0, .int .i64 ps] 72 (0, 0)))
    have HA1 : Hid ((w1.alloc (.cells #[.int .u8 4, .string tb0, .int .i64 ps] 72 (0, 0))).heap[w1.heap.size]? = some (.cells #[.int .u8 4, .string tb0, .int .i64 ps] 72 (0, 0))) := Lib.hid (heap_alloc_last _ _)
    obtain ⟨A, hA⟩ : ∃ A, w1.heap.size = A := ⟨_, rfl⟩
    rw [hA] at HA1
    have HAZ := Lib.hid hA
    clear hb
    go_wp2_with fail
    refine (H91.out _ HV1.out.st).mono ?_; rintro x w2 ⟨rfl, hb⟩
    have HV2 := Lib.hid (HV1.out.below hb)
    have HA2 := Lib.hid ((hb.block A (heap_lt HA1.out)).trans HA1.out)
    clear hb
    go_wp2_with fail
    refine (H123.out _ HV2.out.st).mono ?_; rintro x w3 ⟨rfl, hb⟩
    have HV3 := Lib.hid (HV2.out.below hb)
    have HA3 := Lib.hid ((hb.block A (heap_lt HA2.out)).trans HA2.out)
    clear hb
    obtain ⟨c0, c1, c2, c3, c4⟩ := HV3.out.st.cells
    go_wp2_with fail
    refine (H36.out _ HV3.out.st).mono ?_; rintro x w4 ⟨rfl, hb⟩
    have HV4 := Lib.hid (HV3.out.below hb)
    have HA4 := Lib.hid ((hb.block A (heap_lt HA3.out)).trans HA3.out)
    clear hb
    clear c0 c1 c2 c3 c4
  all_goals
    obtain ⟨c0, c1, c2, c3, c4⟩ := HV4.out.st.cells
    obtain ⟨a0, a1, a2⟩ := tcells HA4.out
    have hA4 : A < w4.heap.size := heap_lt HA4.out
    have hp4 : p < w4.heap.size := HV4.out.st.lt
    go_wp2_with fail
    have HVc := Lib.hid (HV4.out.alloc (.cells #[.int .u8 0, .string name, .string ⟨#[]⟩, .int .i64 0, .int .i64 0] 63 (0, 0)))
    refine (HMAN.out _ HVc.out.st HVc.out.own (fun W2 hW2 => HEE.out _ (HVc.out.vk.1.trans hW2))).mono ?_; rintro x y4 hx
    have HX := Lib.hid (LVE.lift HVc.out hx)
    clear hx
    cases R with
    | error e =>
      obtain ⟨hxe, hb⟩ := HX.out.err
      subst hxe
      have HB9 := Lib.hid hb
      clear hb HX
      go_wp2_with fail
      exact ⟨rfl, rfl, HB9.out⟩
    | ok y =>
      obtain ⟨k9, out9⟩ := y
      obtain ⟨hxe, hl9, v9, hv9⟩ := HX.out.ok_
      subst hxe
      have HV9 := Lib.hid hv9
      clear hv9 HX
      go_wp2_with fail
      go_end0
      exact ⟨rfl, hl9, v9, HV9.out⟩
end Go.Proofs.YtgaknbnhmoddcaaGreatDoor
namespace Go.Proofs.YtgaknbnhmoddcaaGreatDoor
open Go.RowKit Go.Lib
section
variable {p tb off cap : Nat} {T : List Tok} {fx : Bool} {k : Nat} {op : Int} {v : Value}
theorem l_mark_yes {what : ByteArray} (hm : mrkP T k what.data.toList = true) (w : World) (h : LS p tb off cap T fx k op v w) (hk : k ≤ 100000) :
    Calls Tryz.prog 84 #[.pointer (some ⟨p, 0, none⟩), .string what] w fun x w' => x = .returned (.bool true) ∧ LS p tb off cap T fx (k + 1) op v w' ∧ RK p w w' := by
  have := l_mark what w h hk
  rw [hm] at this; exact this
theorem l_mark_not {what : ByteArray} (hm : mrkP T k what.data.toList = false) (w : World) (h : LS p tb off cap T fx k op v w) (hk : k ≤ 100000) :
    Calls Tryz.prog 84 #[.pointer (some ⟨p, 0, none⟩), .string what] w fun x w' => x = .returned (.bool false) ∧ LS p tb off cap T fx k op v w' ∧ RK p w w' := by
  have := l_mark what w h hk
  rw [hm] at this; exact this
theorem l_must_yes {what : ByteArray} (hm : mrkP T k what.data.toList = true) (w : World) (h : LS p tb off cap T fx k op v w) (hk : k ≤ 100000) :
    Calls Tryz.prog 85 #[.pointer (some ⟨p, 0, none⟩), .string what] w fun x w' => x = .returned (.tuple #[]) ∧ LS p tb off cap T fx (k + 1) op v w' ∧ RK p w w' := by
  have := l_must what w h hk
  rw [hm] at this; exact this
theorem l_must_not {what : ByteArray} (hm : mrkP T k what.data.toList = false) (w : World) (h : LS p tb off cap T fx k op v w) (hk : k ≤ 100000) :
    Calls Tryz.prog 85 #[.pointer (some ⟨p, 0, none⟩), .string what] w fun x w' => x = .panicked (stopP (180, k)) ∧ Below p w w' := by
  have := l_must what w h hk
  rw [hm] at this; exact this
theorem l_name_yes {s : List UInt8} (bm : Nat) (nm : List (List UInt8)) (hn : namP nm T k = .ok s) (w : World) (h : LS p tb off cap T fx k op v w) (hk : k ≤ 100000) (hM : NamesM bm nm w) (hpb : p < bm) (hnm : nm.length < 1000000) :
    Calls Tryz.prog 86 #[.pointer (some ⟨p, 0, none⟩), .map (some bm)] w fun x w' => x = .returned (.string ⟨s.toArray⟩) ∧ LS p tb off cap T fx (k + 1) op v w' ∧ NamesM bm (s :: nm) w' ∧ MK p bm w w' := by
  have := l_name bm nm w h hk hM hpb hnm
  rw [hn] at this; exact this
theorem l_name_not {e : ErrP} (bm : Nat) (nm : List (List UInt8)) (hn : namP nm T k = .error e) (w : World) (h : LS p tb off cap T fx k op v w) (hk : k ≤ 100000) (hM : NamesM bm nm w) (hpb : p < bm) (hnm : nm.length < 1000000) :
    Calls Tryz.prog 86 #[.pointer (some ⟨p, 0, none⟩), .map (some bm)] w fun x w' => x = .panicked (stopP e) ∧ Below p w w' := by
  have := l_name bm nm w h hk hM hpb hnm
  rw [hn] at this; exact this
end
def finP (at_ : Nat) : Except ErrP (Nat × Nat × List Cel) → Except ErrP (Nat × List Cel)
  | .error e => .error e
  | .ok (n, a2, o2) => .ok (a2, manyAt at_ n o2)
section
variable {p bm C tb off cap : Nat} {T : List Tok} {fx : Bool} {w : World} {v0 v : Value} {out : List Cel} {k k' : Nat} {op op' : Int} {nm nm' : List (List UInt8)} {cc : Array Value} {W W' : World}
theorem LI.cset (h : LI p bm C tb off cap T fx w v0 v out k op nm cc W) (i : Nat) (u : Value) (cc' : Array Value) (hc : cc.setIfInBounds i u = cc') : LI p bm C tb off cap T fx w v0 v out k op nm cc' (W.setCell ⟨C, i, none⟩ u) := by
  have h1 := h.lo; have h2 := h.lt; have h3 := h.pl
  refine ⟨h.vp.other C i u h.lo (by omega) h.nc, h.nm.keep (Below.heap_setCell _ _ _ _ (by show bm ≠ C; omega)), ?_, h.lo, h.lt, h.pl, h.ne, h.nc⟩
  exact pset h.cc u (by rw [← hc])
theorem LI.grown {v' : Value} {out' : List Cel} {H : Nat} (h : LI p bm C tb off cap T fx w v0 v out k op nm cc W) (ho : OwnC (p + 1) v' out' W') (hg : W.grownBy W' v.ownBlock) (hat : v'.ownBlock = v.ownBlock ∨ v'.ownBlock = some H) (hH : W.heap.size = H) : LS p tb off cap T fx k op v W' ∧ LI p bm C tb off cap T fx w v0 v' out' k op nm cc (W'.setCell ⟨p, 4, none⟩ v') := by
  have h1 := h.lo; have h2 := h.lt; have h3 := h.pl
  have hlc := heap_lt h.cc
  have hlb := h.nm.lt
  obtain ⟨hs, hl⟩ := h.vp.grown ho hg hat hH
  refine ⟨hs, hl, (h.nm.grown hg (fun e => h.ne e.symm)).rk (RK.set p 4 _ _) (by omega), ?_, h.lo, h.lt, h.pl, fun e => ?_, fun e => ?_⟩
  · rw [Below.heap_setCell _ _ _ _ (by show C ≠ p; omega), hg.block C hlc (fun e => h.nc e.symm)]; exact h.cc
  · rcases hat with e1 | e1
    · exact h.ne (e1 ▸ e)
    · rw [e1] at e; injection e with e; omega
  · rcases hat with e1 | e1
    · exact h.nc (e1 ▸ e)
    · rw [e1] at e; injection e with e; omega
end
end Go.Proofs.YtgaknbnhmoddcaaGreatDoor
namespace Go.Proofs.YtgaknbnhmoddcaaGreatDoor
open Go.RowKit Go.Lib
set_option maxRecDepth 100000 in
set_option maxHeartbeats 4000000 in
theorem l_many_obj_0 (p tb off cap : Nat) (T : List Tok) (fx : Bool) (k : Nat) (op : Int) (v : Value) (L : List Cel) (name : ByteArray) (W : World) (hop : op + (0 : Int) = 16) (h : LS p tb off cap T fx k op v W) (hown : OwnC (p + 1) v L W) (hL : L.length ≤ 2047) (hk : k ≤ 100000) (mm : mrkP T k [123] = true) :
    Calls Tryz.prog 110 #[.pointer (some ⟨p, 0, none⟩), .agg #[.int .u8 0, .string name, .string ⟨#[]⟩, .int .i64 0, .int .i64 0]] W (LVE p tb off cap T fx W v op (manP fx T 0 name.data.toList k L)) := by
  have HV0 : Hid (LV p tb off cap T fx W v v L k op W) := Lib.hid ⟨h, hown, VK.refl _ _ _, fun k hk => Or.inl hk⟩
  have m123 : mrkP T k [123] = true := mm
  have HIS : Hid (∀ W', LS p tb off cap T fx k op v W' → Calls Tryz.prog 82 #[.pointer (some ⟨p, 0, none⟩), .int .u8 4, .string ⟨#[123]⟩] W' fun x w' => x = .returned (.bool true) ∧ Below W'.heap.size W' w') := Lib.hid fun W' hW => by
    have := l_is ⟨#[123]⟩ W' hW
    rw [show (⟨#[123]⟩ : ByteArray).data.toList = [123] from rfl, m123] at this; exact this
  have HNO := Lib.hid (fun (e : Int) (W : World) (hW : LS p tb off cap T fx k op v W) => l_no e W hW)
  have hw1 : IntKind.i64.wrap ((k : Int) + 1) = (k : Int) + 1 := IntWalk.i64_in _ (by omega)
  have hkT := mrk_lt mm
  have hvl : ∃ a n c, v = .slice a n c ∧ n = L.length := by
    rcases HV0.out.own.2 with ⟨h1, h2⟩ | ⟨g, cap, cur, h1, _⟩
    · exact ⟨none, 0, 0, h1, h2.symm⟩
    · exact ⟨_, _, _, h1, rfl⟩
  obtain ⟨av, nv, cv, rfl, hnv⟩ := hvl
  have HNV := Lib.hid hnv
  have hnv8 : nv ≤ 2047 := by omega
  have t16 : (op == 16) = true := by rw [beq_iff_eq]; omega
  have HV1 := Lib.hid (HV0.out.alloc (.cells #[.int .u8 0, .string name, .string ⟨#[]⟩, .int .i64 0, .int .i64 0] 63 (0, 0)))
  have hp1 : p ≤ (W.alloc (.cells #[.int .u8 0, .string name, .string ⟨#[]⟩, .int .i64 0, .int .i64 0] 63 (0, 0))).heap.size := Nat.le_of_lt HV1.out.st.lt
  obtain ⟨c0, c1, c2, c3, c4⟩ := HV1.out.st.cells
  clear h hown hop hnv hkT mm m123
  go_enter Tryz.func110, Tryz.ntmps110
  go_wp2_with fail
  refine (HNO.out _ _ HV1.out.st).mono ?_; rintro x w2 ⟨rfl, hb⟩
  have HB9 := Lib.hid (HV1.out.vk.1.trans (hb.mono hp1))
  clear hb
  go_wp2_with fail
  exact ⟨rfl, rfl, HB9.out⟩
set_option maxRecDepth 100000 in
set_option maxHeartbeats 8000000 in
theorem l_many_obj (d : Nat) (hval : LValSpec d) (p tb off cap : Nat) (T : List Tok) (fx : Bool) (k : Nat) (op : Int) (v : Value) (L : List Cel) (name : ByteArray) (W : World) (hop : op + ((d + 1 : Nat) : Int) = 16) (h0 : 0 ≤ op) (h : LS p tb off cap T fx k op v W) (hown : OwnC (p + 1) v L W) (hL : L.length ≤ 2047) (hk : k ≤ 100000) (mm : mrkP T k [123] = true) (hE : ∀ W', Below p W W' → Env W') :
    Calls Tryz.prog 110 #[.pointer (some ⟨p, 0, none⟩), .agg #[.int .u8 0, .string name, .string ⟨#[]⟩, .int .i64 0, .int .i64 0]] W (LVE p tb off cap T fx W v op (manP fx T (d + 1) name.data.toList k L)) := by
  have HV0 : Hid (LV p tb off cap T fx W v v L k op W) := Lib.hid ⟨h, hown, VK.refl _ _ _, fun k hk => Or.inl hk⟩
  have m123 : mrkP T k [123] = true := mm
  have HIS : Hid (∀ W', LS p tb off cap T fx k op v W' → Calls Tryz.prog 82 #[.pointer (some ⟨p, 0, none⟩), .int .u8 4, .string ⟨#[123]⟩] W' fun x w' => x = .returned (.bool true) ∧ Below W'.heap.size W' w') := Lib.hid fun W' hW => by
    have := l_is ⟨#[123]⟩ W' hW
    rw [show (⟨#[123]⟩ : ByteArray).data.toList = [123] from rfl, m123] at this; exact this
  have HNO := Lib.hid (fun (e : Int) (W : World) (hW : LS p tb off cap T fx k op v W) => l_no e W hW)
  have hw1 : IntKind.i64.wrap ((k : Int) + 1) = (k : Int) + 1 := IntWalk.i64_in _ (by omega)
  have hkT := mrk_lt mm
  have hvl : ∃ a n c, v = .slice a n c ∧ n = L.length := by
    rcases HV0.out.own.2 with ⟨h1, h2⟩ | ⟨g, cap, cur, h1, _⟩
    · exact ⟨none, 0, 0, h1, h2.symm⟩
    · exact ⟨_, _, _, h1, rfl⟩
  obtain ⟨av, nv, cv, rfl, hnv⟩ := hvl
  have HNV := Lib.hid hnv
  have hnv8 : nv ≤ 2047 := by omega
  have t16 : (op == 16) = false := by rw [beq_eq_false_iff_ne]; omega
  have q6 : IntKind.i64.wrap (op + 1) = op + 1 := IntWalk.i64_in _ (by omega)
  have hop9 : op ≤ 16 := by omega
  have hT8 := HV0.out.st.2.2.2.1.1
  have hpl := h.lt
  have HEE := Lib.hid hE
  have HVL : Hid (∀ (s : ByteArray) (k1 : Nat) (out : List Cel) (v1 : Value) (W' : World), LS p tb off cap T fx k1 (op + 1) v1 W' → OwnC (p + 1) v1 out W' → out.length ≤ 2048 → k1 ≤ 100000 → (∀ W2, Below p W' W2 → Env W2) → Calls Tryz.prog 91 #[.pointer (some ⟨p, 0, none⟩), .string s] W' (LVE p tb off cap T fx W' v1 (op + 1) (valP fx T d s.data.toList k1 out))) := Lib.hid fun s k1 out v1 W' h1 h2 h3 h4 h5 =>
    hval p tb off cap T fx k1 (op + 1) v1 out s W' (by omega) (by omega) h1 h2 h3 h4 h5
  obtain ⟨Z, hZ⟩ : ∃ Z, manP fx T (d + 1) name.data.toList k L = Z := ⟨_, rfl⟩
  have HZ0 : Hid (finP nv (itmP (valP fx T d) true T (T.length + 1) 0 [] (k + 1) (L ++ [⟨7, name.data.toList, [], 0, 0⟩])) = Z) := Lib.hid (by
    rw [← hZ]; unfold manP; simp only [m123, if_true, hnv, Bool.false_eq_true, if_false]; rfl)
  have hol : (L ++ [(⟨7, name.data.toList, [], 0, 0⟩ : Cel)]).length = nv + 1 := by simp [hnv]
  have hl0 : manyAt nv 0 (L ++ [(⟨7, name.data.toList, [], 0, 0⟩ : Cel)]) = L ++ [⟨7, name.data.toList, [], 0, 0⟩] := many_last nv L _ hnv rfl
  have HL0 := Lib.hid hl0
  rw [hZ]
  obtain ⟨C, hC⟩ : ∃ C, W.heap.size = C := ⟨_, rfl⟩
  have HI0 : Hid (LI p (C + 1) C tb off cap T fx W (.slice av nv cv) (.slice av nv cv) L k op [] #[.int .u8 6, .string name, .string ⟨#[]⟩, .int .i64 0, .int .i64 0] ((W.alloc (.cells #[.int .u8 6, .string name, .string ⟨#[]⟩, .int .i64 0, .int .i64 0] 63 (0, 0))).alloc (.map #[] 0))) := Lib.hid (by
    have ho : ∀ j, C ≤ j → (Value.slice av nv cv).ownBlock ≠ some j := fun j hj e => by
      have := (World.ownsRow.lt HV0.out.own j e).2; omega
    have h1 := (HV0.out.alloc (.cells #[.int .u8 6, .string name, .string ⟨#[]⟩, .int .i64 0, .int .i64 0] 63 (0, 0))).alloc (.map #[] 0)
    have hsz : (W.alloc (.cells #[.int .u8 6, .string name, .string ⟨#[]⟩, .int .i64 0, .int .i64 0] 63 (0, 0))).heap.size = C + 1 := by simp [hC]
    refine ⟨h1, ?_, ?_, by omega, Nat.lt_succ_self C, hpl, ho (C + 1) (by omega), ho C (Nat.le_refl _)⟩
    · have := NamesM.made (W.alloc (.cells #[.int .u8 6, .string name, .string ⟨#[]⟩, .int .i64 0, .int .i64 0] 63 (0, 0)))
      rw [hsz] at this; exact this
    · refine heap_old ?_
      rw [← hC]; exact heap_alloc_last _ _)
  obtain ⟨bm, hbm⟩ : ∃ bm, C + 1 = bm := ⟨_, rfl⟩
  rw [hbm] at HI0
  have HV1 := Lib.hid (HV0.out.alloc (.cells #[.int .u8 0, .string name, .string ⟨#[]⟩, .int .i64 0, .int .i64 0] 63 (0, 0)))
  obtain ⟨c0, c1, c2, c3, c4⟩ := HV1.out.st.cells
  have hmm := @run_makeMap Tryz.prog
  clear h hown hop hZ hval hE hnv mm m123 hl0
  go_enter Tryz.func110, Tryz.ntmps110
  go_wp2_with fail
  try simp only [hC, hbm]
  refine (HIS.out _ HI0.out.vp.st).mono ?_; rintro x w1 ⟨rfl, hb⟩
  have HI1 := Lib.hid (HI0.out.below hb)
  clear hb c0 c1 c2 c3 c4 hmm HV1
  have HI2 := Lib.hid (HI1.out.cset 0 (.int .u8 7) #[.int .u8 7, .string name, .string ⟨#[]⟩, .int .i64 0, .int .i64 0] rfl)
  have g0 := Lib.frozen_of_heap HI1.out.cc 0
  obtain ⟨q0, q1, q2, q3, q4⟩ := ccells HI1.out.cc
  obtain ⟨c0, c1, c2, c3, c4⟩ := HI1.out.vp.st.cells
  go_upto_region 8 with fail
  obtain ⟨y5, hy5⟩ : ∃ y5, w1.setCell ⟨C, 0, none⟩ (.int .u8 7) = y5 := ⟨_, rfl⟩
  rw [hy5] at HI2 ⊢
  clear hy5 g0 q0 q1 q2 q3 q4 c0 c1 c2 c3 c4
  have HY5 := HI2
  have HCEL : Hid (celCells ⟨7, name.data.toList, [], 0, 0⟩ = #[.int .u8 7, .string name, .string ⟨#[]⟩, .int .i64 0, .int .i64 0]) := Lib.hid (by rfl)
  go_cut [] (fun wx => ∃ g6 cap6, p < g6 ∧ Hid (LI p bm C tb off cap T fx W (.slice av nv cv) (.slice (some ⟨g6, 0, none⟩) (nv + 1) cap6) (manyAt nv 0 (L ++ [⟨7, name.data.toList, [], 0, 0⟩])) k op [] #[.int .u8 7, .string name, .string ⟨#[]⟩, .int .i64 0, .int .i64 0] wx))
  case first =>
    have hlt5 := HY5.out.vp.st.lt
    have hC5 := heap_lt HY5.out.cc
    obtain ⟨_, _, _, _, c4⟩ := HY5.out.vp.st.cells
    have e4 : y5.drew.cell? ⟨p, 4, none⟩ = some (.slice av nv cv) := c4
    have e4' : ∀ o, (y5.drew.alloc o).cell? ⟨p, 4, none⟩ = some (.slice av nv cv) := fun o => by
      rw [World.cell?_alloc_lt _ _ _ (by exact hlt5)]; exact c4
    obtain ⟨q0, q1, q2, q3, q4⟩ := ccells (W := y5.drew) HY5.out.cc
    refine wp_region_held_drew (S := fun _ => True) (by kernel_rfl) trivial (fun hHeld => ?_)
    refine tky 0 (some 29) (v := ?_) rfl (by kernel_rfl) (by kernel_rfl) (by kernel_rfl) (fun _ _ _ h => h) ?_ hHeld ?_
    rotate_left
    focus (intro w hSw; go_simp; (try with_reducible rfl); done)
    go_frame
    refine tky 1 (some 30) (v := ?_) rfl (by kernel_rfl) (by kernel_rfl) (by kernel_rfl) (fun _ _ _ h => h) ?_ hHeld ?_
    rotate_left
    focus (intro w hSw; go_simp; (try with_reducible rfl); done)
    go_frame
    refine tky 2 (some 31) (v := ?_) rfl (by kernel_rfl) (by kernel_rfl) (by kernel_rfl) (fun _ _ _ h => h) ?_ hHeld ?_
    rotate_left
    focus (intro w hSw; go_simp; (try with_reducible rfl); done)
    go_frame
    refine tky 3 (some 32) (v := ?_) rfl (by kernel_rfl) (by kernel_rfl) (by kernel_rfl) (fun _ _ _ h => h) ?_ hHeld ?_
    rotate_left
    focus (intro w hSw; go_simp; (try with_reducible rfl); done)
    go_frame
    refine wpAnyH_ready (rs := [4, 5]) (by kernel_rfl) (by simp) ?_
    refine acons 4 rfl (fun K hK => ?_) ?_
    go_simp
    refine hK.out _ _ trivial (fun _ => ?_)
    clear hK K
    (try go_frame)
    refine rcons 5 rfl (by kernel_rfl) (fun K hK => ?_)
    go_simp
    refine hK.out _ _ trivial (fun _ => ?_)
    clear hK K
    (try go_frame)
    refine rcons 6 rfl (by kernel_rfl) (fun K hK => ?_)
    go_simp
    refine hK.out _ _ trivial (fun _ => ?_)
    clear hK K
    (try go_frame)
    rotate_left
    refine acons 5 rfl (fun K hK => ?_) ?_
    go_simp
    refine hK.out _ _ trivial (fun _ => ?_)
    clear hK K
    (try go_frame)
    refine wpAnyH_ready (rs := [4, 6]) (by kernel_rfl) (by simp) ?_
    refine acons 4 rfl (fun K hK => ?_) ?_
    go_simp
    refine hK.out _ _ trivial (fun _ => ?_)
    clear hK K
    (try go_frame)
    refine rcons 6 rfl (by kernel_rfl) (fun K hK => ?_)
    go_simp
    refine hK.out _ _ trivial (fun _ => ?_)
    clear hK K
    (try go_frame)
    rotate_left
    refine acons 6 rfl (fun K hK => ?_) ?_
    go_simp
    refine hK.out _ _ trivial (fun _ => ?_)
    clear hK K
    (try go_frame)
    refine rcons 4 rfl (by kernel_rfl) (fun K hK => ?_)
    go_simp
    refine hK.out _ _ trivial (fun _ => ?_)
    clear hK K
    (try go_frame)
    rotate_left
    exact AllReadyH.nil
    exact AllReadyH.nil
    all_goals
      refine rcons 7 rfl (by kernel_rfl) (fun K hK => ?_)
      rw [if_pos]
      rotate_left
      focus kernel_rfl
      refine wp_pushL _ _ rfl (p + 1) (.slice av nv cv) L rfl (by exact ((HY5.out.vp.drewN 1).alloc _).own) y5.heap.size 1 ⟨7, name.data.toList, [], 0, 0⟩ rfl (by rw [HCEL.out]; exact heap_alloc_last y5.drew _) (by omega) (by show _ ≤ Array.size _; simp; omega) ?_
      intro v' y6 hown' hgrow hat
      obtain ⟨g6, cap6, hvg, hpg6, -⟩ := hown'.form L.length (by simp)
      rw [hol] at hvg
      subst hvg
      have hbl : Below y5.heap.size y5 (World.alloc y5.drew (.cells #[.int .u8 7, .string name, .string ⟨#[]⟩, .int .i64 0, .int .i64 0] 63 (0, 0))) := (below_dN 1 (Below.refl y5.heap.size y5)).alloc (Nat.le_refl _) _
      obtain ⟨hst6, hy6⟩ := (HY5.out.below hbl).grown hown' hgrow hat rfl
      have HY6 := Lib.hid hy6
      obtain ⟨_, _, _, _, g4⟩ := hst6.cells
      have f6 := hst6.frozen 4
      clear hown' hgrow hat hst6 hy6 hbl
      (try dsimp only)
      refine hK.out _ _ trivial (fun _ => ?_)
      clear hK K
      (try go_frame)
      refine tky 8 (some 37) (v := ?_) rfl (by kernel_rfl) (by kernel_rfl) (by kernel_rfl) (fun _ _ _ h => h) ?_ hHeld ?_
      rotate_left
      focus (intro w hSw; go_simp; (try with_reducible rfl); done)
      go_frame
      refine tky 9 (some 38) (v := ?_) rfl (by kernel_rfl) (by kernel_rfl) (by kernel_rfl) (fun _ _ _ h => h) ?_ hHeld ?_
      rotate_left
      focus (intro w hSw; go_simp; (try with_reducible rfl); done)
      go_frame
      refine rcons 10 rfl (by kernel_rfl) (fun K hK => ?_)
      go_simp
      refine hK.out _ _ trivial (fun _ => ?_)
      clear hK K
      (try go_frame)
      refine wpAnyH_done (by kernel_rfl) ?_ _
      go_wp2_with fail
      go_meet
      exact ⟨g6, cap6, hpg6, by rw [HL0.out]; exact HY6⟩
  case rest =>
    obtain ⟨g6, cap6, hpg6, HY6⟩ := hcut
    obtain ⟨c0, c1, c2, c3, c4⟩ := HY6.out.vp.st.cells
    have f1 := HY6.out.vp.st.frozen 1
    have f2 := HY6.out.vp.st.frozen 2
    have f3 := HY6.out.vp.st.frozen 3
    have HY8 := Lib.hid ((HY6.out.go (k + 1) (by omega)).op_ (op + 1))
    go_wp2_with fail
    go_loopg [7] (T.length + 1) (fun gk nm7 wr => ∃ (n k1 : Nat) (nm : List (List UInt8)) (out : List Cel) (v1 : Value), k1 ≤ T.length ∧ T.length + 1 < gk + k1 ∧ n + nv < out.length ∧ nm.length ≤ n ∧ out.length ≤ 2048 ∧ Hid (LI p bm C tb off cap T fx W (.slice av nv cv) v1 (manyAt nv n out) k1 (op + 1) nm #[.int .u8 7, .string name, .string ⟨#[]⟩, .int .i64 0, .int .i64 0] wr) ∧ Hid (finP nv (itmP (valP fx T d) true T gk n nm k1 out) = Z))
    case atStart => exact ⟨0, k + 1, [], _, _, by omega, by omega, by rw [hol]; omega, Nat.le_refl _, by rw [hol]; omega, HY8, HZ0⟩
    case round =>
      clear c0 c1 c2 c3 c4 f1 f2 f3 HY6 HY8 HZ0 HI0 HI1 HI2 HY5 HL0
      rename World => wr
      obtain ⟨n, k1, nm, out, v1, hkT, hg, hn, hnm, hout, HI, HQ⟩ := hrel
      obtain ⟨g, rfl⟩ : ∃ g, gk = g + 1 := ⟨gk - 1, by omega⟩
      have hpb : p < bm := by have := HI.out.lo; have := HI.out.lt; have := HI.out.pl; omega
      cases ht : mrkP T k1 [125] with
      | true =>
        have HZ : Hid (.ok (k1 + 1, manyAt nv n out) = Z) := Lib.hid (by have := HQ.out; rw [itmP_end (isO := true) ht] at this; exact this)
        go_wp2_with fail
        refine (l_mark_yes (what := ⟨#[125]⟩) ht _ HI.out.vp.st (by omega)).mono ?_; rintro x w3 ⟨rfl, hst, hk3⟩
        have HI3 := Lib.hid (HI.out.rk hst hk3)
        clear hst hk3 ht HQ HI
        obtain ⟨c0, c1, c2, c3, c4⟩ := HI3.out.vp.st.cells
        have f3 := HI3.out.vp.st.frozen 3
        have q7 : IntKind.i64.wrap (op + 1 - 1) = op := by rw [IntWalk.i64_in _ (by omega)]; omega
        have q8 : op + 1 - 1 = op := by omega
        have q9 : IntKind.i64.wrap op = op := IntWalk.i64_in _ (by omega)
        have HV4 := Lib.hid (HI3.out.vp.op_ op)
        go_wp2_with fail
        go_end0
        rw [← HZ.out]
        exact ⟨rfl, by rw [manyln]; exact hout, _, HV4.out⟩
      | false =>
        have HQ1 := Lib.hid (itmP_go (val := valP fx T d) (isO := true) (f := g) (n := n) (nm := nm) (out := out) ht)
        rw [HQ1.out] at HQ
        clear HQ1
        go_wp2_with fail
        refine (l_mark_not (what := ⟨#[125]⟩) ht _ HI.out.vp.st (by omega)).mono ?_; rintro x w3 ⟨rfl, hst, hk3⟩
        have HI3 := Lib.hid (HI.out.rk hst hk3)
        clear hst hk3 ht HI
        obtain ⟨q0, q1, q2, q3, q4⟩ := ccells HI3.out.cc
        go_wp2_with fail
        cases hna : namP nm T k1 with
        | error e =>
          have hme : memP nm T k1 = .error e := by unfold memP; rw [hna]
          have HZ : Hid (.error e = Z) := Lib.hid (by have := HQ.out; simp only [if_true, hme] at this; exact this)
          refine (l_name_not bm nm hna _ HI3.out.vp.st (by omega) HI3.out.nm hpb (by omega)).mono ?_; rintro x w4 ⟨rfl, hb⟩
          have HB4 := Lib.hid (HI3.out.vp.vk.1.trans hb)
          clear hb hna hme HQ
          go_wp2_with fail
          refine ⟨rfl, ?_⟩
          rw [← HZ.out]
          exact ⟨rfl, HB4.out⟩
        | ok s =>
          have hk2 := (nam_lt hna).1
          have hme : memP nm T k1 = if mrkP T (k1 + 1) [58] then .ok (s, k1 + 2) else .error (180, k1 + 1) := by unfold memP; rw [hna]
          refine (l_name_yes bm nm hna _ HI3.out.vp.st (by omega) HI3.out.nm hpb (by omega)).mono ?_; rintro x w4 ⟨rfl, hst, hnm4, hmk⟩
          have HI4 := Lib.hid (HI3.out.mk_ hst hnm4 hmk)
          clear hst hnm4 hmk hna q0 q1 q2 q3 q4
          go_wp2_with fail
          cases hc : mrkP T (k1 + 1) [58] with
          | false =>
            rw [hc] at hme
            have HZ : Hid (.error (180, k1 + 1) = Z) := Lib.hid (by have := HQ.out; simp only [if_true, hme, Bool.false_eq_true, if_false] at this; exact this)
            refine (l_must_not (what := ⟨#[58]⟩) hc _ HI4.out.vp.st (by omega)).mono ?_; rintro x w5 ⟨rfl, hb⟩
            have HB5 := Lib.hid (HI4.out.vp.vk.1.trans hb)
            clear hb hc hme HQ
            go_wp2_with fail
            refine ⟨rfl, ?_⟩
            rw [← HZ.out]
            exact ⟨rfl, HB5.out⟩
          | true =>
            have hcT := mrk_lt hc
            rw [hc] at hme
            simp only [if_true, hme] at HQ
            refine (l_must_yes (what := ⟨#[58]⟩) hc _ HI4.out.vp.st (by omega)).mono ?_; rintro x w5 ⟨rfl, hst, hk5⟩
            have HI5 := Lib.hid (HI4.out.rk hst hk5)
            clear hst hk5 hc hme
            rw [show k1 + 1 + 1 = k1 + 2 from rfl] at HI5
            go_wp2_with fail
            have HVA := Lib.hid (HVL.out ⟨s.toArray⟩ (k1 + 2) (manyAt nv n out) v1 _ HI5.out.vp.st HI5.out.vp.own (by rw [manyln]; exact hout) (by omega) (fun W2 h2 => HEE.out _ (HI5.out.vp.vk.1.trans h2)))
            have hal := val_alk fx T d (s) (k1 + 2) (manyAt nv n out) out (manyln _ _ _)
            have hon := val_on fx T d (s) (k1 + 2) (manyAt nv n out)
            rw [show (⟨s.toArray⟩ : ByteArray).data.toList = s from rfl] at HVA
            cases hx : valP fx T d (s) (k1 + 2) (manyAt nv n out) with
            | error e =>
              rw [hx] at HVA hal
              have hal2 : valP fx T d (s) (k1 + 2) out = .error e := hal
              have HZ : Hid (.error e = Z) := Lib.hid (by have := HQ.out; simp only [hal2] at this; exact this)
              clear hx hal hal2 hon HQ
              refine HVA.out.mono ?_; rintro x wb hvx
              obtain ⟨hxe, hbb⟩ := hvx.err
              have HBB := Lib.hid (HI5.out.vp.vk.1.trans hbb)
              clear hvx hbb
              subst hxe
              go_wp2_with fail
              refine ⟨rfl, ?_⟩
              rw [← HZ.out]
              exact ⟨rfl, HBB.out⟩
            | ok y =>
              obtain ⟨k4, out4⟩ := y
              obtain ⟨hk4, hk4T⟩ := hon _ _ hx
              rw [hx] at HVA hal
              obtain ⟨new, rfl, hnew, hal2⟩ := hal
              have HQ4 : Hid (finP nv (itmP (valP fx T d) true T g (n + 1) (s :: nm) k4 (out ++ new)) = Z) := Lib.hid (by have := HQ.out; simp only [hal2] at this; exact this)
              rw [many_app2 nv n out new (by omega)] at HVA
              clear hx hal2 HQ
              refine HVA.out.mono ?_; rintro x wb hvx
              obtain ⟨hxe, ho2, v2, hvp⟩ := hvx.ok_
              have HIB := Lib.hid (HI5.out.val hvp)
              clear hvx hvp HVA
              subst hxe
              have hol2 : (out ++ new).length ≤ 2048 := by rw [manyln] at ho2; exact ho2
              have hln : n + 1 + nv < (out ++ new).length := by rw [List.length_append]; omega
              clear ho2
              generalize out ++ new = X at HIB HQ4 hol2 hln
              have hkl : nv < (manyAt nv n X).length := by rw [manyln]; omega
              obtain ⟨g1, cap1, hv1, hBg, hgl, hfz, ck0, ck2, ck3, ck4⟩ := HIB.out.vp.own.form nv hkl
              rw [many_at] at ck4
              have hff := hfz (nv * 5 + 4)
              have hpg1 : p < g1 := by omega
              have HIC := Lib.hid (HIB.out.set (u := .int .i64 ((n + 1 : Nat) : Int)) (i := nv * 5 + 4) (out' := manyAt nv (n + 1) X) hv1 hpg1 (by rw [manyln, manyln]) (by rw [← many_many nv n (n + 1) X]; exact celFlat_set4 _ _ _))
              rw [manyln] at hv1
              obtain ⟨n6, hn6⟩ : ∃ n6, X.length = n6 := ⟨_, rfl⟩
              rw [hn6] at hv1
              obtain ⟨d0, d1, d2, d3, d4⟩ := HIB.out.vp.st.cells
              have q10 : (nv : Int) < (n6 : Int) := by omega
              have q11 : (nv : Int).toNat = nv := by omega
              have q12 : (0 : Int) ≤ (nv : Int) := by omega
              have q13 : nv < n6 := by omega
              have q14 : IntKind.i64.wrap ((n : Int) + 1) = ((n + 1 : Nat) : Int) := by rw [IntWalk.i64_in _ (by omega)]; omega
              clear ck0 ck2 ck3 hfz hn6
              subst hv1
              go_wp2_with fail
              go_roundg g
              case measure => omega
              case rel => exact ⟨n + 1, k4, (s :: nm), X, _, hk4T, by omega, hln, by first | omega | (simp; omega), hol2, HIC, HQ4⟩
end Go.Proofs.YtgaknbnhmoddcaaGreatDoor
namespace Go.Proofs.YtgaknbnhmoddcaaGreatDoor
open Go.RowKit Go.Lib
set_option maxRecDepth 100000 in
set_option maxHeartbeats 4000000 in
theorem l_many_list_0 (p tb off cap : Nat) (T : List Tok) (fx : Bool) (k : Nat) (op : Int) (v : Value) (L : List Cel) (name : ByteArray) (W : World) (hop : op + (0 : Int) = 16) (h : LS p tb off cap T fx k op v W) (hown : OwnC (p + 1) v L W) (hL : L.length ≤ 2047) (hk : k ≤ 100000) (mm : mrkP T k [91] = true) :
    Calls Tryz.prog 110 #[.pointer (some ⟨p, 0, none⟩), .agg #[.int .u8 0, .string name, .string ⟨#[]⟩, .int .i64 0, .int .i64 0]] W (LVE p tb off cap T fx W v op (manP fx T 0 name.data.toList k L)) := by
  have HV0 : Hid (LV p tb off cap T fx W v v L k op W) := Lib.hid ⟨h, hown, VK.refl _ _ _, fun k hk => Or.inl hk⟩
  have m123 : mrkP T k [123] = false := mrk_ne mm (by decide)
  have HIS : Hid (∀ W', LS p tb off cap T fx k op v W' → Calls Tryz.prog 82 #[.pointer (some ⟨p, 0, none⟩), .int .u8 4, .string ⟨#[123]⟩] W' fun x w' => x = .returned (.bool false) ∧ Below W'.heap.size W' w') := Lib.hid fun W' hW => by
    have := l_is ⟨#[123]⟩ W' hW
    rw [show (⟨#[123]⟩ : ByteArray).data.toList = [123] from rfl, m123] at this; exact this
  have HNO := Lib.hid (fun (e : Int) (W : World) (hW : LS p tb off cap T fx k op v W) => l_no e W hW)
  have hw1 : IntKind.i64.wrap ((k : Int) + 1) = (k : Int) + 1 := IntWalk.i64_in _ (by omega)
  have hkT := mrk_lt mm
  have hvl : ∃ a n c, v = .slice a n c ∧ n = L.length := by
    rcases HV0.out.own.2 with ⟨h1, h2⟩ | ⟨g, cap, cur, h1, _⟩
    · exact ⟨none, 0, 0, h1, h2.symm⟩
    · exact ⟨_, _, _, h1, rfl⟩
  obtain ⟨av, nv, cv, rfl, hnv⟩ := hvl
  have HNV := Lib.hid hnv
  have hnv8 : nv ≤ 2047 := by omega
  have t16 : (op == 16) = true := by rw [beq_iff_eq]; omega
  have HV1 := Lib.hid (HV0.out.alloc (.cells #[.int .u8 0, .string name, .string ⟨#[]⟩, .int .i64 0, .int .i64 0] 63 (0, 0)))
  have hp1 : p ≤ (W.alloc (.cells #[.int .u8 0, .string name, .string ⟨#[]⟩, .int .i64 0, .int .i64 0] 63 (0, 0))).heap.size := Nat.le_of_lt HV1.out.st.lt
  obtain ⟨c0, c1, c2, c3, c4⟩ := HV1.out.st.cells
  clear h hown hop hnv hkT mm m123
  go_enter Tryz.func110, Tryz.ntmps110
  go_wp2_with fail
  refine (HNO.out _ _ HV1.out.st).mono ?_; rintro x w2 ⟨rfl, hb⟩
  have HB9 := Lib.hid (HV1.out.vk.1.trans (hb.mono hp1))
  clear hb
  go_wp2_with fail
  exact ⟨rfl, rfl, HB9.out⟩
set_option maxRecDepth 100000 in
set_option maxHeartbeats 8000000 in
theorem l_many_list (d : Nat) (hval : LValSpec d) (p tb off cap : Nat) (T : List Tok) (fx : Bool) (k : Nat) (op : Int) (v : Value) (L : List Cel) (name : ByteArray) (W : World) (hop : op + ((d + 1 : Nat) : Int) = 16) (h0 : 0 ≤ op) (h : LS p tb off cap T fx k op v W) (hown : OwnC (p + 1) v L W) (hL : L.length ≤ 2047) (hk : k ≤ 100000) (mm : mrkP T k [91] = true) (hE : ∀ W', Below p W W' → Env W') :
    Calls Tryz.prog 110 #[.pointer (some ⟨p, 0, none⟩), .agg #[.int .u8 0, .string name, .string ⟨#[]⟩, .int .i64 0, .int .i64 0]] W (LVE p tb off cap T fx W v op (manP fx T (d + 1) name.data.toList k L)) := by
  have HV0 : Hid (LV p tb off cap T fx W v v L k op W) := Lib.hid ⟨h, hown, VK.refl _ _ _, fun k hk => Or.inl hk⟩
  have m123 : mrkP T k [123] = false := mrk_ne mm (by decide)
  have HIS : Hid (∀ W', LS p tb off cap T fx k op v W' → Calls Tryz.prog 82 #[.pointer (some ⟨p, 0, none⟩), .int .u8 4, .string ⟨#[123]⟩] W' fun x w' => x = .returned (.bool false) ∧ Below W'.heap.size W' w') := Lib.hid fun W' hW => by
    have := l_is ⟨#[123]⟩ W' hW
    rw [show (⟨#[123]⟩ : ByteArray).data.toList = [123] from rfl, m123] at this; exact this
  have HNO := Lib.hid (fun (e : Int) (W : World) (hW : LS p tb off cap T fx k op v W) => l_no e W hW)
  have hw1 : IntKind.i64.wrap ((k : Int) + 1) = (k : Int) + 1 := IntWalk.i64_in _ (by omega)
  have hkT := mrk_lt mm
  have hvl : ∃ a n c, v = .slice a n c ∧ n = L.length := by
    rcases HV0.out.own.2 with ⟨h1, h2⟩ | ⟨g, cap, cur, h1, _⟩
    · exact ⟨none, 0, 0, h1, h2.symm⟩
    · exact ⟨_, _, _, h1, rfl⟩
  obtain ⟨av, nv, cv, rfl, hnv⟩ := hvl
  have HNV := Lib.hid hnv
  have hnv8 : nv ≤ 2047 := by omega
  have t16 : (op == 16) = false := by rw [beq_eq_false_iff_ne]; omega
  have q6 : IntKind.i64.wrap (op + 1) = op + 1 := IntWalk.i64_in _ (by omega)
  have hop9 : op ≤ 16 := by omega
  have hT8 := HV0.out.st.2.2.2.1.1
  have hpl := h.lt
  have HEE := Lib.hid hE
  have HVL : Hid (∀ (s : ByteArray) (k1 : Nat) (out : List Cel) (v1 : Value) (W' : World), LS p tb off cap T fx k1 (op + 1) v1 W' → OwnC (p + 1) v1 out W' → out.length ≤ 2048 → k1 ≤ 100000 → (∀ W2, Below p W' W2 → Env W2) → Calls Tryz.prog 91 #[.pointer (some ⟨p, 0, none⟩), .string s] W' (LVE p tb off cap T fx W' v1 (op + 1) (valP fx T d s.data.toList k1 out))) := Lib.hid fun s k1 out v1 W' h1 h2 h3 h4 h5 =>
    hval p tb off cap T fx k1 (op + 1) v1 out s W' (by omega) (by omega) h1 h2 h3 h4 h5
  obtain ⟨Z, hZ⟩ : ∃ Z, manP fx T (d + 1) name.data.toList k L = Z := ⟨_, rfl⟩
  have HZ0 : Hid (finP nv (itmP (valP fx T d) false T (T.length + 1) 0 [] (k + 1) (L ++ [⟨6, name.data.toList, [], 0, 0⟩])) = Z) := Lib.hid (by
    rw [← hZ]; unfold manP; simp only [m123, if_true, hnv, Bool.false_eq_true, if_false]; rfl)
  have hol : (L ++ [(⟨6, name.data.toList, [], 0, 0⟩ : Cel)]).length = nv + 1 := by simp [hnv]
  have hl0 : manyAt nv 0 (L ++ [(⟨6, name.data.toList, [], 0, 0⟩ : Cel)]) = L ++ [⟨6, name.data.toList, [], 0, 0⟩] := many_last nv L _ hnv rfl
  have HL0 := Lib.hid hl0
  rw [hZ]
  obtain ⟨C, hC⟩ : ∃ C, W.heap.size = C := ⟨_, rfl⟩
  have HI0 : Hid (LI p (C + 1) C tb off cap T fx W (.slice av nv cv) (.slice av nv cv) L k op [] #[.int .u8 6, .string name, .string ⟨#[]⟩, .int .i64 0, .int .i64 0] ((W.alloc (.cells #[.int .u8 6, .string name, .string ⟨#[]⟩, .int .i64 0, .int .i64 0] 63 (0, 0))).alloc (.map #[] 0))) := Lib.hid (by
    have ho : ∀ j, C ≤ j → (Value.slice av nv cv).ownBlock ≠ some j := fun j hj e => by
      have := (World.ownsRow.lt HV0.out.own j e).2; omega
    have h1 := (HV0.out.alloc (.cells #[.int .u8 6, .string name, .string ⟨#[]⟩, .int .i64 0, .int .i64 0] 63 (0, 0))).alloc (.map #[] 0)
    have hsz : (W.alloc (.cells #[.int .u8 6, .string name, .string ⟨#[]⟩, .int .i64 0, .int .i64 0] 63 (0, 0))).heap.size = C + 1 := by simp [hC]
    refine ⟨h1, ?_, ?_, by omega, Nat.lt_succ_self C, hpl, ho (C + 1) (by omega), ho C (Nat.le_refl _)⟩
    · have := NamesM.made (W.alloc (.cells #[.int .u8 6, .string name, .string ⟨#[]⟩, .int .i64 0, .int .i64 0] 63 (0, 0)))
      rw [hsz] at this; exact this
    · refine heap_old ?_
      rw [← hC]; exact heap_alloc_last _ _)
  obtain ⟨bm, hbm⟩ : ∃ bm, C + 1 = bm := ⟨_, rfl⟩
  rw [hbm] at HI0
  have HV1 := Lib.hid (HV0.out.alloc (.cells #[.int .u8 0, .string name, .string ⟨#[]⟩, .int .i64 0, .int .i64 0] 63 (0, 0)))
  obtain ⟨c0, c1, c2, c3, c4⟩ := HV1.out.st.cells
  have hmm := @run_makeMap Tryz.prog
  clear h hown hop hZ hval hE hnv mm m123 hl0
  go_enter Tryz.func110, Tryz.ntmps110
  go_wp2_with fail
  try simp only [hC, hbm]
  refine (HIS.out _ HI0.out.vp.st).mono ?_; rintro x w1 ⟨rfl, hb⟩
  have HI1 := Lib.hid (HI0.out.below hb)
  clear hb c0 c1 c2 c3 c4 hmm HV1
  have HI2 := HI1
  go_upto_region 8 with fail
  obtain ⟨y5, hy5⟩ : ∃ y5, w1 = y5 := ⟨_, rfl⟩
  rw [hy5] at HI2 ⊢
  clear hy5
  have HY5 := HI2
  have HCEL : Hid (celCells ⟨6, name.data.toList, [], 0, 0⟩ = #[.int .u8 6, .string name, .string ⟨#[]⟩, .int .i64 0, .int .i64 0]) := Lib.hid (by rfl)
  go_cut [] (fun wx => ∃ g6 cap6, p < g6 ∧ Hid (LI p bm C tb off cap T fx W (.slice av nv cv) (.slice (some ⟨g6, 0, none⟩) (nv + 1) cap6) (manyAt nv 0 (L ++ [⟨6, name.data.toList, [], 0, 0⟩])) k op [] #[.int .u8 6, .string name, .string ⟨#[]⟩, .int .i64 0, .int .i64 0] wx))
  case first =>
    have hlt5 := HY5.out.vp.st.lt
    have hC5 := heap_lt HY5.out.cc
    obtain ⟨_, _, _, _, c4⟩ := HY5.out.vp.st.cells
    have e4 : y5.drew.cell? ⟨p, 4, none⟩ = some (.slice av nv cv) := c4
    have e4' : ∀ o, (y5.drew.alloc o).cell? ⟨p, 4, none⟩ = some (.slice av nv cv) := fun o => by
      rw [World.cell?_alloc_lt _ _ _ (by exact hlt5)]; exact c4
    obtain ⟨q0, q1, q2, q3, q4⟩ := ccells (W := y5.drew) HY5.out.cc
    refine wp_region_held_drew (S := fun _ => True) (by kernel_rfl) trivial (fun hHeld => ?_)
    refine tky 0 (some 29) (v := ?_) rfl (by kernel_rfl) (by kernel_rfl) (by kernel_rfl) (fun _ _ _ h => h) ?_ hHeld ?_
    rotate_left
    focus (intro w hSw; go_simp; (try with_reducible rfl); done)
    go_frame
    refine tky 1 (some 30) (v := ?_) rfl (by kernel_rfl) (by kernel_rfl) (by kernel_rfl) (fun _ _ _ h => h) ?_ hHeld ?_
    rotate_left
    focus (intro w hSw; go_simp; (try with_reducible rfl); done)
    go_frame
    refine tky 2 (some 31) (v := ?_) rfl (by kernel_rfl) (by kernel_rfl) (by kernel_rfl) (fun _ _ _ h => h) ?_ hHeld ?_
    rotate_left
    focus (intro w hSw; go_simp; (try with_reducible rfl); done)
    go_frame
    refine tky 3 (some 32) (v := ?_) rfl (by kernel_rfl) (by kernel_rfl) (by kernel_rfl) (fun _ _ _ h => h) ?_ hHeld ?_
    rotate_left
    focus (intro w hSw; go_simp; (try with_reducible rfl); done)
    go_frame
    refine wpAnyH_ready (rs := [4, 5]) (by kernel_rfl) (by simp) ?_
    refine acons 4 rfl (fun K hK => ?_) ?_
    go_simp
    refine hK.out _ _ trivial (fun _ => ?_)
    clear hK K
    (try go_frame)
    refine rcons 5 rfl (by kernel_rfl) (fun K hK => ?_)
    go_simp
    refine hK.out _ _ trivial (fun _ => ?_)
    clear hK K
    (try go_frame)
    refine rcons 6 rfl (by kernel_rfl) (fun K hK => ?_)
    go_simp
    refine hK.out _ _ trivial (fun _ => ?_)
    clear hK K
    (try go_frame)
    rotate_left
    refine acons 5 rfl (fun K hK => ?_) ?_
    go_simp
    refine hK.out _ _ trivial (fun _ => ?_)
    clear hK K
    (try go_frame)
    refine wpAnyH_ready (rs := [4, 6]) (by kernel_rfl) (by simp) ?_
    refine acons 4 rfl (fun K hK => ?_) ?_
    go_simp
    refine hK.out _ _ trivial (fun _ => ?_)
    clear hK K
    (try go_frame)
    refine rcons 6 rfl (by kernel_rfl) (fun K hK => ?_)
    go_simp
    refine hK.out _ _ trivial (fun _ => ?_)
    clear hK K
    (try go_frame)
    rotate_left
    refine acons 6 rfl (fun K hK => ?_) ?_
    go_simp
    refine hK.out _ _ trivial (fun _ => ?_)
    clear hK K
    (try go_frame)
    refine rcons 4 rfl (by kernel_rfl) (fun K hK => ?_)
    go_simp
    refine hK.out _ _ trivial (fun _ => ?_)
    clear hK K
    (try go_frame)
    rotate_left
    exact AllReadyH.nil
    exact AllReadyH.nil
    all_goals
      refine rcons 7 rfl (by kernel_rfl) (fun K hK => ?_)
      rw [if_pos]
      rotate_left
      focus kernel_rfl
      refine wp_pushL _ _ rfl (p + 1) (.slice av nv cv) L rfl (by exact ((HY5.out.vp.drewN 1).alloc _).own) y5.heap.size 1 ⟨6, name.data.toList, [], 0, 0⟩ rfl (by rw [HCEL.out]; exact heap_alloc_last y5.drew _) (by omega) (by show _ ≤ Array.size _; simp; omega) ?_
      intro v' y6 hown' hgrow hat
      obtain ⟨g6, cap6, hvg, hpg6, -⟩ := hown'.form L.length (by simp)
      rw [hol] at hvg
      subst hvg
      have hbl : Below y5.heap.size y5 (World.alloc y5.drew (.cells #[.int .u8 6, .string name, .string ⟨#[]⟩, .int .i64 0, .int .i64 0] 63 (0, 0))) := (below_dN 1 (Below.refl y5.heap.size y5)).alloc (Nat.le_refl _) _
      obtain ⟨hst6, hy6⟩ := (HY5.out.below hbl).grown hown' hgrow hat rfl
      have HY6 := Lib.hid hy6
      obtain ⟨_, _, _, _, g4⟩ := hst6.cells
      have f6 := hst6.frozen 4
      clear hown' hgrow hat hst6 hy6 hbl
      (try dsimp only)
      refine hK.out _ _ trivial (fun _ => ?_)
      clear hK K
      (try go_frame)
      refine tky 8 (some 37) (v := ?_) rfl (by kernel_rfl) (by kernel_rfl) (by kernel_rfl) (fun _ _ _ h => h) ?_ hHeld ?_
      rotate_left
      focus (intro w hSw; go_simp; (try with_reducible rfl); done)
      go_frame
      refine tky 9 (some 38) (v := ?_) rfl (by kernel_rfl) (by kernel_rfl) (by kernel_rfl) (fun _ _ _ h => h) ?_ hHeld ?_
      rotate_left
      focus (intro w hSw; go_simp; (try with_reducible rfl); done)
      go_frame
      refine rcons 10 rfl (by kernel_rfl) (fun K hK => ?_)
      go_simp
      refine hK.out _ _ trivial (fun _ => ?_)
      clear hK K
      (try go_frame)
      refine wpAnyH_done (by kernel_rfl) ?_ _
      go_wp2_with fail
      go_meet
      exact ⟨g6, cap6, hpg6, by rw [HL0.out]; exact HY6⟩
  case rest =>
    obtain ⟨g6, cap6, hpg6, HY6⟩ := hcut
    obtain ⟨c0, c1, c2, c3, c4⟩ := HY6.out.vp.st.cells
    have f1 := HY6.out.vp.st.frozen 1
    have f2 := HY6.out.vp.st.frozen 2
    have f3 := HY6.out.vp.st.frozen 3
    have HY8 := Lib.hid ((HY6.out.go (k + 1) (by omega)).op_ (op + 1))
    go_wp2_with fail
    go_loopg [7] (T.length + 1) (fun gk nm7 wr => ∃ (n k1 : Nat) (nm : List (List UInt8)) (out : List Cel) (v1 : Value), k1 ≤ T.length ∧ T.length + 1 < gk + k1 ∧ n + nv < out.length ∧ nm.length ≤ n ∧ out.length ≤ 2048 ∧ Hid (LI p bm C tb off cap T fx W (.slice av nv cv) v1 (manyAt nv n out) k1 (op + 1) nm #[.int .u8 6, .string name, .string ⟨#[]⟩, .int .i64 0, .int .i64 0] wr) ∧ Hid (finP nv (itmP (valP fx T d) false T gk n nm k1 out) = Z))
    case atStart => exact ⟨0, k + 1, [], _, _, by omega, by omega, by rw [hol]; omega, Nat.le_refl _, by rw [hol]; omega, HY8, HZ0⟩
    case round =>
      clear c0 c1 c2 c3 c4 f1 f2 f3 HY6 HY8 HZ0 HI0 HI1 HI2 HY5 HL0
      rename World => wr
      obtain ⟨n, k1, nm, out, v1, hkT, hg, hn, hnm, hout, HI, HQ⟩ := hrel
      obtain ⟨g, rfl⟩ : ∃ g, gk = g + 1 := ⟨gk - 1, by omega⟩
      have hpb : p < bm := by have := HI.out.lo; have := HI.out.lt; have := HI.out.pl; omega
      cases ht : mrkP T k1 [93] with
      | true =>
        have HZ : Hid (.ok (k1 + 1, manyAt nv n out) = Z) := Lib.hid (by have := HQ.out; rw [itmP_end (isO := false) ht] at this; exact this)
        go_wp2_with fail
        refine (l_mark_yes (what := ⟨#[93]⟩) ht _ HI.out.vp.st (by omega)).mono ?_; rintro x w3 ⟨rfl, hst, hk3⟩
        have HI3 := Lib.hid (HI.out.rk hst hk3)
        clear hst hk3 ht HQ HI
        obtain ⟨c0, c1, c2, c3, c4⟩ := HI3.out.vp.st.cells
        have f3 := HI3.out.vp.st.frozen 3
        have q7 : IntKind.i64.wrap (op + 1 - 1) = op := by rw [IntWalk.i64_in _ (by omega)]; omega
        have q8 : op + 1 - 1 = op := by omega
        have q9 : IntKind.i64.wrap op = op := IntWalk.i64_in _ (by omega)
        have HV4 := Lib.hid (HI3.out.vp.op_ op)
        go_wp2_with fail
        go_end0
        rw [← HZ.out]
        exact ⟨rfl, by rw [manyln]; exact hout, _, HV4.out⟩
      | false =>
        have HQ1 := Lib.hid (itmP_go (val := valP fx T d) (isO := false) (f := g) (n := n) (nm := nm) (out := out) ht)
        rw [HQ1.out] at HQ
        clear HQ1
        go_wp2_with fail
        refine (l_mark_not (what := ⟨#[93]⟩) ht _ HI.out.vp.st (by omega)).mono ?_; rintro x w3 ⟨rfl, hst, hk3⟩
        have HI3 := Lib.hid (HI.out.rk hst hk3)
        clear hst hk3 ht HI
        obtain ⟨q0, q1, q2, q3, q4⟩ := ccells HI3.out.cc
        go_wp2_with fail
        simp only [Bool.false_eq_true, if_false] at HQ
        clear q0 q1 q2 q3 q4
        have HVA := Lib.hid (HVL.out ⟨#[]⟩ (k1) (manyAt nv n out) v1 _ HI3.out.vp.st HI3.out.vp.own (by rw [manyln]; exact hout) (by omega) (fun W2 h2 => HEE.out _ (HI3.out.vp.vk.1.trans h2)))
        have hal := val_alk fx T d (([] : List UInt8)) (k1) (manyAt nv n out) out (manyln _ _ _)
        have hon := val_on fx T d (([] : List UInt8)) (k1) (manyAt nv n out)
        rw [show (⟨#[]⟩ : ByteArray).data.toList = ([] : List UInt8) from rfl] at HVA
        cases hx : valP fx T d (([] : List UInt8)) (k1) (manyAt nv n out) with
        | error e =>
          rw [hx] at HVA hal
          have hal2 : valP fx T d (([] : List UInt8)) (k1) out = .error e := hal
          have HZ : Hid (.error e = Z) := Lib.hid (by have := HQ.out; simp only [hal2] at this; exact this)
          clear hx hal hal2 hon HQ
          refine HVA.out.mono ?_; rintro x wb hvx
          obtain ⟨hxe, hbb⟩ := hvx.err
          have HBB := Lib.hid (HI3.out.vp.vk.1.trans hbb)
          clear hvx hbb
          subst hxe
          go_wp2_with fail
          refine ⟨rfl, ?_⟩
          rw [← HZ.out]
          exact ⟨rfl, HBB.out⟩
        | ok y =>
          obtain ⟨k4, out4⟩ := y
          obtain ⟨hk4, hk4T⟩ := hon _ _ hx
          rw [hx] at HVA hal
          obtain ⟨new, rfl, hnew, hal2⟩ := hal
          have HQ4 : Hid (finP nv (itmP (valP fx T d) false T g (n + 1) nm k4 (out ++ new)) = Z) := Lib.hid (by have := HQ.out; simp only [hal2] at this; exact this)
          rw [many_app2 nv n out new (by omega)] at HVA
          clear hx hal2 HQ
          refine HVA.out.mono ?_; rintro x wb hvx
          obtain ⟨hxe, ho2, v2, hvp⟩ := hvx.ok_
          have HIB := Lib.hid (HI3.out.val hvp)
          clear hvx hvp HVA
          subst hxe
          have hol2 : (out ++ new).length ≤ 2048 := by rw [manyln] at ho2; exact ho2
          have hln : n + 1 + nv < (out ++ new).length := by rw [List.length_append]; omega
          clear ho2
          generalize out ++ new = X at HIB HQ4 hol2 hln
          have hkl : nv < (manyAt nv n X).length := by rw [manyln]; omega
          obtain ⟨g1, cap1, hv1, hBg, hgl, hfz, ck0, ck2, ck3, ck4⟩ := HIB.out.vp.own.form nv hkl
          rw [many_at] at ck4
          have hff := hfz (nv * 5 + 4)
          have hpg1 : p < g1 := by omega
          have HIC := Lib.hid (HIB.out.set (u := .int .i64 ((n + 1 : Nat) : Int)) (i := nv * 5 + 4) (out' := manyAt nv (n + 1) X) hv1 hpg1 (by rw [manyln, manyln]) (by rw [← many_many nv n (n + 1) X]; exact celFlat_set4 _ _ _))
          rw [manyln] at hv1
          obtain ⟨n6, hn6⟩ : ∃ n6, X.length = n6 := ⟨_, rfl⟩
          rw [hn6] at hv1
          obtain ⟨d0, d1, d2, d3, d4⟩ := HIB.out.vp.st.cells
          have q10 : (nv : Int) < (n6 : Int) := by omega
          have q11 : (nv : Int).toNat = nv := by omega
          have q12 : (0 : Int) ≤ (nv : Int) := by omega
          have q13 : nv < n6 := by omega
          have q14 : IntKind.i64.wrap ((n : Int) + 1) = ((n + 1 : Nat) : Int) := by rw [IntWalk.i64_in _ (by omega)]; omega
          clear ck0 ck2 ck3 hfz hn6
          subst hv1
          go_wp2_with fail
          go_roundg g
          case measure => omega
          case rel => exact ⟨n + 1, k4, nm, X, _, hk4T, by omega, hln, by first | omega | (simp; omega), hol2, HIC, HQ4⟩
end Go.Proofs.YtgaknbnhmoddcaaGreatDoor
namespace Go.Proofs.YtgaknbnhmoddcaaGreatDoor
open Go.RowKit Go.Lib
theorem l_man (d : Nat) (hval : ∀ e, d = e + 1 → LValSpec e) : LManSpec d := by
  intro p tb off cap T fx k op v L name W hop h0 h hown hL hk ho hE
  unfold opnP at ho
  cases hm : mrkP T k [123] with
  | true =>
    cases d with
    | zero => exact l_many_obj_0 p tb off cap T fx k op v L name W hop h hown hL hk hm
    | succ d => exact l_many_obj d (hval d rfl) p tb off cap T fx k op v L name W hop h0 h hown hL hk hm hE
  | false =>
    rw [hm, Bool.or_false] at ho
    cases d with
    | zero => exact l_many_list_0 p tb off cap T fx k op v L name W hop h hown hL hk ho
    | succ d => exact l_many_list d (hval d rfl) p tb off cap T fx k op v L name W hop h0 h hown hL hk ho hE
theorem l_value_step (d : Nat) (hm : LManSpec d) : LValSpec d := by
  intro p tb off cap T fx k op v L name W hop h0 h hown hL hk hE
  cases hb : begP fx T k with
  | false =>
    rw [valP_bad fx T d _ k L hb]
    exact l_value_bad v L name W h hown hL hk hb
  | true =>
    by_cases hf : L.length = 2048
    · rw [valP_full fx T d _ k L hb hf]
      cases h91 : mrkP T k [91] with
      | true => exact l_value_full_list v L name W h hown hL hk hf h91
      | false =>
        cases h123 : mrkP T k [123] with
        | true => exact l_value_full_obj v L name W h hown hL hk hf h123
        | false =>
          by_cases h1 : (lookP T k).kind = 1
          · exact l_value_full1 v L name W h hown hL hk hf h1
          · by_cases h2 : (lookP T k).kind = 2
            · exact l_value_full2 v L name W h hown hL hk hf h2
            · by_cases h3 : (lookP T k).kind = 3
              · exact l_value_full3 v L name W h hown hL hk hf h3
              · have hv : varP fx T k = true := by
                  unfold begP opnP at hb
                  simpa [h1, h2, h3, h91, h123] using hb
                unfold varP at hv
                simp only [Bool.and_eq_true, Bool.not_eq_true'] at hv
                exact l_value_full_var v L name W h hown hL hk hf hv.1 hv.2
    · cases ho : opnP T k with
      | true =>
        rw [valP_open fx T d _ k L ho hf]
        have ho2 := ho
        unfold opnP at ho2
        cases h91 : mrkP T k [91] with
        | true => exact l_value_many_list v L name W h hown hL hk d hop h0 hE hf h91 hm
        | false =>
          rw [h91, Bool.false_or] at ho2
          exact l_value_many_obj v L name W h hown hL hk d hop h0 hE hf ho2 hm
      | false =>
        rw [valP_leaf fx T d _ k L hb ho hf]
        exact l_value_leaf v L name W h hown hL hk hE hf hb ho
theorem l_value_any : ∀ d : Nat, LValSpec d
  | 0 => l_value_step 0 (l_man 0 fun e h => by omega)
  | d + 1 => l_value_step (d + 1) (l_man (d + 1) fun e h => by
    have : e = d := by omega
    subst this
    exact l_value_any e)
end Go.Proofs.YtgaknbnhmoddcaaGreatDoor
namespace Go.Proofs.YtgaknbnhmoddcaaGreatDoor
open Go.RowKit Go.Lib
/-- What the library's variables hold, whatever is done from a block on. -/
def EnvB (p : Nat) (W : World) : Prop := ∀ W', Below p W W' → EnvU W' ∧ Env W'
theorem EnvB.to {p : Nat} {W W' : World} (h : EnvB p W) (hb : Below p W W') : EnvB p W' := fun W2 h2 => h W2 (hb.trans h2)
end Go.Proofs.YtgaknbnhmoddcaaGreatDoor
namespace Go.Proofs.YtgaknbnhmoddcaaGreatDoor
open Go.RowKit Go.Lib
theorem VPE.ok_ {p : Nat} {w W : World} {v : Value} {op : Int} {t : List UInt8} {out : List Cel} {x : Ending} (h : VPE p w v op (.ok (t, out)) x W) : x = .returned (.tuple #[]) ∧ out.length ≤ 2048 ∧ ∃ v', VP p w v v' out t op W := h
theorem VPE.err {p : Nat} {w W : World} {v : Value} {op : Int} {e : Int} {x : Ending} (h : VPE p w v op (.error e) x W) : x = .panicked (stopL e) ∧ Below p w W := h
end Go.Proofs.YtgaknbnhmoddcaaGreatDoor
namespace Go.Proofs.YtgaknbnhmoddcaaGreatDoor
open Go.RowKit Go.Lib
/-- What Read tells: of any bytes. -/
def PReadE (B : Nat) (o : Except Int (List Cel)) (x : Ending) (W : World) : Prop := match o with
  | .error e => x = .returned (.tuple #[.slice none 0 0, .int .i64 e])
  | .ok out => out.length ≤ 2048 ∧ ∃ u, x = .returned (.tuple #[u, .int .i64 0]) ∧ OwnC B u out W
theorem OwnC.less {B B' : Nat} {v : Value} {L : List Cel} {W : World} (h : OwnC B v L W) (hB : B' ≤ B) : OwnC B' v L W := by
  obtain ⟨h1, h2⟩ := h
  refine ⟨h1, ?_⟩
  rcases h2 with h2 | ⟨g, cap, cur, hv, hg, hrest⟩
  · exact Or.inl h2
  · exact Or.inr ⟨g, cap, cur, hv, by omega, hrest⟩
end Go.Proofs.YtgaknbnhmoddcaaGreatDoor
namespace Go.Proofs.YtgaknbnhmoddcaaGreatDoor
open Go.RowKit Go.Lib
theorem VK.nil {r : Nat} {W W' : World} (h : VK r (.slice none 0 0) W W') : RK r W W' := ⟨h.1, fun k o hk hne => h.2 k o hk hne (by intro e; cases e)⟩
/-- What a literal leaves: its cells in a row of their own, in blocks that were not there. -/
def LitE (p tb off cap : Nat) (T : List Tok) (fx : Bool) (op : Int) (w : World) (o : Except ErrP (Nat × List Cel)) (x : Ending) (W : World) : Prop := match o with
  | .error e => x = .panicked (stopP e) ∧ Below p w W
  | .ok (k, out) => out.length ≤ 2048 ∧ ∃ v, x = .returned v ∧ LS p tb off cap T fx k op v W ∧ OwnC (p + 1) v out W ∧ RK p w W ∧ ∀ j, v.ownBlock = some j → w.heap.size ≤ j
set_option maxRecDepth 100000 in
theorem l_literal {p tb off cap : Nat} {T : List Tok} {fx : Bool} {k : Nat} {v : Value} (W : World) (h : LS p tb off cap T fx k 0 v W) (hk : k ≤ 100000) (hE : ∀ W', Below p W W' → Env W') :
    Calls Tryz.prog 59 #[.pointer (some ⟨p, 0, none⟩)] W (LitE p tb off cap T fx 0 W (litP fx T k)) := by
  have f4 := h.frozen 4
  obtain ⟨c0, c1, c2, c3, c4⟩ := h.cells
  have hp := h.lt
  have HS := Lib.hid (h.out (.slice none 0 0))
  have HR0 := Lib.hid (RK.set p 4 W (.slice none 0 0))
  have HVL := Lib.hid (l_value_any 16 p tb off cap T fx k 0 (.slice none 0 0) [] ⟨#[]⟩ (W.setCell ⟨p, 4, none⟩ (.slice none 0 0)) (by decide) (by decide) HS.out (OwnC.nil _ _) (by decide) hk (fun W' hb => hE W' (HR0.out.1.trans hb)))
  rw [show (⟨#[]⟩ : ByteArray).data.toList = [] from rfl] at HVL
  unfold litP
  generalize valP fx T 16 [] k [] = R at HVL ⊢
  clear hE h
  go_enter Tryz.func59, Tryz.ntmps59
  go_wp2_with fail
  refine HVL.out.mono ?_; rintro x w1 hx
  cases R with
  | error e =>
    obtain ⟨rfl, hb⟩ := hx.err
    have HB := Lib.hid (HR0.out.1.trans hb)
    clear hb hx
    go_wp2_with fail
    exact ⟨rfl, rfl, HB.out⟩
  | ok y =>
    obtain ⟨k9, out9⟩ := y
    obtain ⟨rfl, hl9, v9, hv9⟩ := hx.ok_
    have HV9 := Lib.hid hv9
    obtain ⟨d0, d1, d2, d3, d4⟩ := hv9.st.cells
    clear hv9 hx c0 c1 c2 c3 c4 f4
    go_wp2_with fail
    go_returns
    refine ⟨hl9, v9, rfl, HV9.out.st, HV9.out.own, HR0.out.trans HV9.out.vk.nil, fun j hj => ?_⟩
    rcases HV9.out.ob j hj with e | e
    · cases e
    · simpa using e
end Go.Proofs.YtgaknbnhmoddcaaGreatDoor
namespace Go.Proofs.YtgaknbnhmoddcaaGreatDoor
open Go.RowKit Go.Lib
/-- What a reader's step leaves that makes a row. -/
def DoV {α : Type} (p tb off cap : Nat) (T : List Tok) (fx : Bool) (R : Except ErrP (Nat × α)) (G : α → Value → World → Prop) (W : World) (x : Ending) (W' : World) : Prop := match R with
  | .error e => x = .panicked (stopP e) ∧ Below p W W'
  | .ok (k', y) => ∃ a n c op v, x = .returned (.slice a n c) ∧ G y (.slice a n c) W' ∧ LS p tb off cap T fx k' op v W' ∧ RK p W W'
/-- What is read, as a row. -/
def ReadV {α : Type} (R : Except ErrP (Nat × α)) (G : α → Value → World → Prop) (x : Ending) (W' : World) : Prop := match R with
  | .error e => x = .returned (.tuple #[.slice none 0 0, .int .i64 e.2, .int .i64 e.1])
  | .ok (k', y) => ∃ a n c, x = .returned (.tuple #[.slice a n c, .int .i64 k', .int .i64 0]) ∧ G y (.slice a n c) W'
theorem lcatch_idle_c (q1 q2 q3 : Addr) (w : World) :
    CallsD Tryz.prog 90 #[.pointer (some q1), .pointer (some q2), .pointer (some q3)] .returning w fun e u' w' => e = .returned (.tuple #[]) ∧ u' = .returning ∧ w' = w := by
  refine callsD_of_wpS Tryz.func90 rfl fun c₀ cs hu => ?_
  apply wpS_seq
  apply wpS_region
  simp [wpOpsS, go_sem, recoverD, hu, Tryz.ntmps90, Exit.thenS]
  refine wpS_of_wp ?_
  simp only [List.replicate_succ, List.replicate_zero, Array.replicate, List.setIfInBounds_toArray, List.set_cons_zero, List.set_cons_succ, List.append_toArray, List.cons_append, List.nil_append]
  go_wp2_with fail
  cases c₀
  simp_all [bodyPostS, results, Tryz.results90]
set_option maxRecDepth 100000 in
theorem lcatch_panicking_c (b1 b2 b3 : Nat) (x1 : Value) (x2 x3 : Int) (e : ErrP) (older : List PanicEntry) (w : World) (n12 : b1 < b2) (n23 : b2 < b3) (h1 : w.cell? ⟨b1, 0, none⟩ = some x1) (h2 : w.cell? ⟨b2, 0, none⟩ = some (.int .i64 x2)) (h3 : w.cell? ⟨b3, 0, none⟩ = some (.int .i64 x3)) (z1 : w.frozen? ⟨b1, 0, none⟩ = false) (z2 : w.frozen? ⟨b2, 0, none⟩ = false) (z3 : w.frozen? ⟨b3, 0, none⟩ = false) :
    CallsD Tryz.prog 90 #[.pointer (some ⟨b1, 0, none⟩), .pointer (some ⟨b2, 0, none⟩), .pointer (some ⟨b3, 0, none⟩)] (.panicking ({ v := .iface 143 (.agg #[.int .i64 e.1, .int .i64 e.2]), recovered := false } :: older)) w fun e' u' w' =>
      e' = .returned (.tuple #[]) ∧ u' = .panicking ({ v := .iface 143 (.agg #[.int .i64 e.1, .int .i64 e.2]), recovered := true } :: older) ∧ w'.cell? ⟨b1, 0, none⟩ = some (.slice none 0 0) ∧ w'.cell? ⟨b2, 0, none⟩ = some (.int .i64 e.2) ∧ w'.cell? ⟨b3, 0, none⟩ = some (.int .i64 e.1) ∧ ∀ B, B ≤ b1 → B ≤ w.heap.size → Below B w w' := by
  obtain ⟨e1, e2⟩ := e
  obtain ⟨j2, hj2⟩ : ∃ j2 : Int, (e2 : Int) = j2 := ⟨_, rfl⟩
  simp only [hj2]
  have hta : ∀ w, (Instr.typeAssert (.iface 143 (.agg #[.int .i64 e1, .int .i64 j2])) 20 143 false).run Tryz.prog w = .ok (.agg #[.int .i64 e1, .int .i64 j2]) w := fun w => by kernel_rfl
  have hf0 : ∀ w, (Instr.field 143 (.agg #[.int .i64 e1, .int .i64 j2]) 0).run Tryz.prog w = .ok (.int .i64 e1) w := fun w => by kernel_rfl
  have hf1 : ∀ w, (Instr.field 143 (.agg #[.int .i64 e1, .int .i64 j2]) 1).run Tryz.prog w = .ok (.int .i64 j2) w := fun w => by kernel_rfl
  refine callsD_of_wpS Tryz.func90 rfl fun c₀ cs hu => ?_
  apply wpS_seq
  apply wpS_region
  simp [wpOpsS, go_sem, recoverD, hu, Tryz.ntmps90, Exit.thenS]
  refine wpS_of_wp ?_
  simp only [List.replicate_succ, List.replicate_zero, Array.replicate, List.setIfInBounds_toArray, List.set_cons_zero, List.set_cons_succ, List.append_toArray, List.cons_append, List.nil_append]
  go_wp2_with fail
  have k12 : ¬ b1 = b2 := by omega
  have k13 : ¬ b1 = b3 := by omega
  have k23 : ¬ b2 = b3 := by omega
  have k21 : ¬ b2 = b1 := by omega
  have k31 : ¬ b3 = b1 := by omega
  have k32 : ¬ b3 = b2 := by omega
  have HFIN : Hid (∀ wf, wf = (((w.setCell ⟨b1, 0, none⟩ (.slice none 0 0)).setCell ⟨b2, 0, none⟩ (.int .i64 j2)).setCell ⟨b3, 0, none⟩ (.int .i64 e1)).drew → wf.cell? ⟨b1, 0, none⟩ = some (.slice none 0 0) ∧ wf.cell? ⟨b2, 0, none⟩ = some (.int .i64 j2) ∧ wf.cell? ⟨b3, 0, none⟩ = some (.int .i64 e1) ∧ ∀ B, B ≤ b1 → B ≤ w.heap.size → Below B w wf) := Lib.hid (by
    rintro wf rfl
    have m2 : (w.setCell ⟨b1, 0, none⟩ (.slice none 0 0)).cell? ⟨b2, 0, none⟩ = some (.int .i64 x2) := by
      rw [World.cell?_setCell_other _ _ _ _ (by intro h; injection h with h; omega)]; exact h2
    have m3 : ((w.setCell ⟨b1, 0, none⟩ (.slice none 0 0)).setCell ⟨b2, 0, none⟩ (.int .i64 j2)).cell? ⟨b3, 0, none⟩ = some (.int .i64 x3) := by
      rw [World.cell?_setCell_other _ _ _ _ (by intro h; injection h with h; omega), World.cell?_setCell_other _ _ _ _ (by intro h; injection h with h; omega)]; exact h3
    refine ⟨?_, ?_, ?_, fun B p1 p0 => ?_⟩
    · show (((w.setCell ⟨b1, 0, none⟩ (.slice none 0 0)).setCell ⟨b2, 0, none⟩ (.int .i64 j2)).setCell ⟨b3, 0, none⟩ (.int .i64 e1)).cell? ⟨b1, 0, none⟩ = _
      rw [World.cell?_setCell_other _ _ _ _ (by intro h; injection h with h; omega), World.cell?_setCell_other _ _ _ _ (by intro h; injection h with h; omega)]
      exact World.cell?_setCell_same _ _ _ h1
    · show (((w.setCell ⟨b1, 0, none⟩ (.slice none 0 0)).setCell ⟨b2, 0, none⟩ (.int .i64 j2)).setCell ⟨b3, 0, none⟩ (.int .i64 e1)).cell? ⟨b2, 0, none⟩ = _
      rw [World.cell?_setCell_other _ _ _ _ (by intro h; injection h with h; omega)]
      exact World.cell?_setCell_same _ _ _ m2
    · show (((w.setCell ⟨b1, 0, none⟩ (.slice none 0 0)).setCell ⟨b2, 0, none⟩ (.int .i64 j2)).setCell ⟨b3, 0, none⟩ (.int .i64 e1)).cell? ⟨b3, 0, none⟩ = _
      exact World.cell?_setCell_same _ _ _ m3
    · exact (((((Below.refl B w)).setCell (p := ⟨b1, 0, none⟩) p1 _).setCell (p := ⟨b2, 0, none⟩) (by show B ≤ b2; omega) _).setCell (p := ⟨b3, 0, none⟩) (by show B ≤ b3; omega) _).drew)
  go_region
  clear h1 h2 h3 z1 z2 z3 k12 k13 k23 k21 k31 k32 hta hf0 hf1
  go_wp2_with fail
  cases c₀
  simp only at hu
  subst hu
  simp [bodyPostS, results, Tryz.results90]
  exact HFIN.out _ rfl
set_option maxRecDepth 100000 in
theorem lread_bad_c (a : Option Addr) (n cap : Nat) (at_ : Int) (fx : Bool) (fv : Value) (hn : n ≤ 1000000) (ha : at_ < 0 ∨ (n : Int) ≤ at_) (w : World) :
    Calls Tryz.prog 58 #[.slice a n cap, .int .i64 at_, .bool fx, fv] w fun x w' => x = .returned (.tuple #[.slice none 0 0, .int .i64 0, .int .i64 2]) ∧ Below w.heap.size w w' := by
  by_cases h0 : at_ < 0
  · go_enter_defers Tryz.func58, Tryz.ntmps58
    go_wp2_with fail
    obtain ⟨wf, hwf⟩ : ∃ wf, (((w.alloc (.cells #[.slice none 0 0] 22 (0, 0))).alloc (.cells #[.int .i64 0] 3 (0, 0))).alloc (.cells #[.int .i64 2] 33 (0, 0))) = wf := ⟨_, rfl⟩
    have d0 : wf.cell? ⟨w.heap.size, 0, none⟩ = some (.slice none 0 0) := by rw [← hwf]; exact Lib.cell_of_heap (heap_old (heap_old (heap_new _ _ _ rfl))) 0
    have d1 : wf.cell? ⟨w.heap.size + 1, 0, none⟩ = some (.int .i64 0) := by rw [← hwf]; exact Lib.cell_of_heap (heap_old (heap_new _ _ _ (by simp))) 0
    have d2 : wf.cell? ⟨w.heap.size + 1 + 1, 0, none⟩ = some (.int .i64 2) := by rw [← hwf]; exact Lib.cell_of_heap (heap_new _ _ _ (by simp)) 0
    have HF : Hid (Below w.heap.size w wf) := Lib.hid (by rw [← hwf]; exact (((Below.refl _ _).alloc (Nat.le_refl _) _).alloc (by simp) _).alloc (by simp; omega) _)
    rw [hwf]
    simp [bodyPostD, Leaves, settle, results, Tryz.results58, go_sem, d0, d1, d2]
    exact HF.out
  · have h1 : (n : Int) ≤ at_ := by omega
    go_enter_defers Tryz.func58, Tryz.ntmps58
    go_wp2_with fail
    obtain ⟨wf, hwf⟩ : ∃ wf, (((w.alloc (.cells #[.slice none 0 0] 22 (0, 0))).alloc (.cells #[.int .i64 0] 3 (0, 0))).alloc (.cells #[.int .i64 2] 33 (0, 0))) = wf := ⟨_, rfl⟩
    have d0 : wf.cell? ⟨w.heap.size, 0, none⟩ = some (.slice none 0 0) := by rw [← hwf]; exact Lib.cell_of_heap (heap_old (heap_old (heap_new _ _ _ rfl))) 0
    have d1 : wf.cell? ⟨w.heap.size + 1, 0, none⟩ = some (.int .i64 0) := by rw [← hwf]; exact Lib.cell_of_heap (heap_old (heap_new _ _ _ (by simp))) 0
    have d2 : wf.cell? ⟨w.heap.size + 1 + 1, 0, none⟩ = some (.int .i64 2) := by rw [← hwf]; exact Lib.cell_of_heap (heap_new _ _ _ (by simp)) 0
    have HF : Hid (Below w.heap.size w wf) := Lib.hid (by rw [← hwf]; exact (((Below.refl _ _).alloc (Nat.le_refl _) _).alloc (by simp) _).alloc (by simp; omega) _)
    rw [hwf]
    simp [bodyPostD, Leaves, settle, results, Tryz.results58, go_sem, d0, d1, d2]
    exact HF.out
set_option maxRecDepth 100000 in
set_option maxHeartbeats 4000000 in
theorem lread_go_c {α : Type} {tb off cap : Nat} {T : List Tok} {fx : Bool} {k : Nat} (w : World) (hr : TokRow tb off T w) (htb : tb < w.heap.size) (hT : T.length ≤ 100000 ∧ ∀ t ∈ T, t.text.length ≤ 100000) (hk : k < T.length)
    (R : Except ErrP (Nat × α)) (G : α → Value → World → Prop) (hG : ∀ y u W W' q, q ≤ w.heap.size + 2 → RK q W W' → G y u W → G y u W')
    (hdo : ∀ W, LS (w.heap.size + 3) tb off cap T fx k 0 (.slice none 0 0) W → Below w.heap.size w W → Calls Tryz.prog 59 #[.pointer (some ⟨w.heap.size + 3, 0, none⟩)] W (DoV (w.heap.size + 3) tb off cap T fx R G W)) :
    Calls Tryz.prog 58 #[.slice (some ⟨tb, off, none⟩) T.length cap, .int .i64 (k : Int), .bool fx, .func (.func 59) #[] #[]] w fun x w' => ReadV R G x w' ∧ Below w.heap.size w w' := by
  have HDO := Lib.hid hdo
  have HG := Lib.hid hG
  have HR := Lib.hid hr
  have hT1 := hT.1
  have HT := Lib.hid hT
  have hT0 : T.length ≤ 9223372036854775807 := by omega
  have hnk : ¬ (T.length : Int) ≤ (k : Int) := by omega
  have hk0 : ¬ (k : Int) < 0 := by omega
  have hmf : ∀ (fn : Fn) (first cap : Array Value) (w : World), (Instr.makeFunc fn first cap).run Tryz.prog w = .ok (.func fn first cap) w := fun _ _ _ _ => rfl
  have hent := enters_of Tryz.func59 (by kernel_rfl) rfl
  clear hdo hG hr hT
  go_enter_defers Tryz.func58, Tryz.ntmps58
  go_wp2_with fail
  obtain ⟨w2, hw2⟩ : ∃ w2, ((((w.alloc (.cells #[.slice none 0 0] 22 (0, 0))).alloc (.cells #[.int .i64 0] 3 (0, 0))).alloc (.cells #[.int .i64 0] 33 (0, 0))).alloc (.cells #[.slice (some ⟨tb, off, none⟩) T.length cap, .int .i64 (k : Int), .bool fx, .int .i64 0, .slice none 0 0] 147 (0, 0))) = w2 := ⟨_, rfl⟩
  have hw2d := hw2
  rw [hw2]
  have ha1 : w2.heap[w.heap.size]? = some (.cells #[.slice none 0 0] 22 (0, 0)) := by rw [← hw2d]; exact heap_old (heap_old (heap_old (heap_new _ _ _ rfl)))
  have ha2 : w2.heap[w.heap.size + 1]? = some (.cells #[.int .i64 0] 3 (0, 0)) := by rw [← hw2d]; exact heap_old (heap_old (heap_new _ _ _ (by simp)))
  have ha3 : w2.heap[w.heap.size + 1 + 1]? = some (.cells #[.int .i64 0] 33 (0, 0)) := by rw [← hw2d]; exact heap_old (heap_new _ _ _ (by simp))
  have hap : w2.heap[w.heap.size + 3]? = some (.cells #[.slice (some ⟨tb, off, none⟩) T.length cap, .int .i64 (k : Int), .bool fx, .int .i64 0, .slice none 0 0] 147 (0, 0)) := by rw [← hw2d]; exact heap_new _ _ _ (by simp)
  have hbw : Below w.heap.size w w2 := by
    rw [← hw2d]
    exact ((((Below.refl _ _).alloc (Nat.le_refl _) _).alloc (by simp) _).alloc (by simp; omega) _).alloc (by simp; omega) _
  have HLS : Hid (LS (w.heap.size + 3) tb off cap T fx k 0 (.slice none 0 0) w2) := Lib.hid ⟨hap, HR.out.below hbw htb, by omega, HT.out, by omega⟩
  have HBW := Lib.hid hbw
  have HA1 := Lib.hid ha1
  have HA2 := Lib.hid ha2
  have HA3 := Lib.hid ha3
  clear ha1 ha2 ha3 hap hbw hw2 hw2d
  refine (HDO.out w2 HLS.out HBW.out).mono ?_; rintro x w3 hx
  have HX := Lib.hid hx
  clear hx
  cases R with
  | error e =>
    obtain ⟨hxe, hb3⟩ : x = .panicked (stopP e) ∧ Below (w.heap.size + 3) w2 w3 := HX.out
    have HZ1 : Hid (w3.heap[w.heap.size]? = some (.cells #[.slice none 0 0] 22 (0, 0))) := Lib.hid ((hb3.block _ (by omega)).trans HA1.out)
    have HZ2 : Hid (w3.heap[w.heap.size + 1]? = some (.cells #[.int .i64 0] 3 (0, 0))) := Lib.hid ((hb3.block _ (by omega)).trans HA2.out)
    have HZ3 : Hid (w3.heap[w.heap.size + 1 + 1]? = some (.cells #[.int .i64 0] 33 (0, 0))) := Lib.hid ((hb3.block _ (by omega)).trans HA3.out)
    have HBZ : Hid (Below w.heap.size w w3) := Lib.hid (HBW.out.trans (hb3.mono (by omega)))
    clear hb3 HX
    subst hxe
    go_wp2_with fail
    refine leaves_cons (f := 90) (args := #[.pointer (some ⟨w.heap.size, 0, none⟩), .pointer (some ⟨w.heap.size + 1, 0, none⟩), .pointer (some ⟨w.heap.size + 1 + 1, 0, none⟩)]) (by simp) (by simp [go_sem]) ?_
    refine (lcatch_panicking_c w.heap.size (w.heap.size + 1) (w.heap.size + 1 + 1) (.slice none 0 0) 0 0 e [] _ (by omega) (by omega) (Lib.cell_of_heap HZ1.out 0) (Lib.cell_of_heap HZ2.out 0) (Lib.cell_of_heap HZ3.out 0) (Lib.frozen_of_heap HZ1.out 0) (Lib.frozen_of_heap HZ2.out 0) (Lib.frozen_of_heap HZ3.out 0)).mono ?_
    rintro x u wf ⟨rfl, rfl, m0, m1, m2, hbf⟩
    have HBF : Hid (Below w.heap.size w wf) := Lib.hid (HBZ.out.trans (hbf _ (Nat.le_refl _) HBZ.out.size))
    clear hbf
    simp [Leaves, settle, results, Tryz.results58, go_sem, m0, m1, m2]
    exact ⟨rfl, HBF.out⟩
  | ok ky =>
    obtain ⟨k', y⟩ := ky
    obtain ⟨av, nv, cv, op', v', hxe, hg, hls, hrk⟩ : ∃ a n c op v, x = .returned (.slice a n c) ∧ G y (.slice a n c) w3 ∧ LS (w.heap.size + 3) tb off cap T fx k' op v w3 ∧ RK (w.heap.size + 3) w2 w3 := HX.out
    have HZ1 : Hid (w3.heap[w.heap.size]? = some (.cells #[.slice none 0 0] 22 (0, 0))) := Lib.hid (hrk.2 _ _ HA1.out (by omega))
    have HZ2 : Hid (w3.heap[w.heap.size + 1]? = some (.cells #[.int .i64 0] 3 (0, 0))) := Lib.hid (hrk.2 _ _ HA2.out (by omega))
    have HZ3 : Hid (w3.heap[w.heap.size + 1 + 1]? = some (.cells #[.int .i64 0] 33 (0, 0))) := Lib.hid (hrk.2 _ _ HA3.out (by omega))
    have HBZ : Hid (Below w.heap.size w w3) := Lib.hid (HBW.out.trans (hrk.1.mono (by omega)))
    have HGG := Lib.hid hg
    have HL3 := Lib.hid hls
    clear hg hls hrk HX
    subst hxe
    have d0 : w3.cell? ⟨w.heap.size, 0, none⟩ = some (.slice none 0 0) := Lib.cell_of_heap HZ1.out 0
    have d1 : w3.cell? ⟨w.heap.size + 1, 0, none⟩ = some (.int .i64 0) := Lib.cell_of_heap HZ2.out 0
    have d2 : w3.cell? ⟨w.heap.size + 1 + 1, 0, none⟩ = some (.int .i64 0) := Lib.cell_of_heap HZ3.out 0
    have z0 : w3.frozen? ⟨w.heap.size, 0, none⟩ = false := Lib.frozen_of_heap HZ1.out 0
    have z1 : w3.frozen? ⟨w.heap.size + 1, 0, none⟩ = false := Lib.frozen_of_heap HZ2.out 0
    have z2 : w3.frozen? ⟨w.heap.size + 1 + 1, 0, none⟩ = false := Lib.frozen_of_heap HZ3.out 0
    obtain ⟨c0, c1, c2, c3, c4⟩ := HL3.out.cells
    go_upto_region 6 with fail
    go_region
    obtain ⟨wa, hwa⟩ : ∃ wa, w3.setCell ⟨w.heap.size, 0, none⟩ (.slice av nv cv) = wa := ⟨_, rfl⟩
    obtain ⟨wb, hwb⟩ : ∃ wb, wa.setCell ⟨w.heap.size, 0, none⟩ (.slice av nv cv) = wb := ⟨_, rfl⟩
    obtain ⟨wc, hwc⟩ : ∃ wc, wb.setCell ⟨w.heap.size + 1, 0, none⟩ (.int .i64 (k' : Int)) = wc := ⟨_, rfl⟩
    obtain ⟨wd, hwd⟩ : ∃ wd, wc.setCell ⟨w.heap.size + 1 + 1, 0, none⟩ (.int .i64 0) = wd := ⟨_, rfl⟩
    obtain ⟨wf, hwf⟩ : ∃ wf, wd.drew = wf := ⟨_, rfl⟩
    rw [hwa, hwb, hwc, hwd, hwf]
    have HF : Hid (Below w.heap.size w wf) := Lib.hid (by
      rw [← hwf, ← hwd, ← hwc, ← hwb, ← hwa]
      exact ((((HBZ.out.setCell (p := ⟨w.heap.size, 0, none⟩) (Nat.le_refl _) _).setCell (p := ⟨w.heap.size, 0, none⟩) (Nat.le_refl _) _).setCell (p := ⟨w.heap.size + 1, 0, none⟩) (by show w.heap.size ≤ w.heap.size + 1; omega) _).setCell (p := ⟨w.heap.size + 1 + 1, 0, none⟩) (by show w.heap.size ≤ w.heap.size + 1 + 1; omega) _).drew)
    have HGF : Hid (G y (.slice av nv cv) wf) := Lib.hid (by
      have g1 := HG.out _ _ _ _ w.heap.size (by omega) (RK.set w.heap.size 0 w3 (.slice av nv cv)) HGG.out
      rw [hwa] at g1
      have g2 := HG.out _ _ _ _ w.heap.size (by omega) (RK.set w.heap.size 0 wa (.slice av nv cv)) g1
      rw [hwb] at g2
      have g3 := HG.out _ _ _ _ (w.heap.size + 1) (by omega) (RK.set (w.heap.size + 1) 0 wb (.int .i64 (k' : Int))) g2
      rw [hwc] at g3
      have g4 := HG.out _ _ _ _ (w.heap.size + 1 + 1) (by omega) (RK.set (w.heap.size + 1 + 1) 0 wc (.int .i64 0)) g3
      rw [hwd] at g4
      have hne : wd.heap.size ≠ 0 := by
        have h1 := heap_lt HZ1.out
        rw [← hwd, ← hwc, ← hwb, ← hwa]
        simp only [World.size_setCell]
        omega
      have g5 := HG.out _ _ wd wf w.heap.size (by omega) ⟨by rw [← hwf]; exact (Below.refl _ _).drew, fun k o hk _ => by rw [← hwf]; exact hk⟩ g4
      exact g5)
    have m0 : wf.cell? ⟨w.heap.size, 0, none⟩ = some (.slice av nv cv) := by
      rw [← hwf]
      show wd.cell? _ = _
      rw [← hwd, World.cell?_setCell_other _ _ _ _ (by intro h; injection h with h; omega), ← hwc, World.cell?_setCell_other _ _ _ _ (by intro h; injection h with h; omega), ← hwb]
      have e1 : wa.cell? ⟨w.heap.size, 0, none⟩ = some (.slice av nv cv) := by rw [← hwa]; exact World.cell?_setCell_same _ _ _ d0
      exact World.cell?_setCell_same _ _ _ e1
    have m1 : wf.cell? ⟨w.heap.size + 1, 0, none⟩ = some (.int .i64 (k' : Int)) := by
      rw [← hwf]
      show wd.cell? _ = _
      have e1 : wb.cell? ⟨w.heap.size + 1, 0, none⟩ = some (.int .i64 0) := by
        rw [← hwb, World.cell?_setCell_other _ _ _ _ (by intro h; injection h with h; omega), ← hwa, World.cell?_setCell_other _ _ _ _ (by intro h; injection h with h; omega)]; exact d1
      rw [← hwd, World.cell?_setCell_other _ _ _ _ (by intro h; injection h with h; omega), ← hwc]
      exact World.cell?_setCell_same _ _ _ e1
    have m2 : wf.cell? ⟨w.heap.size + 1 + 1, 0, none⟩ = some (.int .i64 0) := by
      rw [← hwf]
      show wd.cell? _ = _
      have e1 : wc.cell? ⟨w.heap.size + 1 + 1, 0, none⟩ = some (.int .i64 0) := by
        rw [← hwc, World.cell?_setCell_other _ _ _ _ (by intro h; injection h with h; omega), ← hwb, World.cell?_setCell_other _ _ _ _ (by intro h; injection h with h; omega), ← hwa, World.cell?_setCell_other _ _ _ _ (by intro h; injection h with h; omega)]; exact d2
      rw [← hwd]
      exact World.cell?_setCell_same _ _ _ e1
    clear hwa hwb hwc hwd hwf d0 d1 d2 z0 z1 z2 c0 c1 c2 c3 c4
    go_wp2_with fail
    refine leaves_cons (f := 90) (args := #[.pointer (some ⟨w.heap.size, 0, none⟩), .pointer (some ⟨w.heap.size + 1, 0, none⟩), .pointer (some ⟨w.heap.size + 1 + 1, 0, none⟩)]) (by simp) (by simp [go_sem]) ?_
    refine (lcatch_idle_c ⟨w.heap.size, 0, none⟩ ⟨w.heap.size + 1, 0, none⟩ ⟨w.heap.size + 1 + 1, 0, none⟩ _).mono ?_
    rintro x u wg ⟨rfl, rfl, rfl⟩
    simp [Leaves, settle, results, Tryz.results58, go_sem, m0, m1, m2]
    exact ⟨⟨av, nv, cv, rfl, HGF.out⟩, HF.out⟩
end Go.Proofs.YtgaknbnhmoddcaaGreatDoor
namespace Go.Proofs.YtgaknbnhmoddcaaGreatDoor
open Go.RowKit Go.Lib
/-- A literal's cells, in a row that the call made. -/
def CelG (B : Nat) (out : List Cel) (u : Value) (W : World) : Prop := out.length ≤ 2048 ∧ OwnC B u out W
theorem rvalue_lit {tb off cap : Nat} {T : List Tok} (fx : Bool) {k : Nat} (w : World) (hr : TokRow tb off T w) (htb : tb < w.heap.size) (hT : T.length ≤ 100000 ∧ ∀ t ∈ T, t.text.length ≤ 100000) (hk : k < T.length) (hE : Env w) :
    Calls Tryz.prog 58 #[.slice (some ⟨tb, off, none⟩) T.length cap, .int .i64 (k : Int), .bool fx, .func (.func 59) #[] #[]] w fun x w' => ReadV (litP fx T k) (CelG (w.heap.size + 4)) x w' ∧ Below w.heap.size w w' := by
  refine lread_go_c w hr htb hT hk (litP fx T k) (CelG (w.heap.size + 4)) (fun y u W W' q hq hk h => ⟨h.1, h.2.rk hk (by omega)⟩) fun W hS hb => ?_
  refine (l_literal W hS (by omega) (fun W' h' => hE.below (hb.trans (h'.mono (by omega))) (Nat.le_refl _))).mono ?_
  intro x W' h
  cases hp : litP fx T k with
  | error e =>
    rw [hp] at h
    exact h
  | ok y =>
    obtain ⟨k', out⟩ := y
    rw [hp] at h
    obtain ⟨h1, v, h2, h3, h4, h5, h6⟩ := h
    have hv : ∃ a n c, v = .slice a n c := by
      rcases h4.2 with ⟨e1, _⟩ | ⟨g, cap, cur, e1, _⟩
      · exact ⟨_, _, _, e1⟩
      · exact ⟨_, _, _, e1⟩
    obtain ⟨a, n, c, rfl⟩ := hv
    exact ⟨a, n, c, 0, _, h2, ⟨h1, h4⟩, h3, h5⟩
set_option maxRecDepth 100000 in
theorem value_ok {tb off cap : Nat} {T : List Tok} (fx : Bool) {k : Nat} (w : World) (hr : TokRow tb off T w) (htb : tb < w.heap.size) (hT : T.length ≤ 100000 ∧ ∀ t ∈ T, t.text.length ≤ 100000) (hk : k < T.length) (hE : Env w) :
    Calls Tryz.prog 25 #[.slice (some ⟨tb, off, none⟩) T.length cap, .int .i64 (k : Int), .bool fx] w fun x w' => ReadV (litP fx T k) (CelG (w.heap.size + 4)) x w' ∧ Below w.heap.size w w' := by
  have HR := Lib.hid (rvalue_lit (cap := cap) fx w hr htb hT hk hE)
  generalize litP fx T k = R at HR ⊢
  clear hr htb hT hk hE
  go_enter Tryz.func25, Tryz.ntmps25
  go_wp2_with fail
  refine HR.out.mono ?_; rintro x w1 ⟨hx, hb⟩
  have HB := Lib.hid hb
  cases R with
  | error e =>
    have hx2 : x = .returned (.tuple #[.slice none 0 0, .int .i64 e.2, .int .i64 e.1]) := hx
    clear hx hb
    subst hx2
    go_wp2_with fail
    go_returns
    exact ⟨rfl, HB.out⟩
  | ok y =>
    obtain ⟨k', out⟩ := y
    obtain ⟨a, n, c, hx2, hg⟩ : ∃ a n c, x = .returned (.tuple #[.slice a n c, .int .i64 k', .int .i64 0]) ∧ CelG (w.heap.size + 4) out (.slice a n c) w1 := hx
    have HG := Lib.hid hg
    clear hb hg
    subst hx2
    go_wp2_with fail
    go_returns
    exact ⟨⟨a, n, c, rfl, HG.out⟩, HB.out⟩
set_option maxRecDepth 100000 in
theorem value_arg (a : Option Addr) (n cap : Nat) (at_ : Int) (fx : Bool) (hn : n ≤ 1000000) (ha : at_ < 0 ∨ (n : Int) ≤ at_) (w : World) :
    Calls Tryz.prog 25 #[.slice a n cap, .int .i64 at_, .bool fx] w fun x w' => x = .returned (.tuple #[.slice none 0 0, .int .i64 0, .int .i64 2]) ∧ Below w.heap.size w w' := by
  have HR := Lib.hid (lread_bad_c a n cap at_ fx (.func (.func 59) #[] #[]) hn ha w)
  go_enter Tryz.func25, Tryz.ntmps25
  go_wp2_with fail
  refine HR.out.mono ?_; rintro x w1 ⟨rfl, hb⟩
  go_wp2_with fail
  go_returns
  exact ⟨rfl, hb⟩
end Go.Proofs.YtgaknbnhmoddcaaGreatDoor
namespace Go.Proofs.YtgaknbnhmoddcaaGreatDoor
open Go.Lib
def hidC (c : UInt8) : Bool := c == 32 || c == 9 || c == 13 || c == 10 || c == 44
def bomL : List UInt8 := [239, 187, 191]
/-- What counts for nothing, dropped (but for remarks). -/
def hidG : Nat → List UInt8 → List UInt8
  | 0, l => l
  | _ + 1, [] => []
  | f + 1, c :: r => if hidC c then hidG f r else if bomL.isPrefixOf (c :: r) then hidG f ((c :: r).drop 3) else c :: r
def hid0 (l : List UInt8) : List UInt8 := hidG l.length l
def lineC (c : UInt8) : Bool := c != 10 && c != 13
def badC (c : UInt8) : Bool := decide (c.toNat < 32) && c != 9
/-- What counts for nothing, dropped; false: behind it stands what may not be. -/
def skipG : Nat → List UInt8 → List UInt8 × Bool
  | 0, l => (l, true)
  | f + 1, l => match hid0 l with
    | [] => ([], true)
    | c :: r => if c = 35 then
        (let ln := (c :: r).takeWhile lineC
         if ln.any badC then ((c :: r).drop (ln.takeWhile fun x => !badC x).length, false) else skipG f ((c :: r).dropWhile lineC))
      else (c :: r, true)
def skip0 (l : List UInt8) : List UInt8 × Bool := skipG (l.length + 1) l
def nameT (l : List UInt8) : Option (List UInt8) := let a := l.takeWhile nameC; if nameB a then some a else none
def numTk (l : List UInt8) : Option (List UInt8) :=
  let d := (body l).takeWhile isDig
  let r := (body l).dropWhile isDig
  if okDigits d && !((r.head?.map fun c => nameC c || c == 46).getD false) then some ((if below l then [45] else []) ++ d) else none
/-- Behind a quote, up to the next one that no backslash stands ahead of: the bytes, tabs as \\t; how many. -/
def scanT : Bool → List UInt8 → Option (List UInt8 × Nat)
  | _, [] => none
  | q, c :: r => if !q && c == 34 then some ([], 1) else
    (scanT (!q && c == 92) r).map fun x => ((if c == 9 && !q then [92, 116] else [c]) ++ x.1, x.2 + 1)
/-- What json.Read tells of any bytes. -/
def jsonT (l : List UInt8) : Except Int (List Cel) := if 16384 < l.length then .error 4 else if !validD l then .error 10 else readJ l
def txtT (l : List UInt8) : Option (List UInt8 × Nat) := match l with
  | [] => none
  | c :: r => if c ≠ 34 ∨ [34, 34, 34].isPrefixOf (c :: r) then none else match scanT false r with
    | none => none
    | some (b, n) => match jsonT (34 :: (b ++ [34])) with
      | .error _ => none
      | .ok v => some ((v.headD ⟨0, [], [], 0, 0⟩).text, n + 1)
def punT (l : List UInt8) : Option (List UInt8) := if [46, 46, 46].isPrefixOf l then some [46, 46, 46] else match l with
  | [] => none
  | c :: _ => if marksL.contains c then some [c] else none
/-- The token that stands at the beginning: its kind, its text, how many bytes it has. -/
def tokG (l : List UInt8) : Option (UInt8 × List UInt8 × Nat) := match nameT l with
  | some a => some (1, a, a.length)
  | none => match numTk l with
    | some a => some (2, a, a.length)
    | none => match txtT l with
      | some (a, n) => some (3, a, n)
      | none => (punT l).map fun a => (4, a, a.length)
/-- The tokens, so many at most; or the error, and where. -/
def lexG : Nat → Nat → List UInt8 → List Tok → Except (Int × Nat) (List Tok)
  | k, at_, l, acc => match skip0 l with
    | (l1, ok) =>
      let at1 := at_ + (l.length - l1.length)
      if !ok then .error (170, at1) else if l1.isEmpty then .ok (acc ++ [⟨0, [], (at1 : Int)⟩]) else match k with
        | 0 => .error (171, at1)
        | k + 1 => match tokG l1 with
          | none => .error (170, at1)
          | some (kd, tx, n) => lexG k (at1 + n) (l1.drop n) (acc ++ [⟨kd, tx, (at1 : Int)⟩])
def lex0 (l : List UInt8) : Except (Int × Nat) (List Tok) := if 16384 < l.length then .error (4, 0) else if !validD l then .error (10, 0) else lexG 1024 0 l []
end Go.Proofs.YtgaknbnhmoddcaaGreatDoor
namespace Go.Proofs.YtgaknbnhmoddcaaGreatDoor
/-- How the rounds stand: so many to come, such names, so many cells taken. -/
def KS (V : List Cel) (d1 k : Nat) (isL : Bool) (o : Option Nat) (g : Nat) (nm : List (List UInt8)) (u : Nat) : Prop := (kidsN (valN d1) isL g nm (V.drop (k + 1 + u))).map (u + ·) = o
theorem KS.start {V : List Cel} {d1 k : Nat} {isL : Bool} {o : Option Nat} {g : Nat} (h : kidsN (valN d1) isL g [] (V.drop (k + 1)) = o) : KS V d1 k isL o g [] 0 := by
  unfold KS
  rw [Nat.add_zero, ← h]
  cases kidsN (valN d1) isL g [] (V.drop (k + 1)) with
  | none => rfl
  | some n => show some (0 + n) = some n; rw [Nat.zero_add]
theorem KS.done {V : List Cel} {d1 k : Nat} {isL : Bool} {o : Option Nat} {nm : List (List UInt8)} {u : Nat} (h : KS V d1 k isL o 0 nm u) : o = some u := by
  unfold KS at h
  rw [← h]
  cases hd : V.drop (k + 1 + u) <;> rfl
theorem KS.out_ {V : List Cel} {d1 k : Nat} {isL : Bool} {o : Option Nat} {g : Nat} {nm : List (List UInt8)} {u : Nat} (h : KS V d1 k isL o (g + 1) nm u) (hp : V.length ≤ k + 1 + u) : o = none := by
  unfold KS at h
  rw [List.drop_of_length_le hp] at h
  rw [← h]; rfl
theorem KS.bad {V : List Cel} {d1 k : Nat} {isL : Bool} {o : Option Nat} {g : Nat} {nm : List (List UInt8)} {u p : Nat} (h : KS V d1 k isL o (g + 1) nm u) (hpu : p = k + 1 + u) (hp : p < V.length) (hok : okN isL nm V[p].name = false) : o = none := by
  subst hpu
  unfold KS at h
  rw [List.drop_eq_getElem_cons hp, kidsN, hok] at h
  rw [← h]; rfl
theorem KS.fail {V : List Cel} {d1 k : Nat} {isL : Bool} {o : Option Nat} {g : Nat} {nm : List (List UInt8)} {u p : Nat} (h : KS V d1 k isL o (g + 1) nm u) (hpu : p = k + 1 + u) (hp : p < V.length) (hok : okN isL nm V[p].name = true) (hv : valN d1 (V.drop p) = none) : o = none := by
  subst hpu
  unfold KS at h
  rw [List.drop_eq_getElem_cons hp, kidsN, hok, ← List.drop_eq_getElem_cons hp, hv] at h
  rw [← h]; rfl
theorem KS.next {V : List Cel} {d1 k : Nat} {isL : Bool} {o : Option Nat} {g : Nat} {nm : List (List UInt8)} {u p n : Nat} (h : KS V d1 k isL o (g + 1) nm u) (hpu : p = k + 1 + u) (hp : p < V.length) (hok : okN isL nm V[p].name = true) (hv : valN d1 (V.drop p) = some n) : KS V d1 k isL o g (V[p].name :: nm) (u + n) := by
  subst hpu
  unfold KS at h ⊢
  rw [List.drop_eq_getElem_cons hp, kidsN, hok, ← List.drop_eq_getElem_cons hp, hv] at h
  rw [← h]
  show _ = Option.map (u + ·) ((kidsN (valN d1) isL g (V[k + 1 + u].name :: nm) ((V.drop (k + 1 + u)).drop n)).map (n + ·))
  rw [List.drop_drop, show k + 1 + (u + n) = k + 1 + u + n from by omega, Option.map_map]
  congr 1
  funext x
  show u + n + x = u + (n + x)
  omega
theorem endI_none {V : List Cel} {p d : Nat} (h : valN d (V.drop p) = none) : endI V p d = -1 := by unfold endI; rw [h]
theorem endI_some {V : List Cel} {p d n : Nat} (h : valN d (V.drop p) = some n) : endI V p d = ((p + n : Nat) : Int) := by unfold endI; rw [h]
end Go.Proofs.YtgaknbnhmoddcaaGreatDoor
namespace Go.Proofs.YtgaknbnhmoddcaaGreatDoor
open Go.Lib
theorem quoteC_len' (c : UInt8) : (quoteC c).length ≤ 6 := by
  unfold quoteC
  repeat' split
  all_goals simp
/-- Cells whose names and texts are short. -/
def ShortV (V : List Cel) : Prop := ∀ c ∈ V, c.name.length ≤ 3000 ∧ c.text.length ≤ 3000 ∧ R c.num ∧ R c.many
theorem ShortV.drop {V : List Cel} (h : ShortV V) (n : Nat) : ShortV (V.drop n) := fun c hc => h c (List.mem_of_mem_drop hc)
/-- One round: where the next one begins. -/
theorem KS.step {V : List Cel} {d1 k : Nat} {isL : Bool} {n : Nat} {g : Nat} {nm : List (List UInt8)} {u p : Nat} (h : KS V d1 k isL (some n) (g + 1) nm u) (hpu : p = k + 1 + u) : ∃ (hp : p < V.length) (n1 : Nat), valN d1 (V.drop p) = some n1 ∧ KS V d1 k isL (some n) g (V[p].name :: nm) (u + n1) := by
  have hp : p < V.length := by
    rcases Nat.lt_or_ge p V.length with h' | h'
    · exact h'
    · have := h.out_ (by omega); cases this
  have hok : okN isL nm V[p].name = true := by
    cases ho : okN isL nm V[p].name with
    | true => rfl
    | false => have := h.bad hpu hp ho; cases this
  cases hv : valN d1 (V.drop p) with
  | none => have := h.fail hpu hp hok hv; cases this
  | some n1 => exact ⟨hp, n1, rfl, h.next hpu hp hok hv⟩
end Go.Proofs.YtgaknbnhmoddcaaGreatDoor
namespace Go.Proofs.YtgaknbnhmoddcaaGreatDoor
open Go.Lib
theorem quoteC_big (c : UInt8) (h : 128 ≤ c.toNat) : quoteC c = [c] := by
  have := (by decide +kernel : ∀ i : Fin 256, 128 ≤ i.val → quoteC (UInt8.ofNat i.val) = [UInt8.ofNat i.val]) ⟨c.toNat, UInt8.toNat_lt c⟩ h
  simpa only [UInt8.ofNat_toNat] using this
theorem big_all : ∀ l : List UInt8, (∀ c ∈ l, 128 ≤ c.toNat) → l.flatMap quoteC = l
  | [], _ => rfl
  | c :: l, h => by
    rw [List.flatMap_cons, quoteC_big c (h c (by simp)), big_all l fun x hx => h x (by simp [hx])]; rfl
/-- A code point of more than one byte has no byte below 128. -/
theorem enc_big (n : Nat) (hp : isPt n = true) (h : 128 ≤ n) : ∀ c ∈ encN n, 128 ≤ c.toNat := by
  unfold isPt at hp
  rw [decide_eq_true_eq] at hp
  intro c hc
  unfold encN at hc
  rw [if_neg (by omega)] at hc
  split at hc
  · simp only [List.mem_cons, List.not_mem_nil, or_false] at hc
    rcases hc with rfl | rfl <;> (rw [ofN _ (by omega)]; omega)
  · split at hc
    · simp only [List.mem_cons, List.not_mem_nil, or_false] at hc
      rcases hc with rfl | rfl | rfl <;> (rw [ofN _ (by omega)]; omega)
    · simp only [List.mem_cons, List.not_mem_nil, or_false] at hc
      rcases hc with rfl | rfl | rfl | rfl <;> (rw [ofN _ (by omega)]; omega)
theorem quoteC_pos (c : UInt8) : 1 ≤ (quoteC c).length := by
  unfold quoteC
  repeat' split
  all_goals simp
theorem flat_quote_len : ∀ t : List UInt8, t.length ≤ (t.flatMap quoteC).length
  | [] => by simp
  | c :: t => by
    rw [List.flatMap_cons, List.length_append, List.length_cons]
    have := quoteC_pos c
    have := flat_quote_len t
    omega
end Go.Proofs.YtgaknbnhmoddcaaGreatDoor
namespace Go.Proofs.YtgaknbnhmoddcaaGreatDoor
open Go.Lib
theorem valid_enc (p : Nat) (hp : isPt p = true) (r : List UInt8) : validD (encN p ++ r) = validD r := by
  have hd := decode_enc p hp r
  have hpos : 0 < (encN p).length := by rw [enc_len p hp]; repeat' split
                                        all_goals decide
  have hne : encN p ++ r ≠ [] := by
    intro h
    have := congrArg List.length h
    rw [List.length_append, List.length_nil] at this
    omega
  rw [valid_step _ hne]
  have hw : wellB (encN p ++ r) = true := by
    unfold wellB
    rw [hd]
    simp only [Bool.not_eq_true', decide_eq_false_iff_not]
    rintro ⟨h1, h2⟩
    rw [enc_len p hp, h1] at h2
    exact absurd h2 (by decide)
  rw [hw, Bool.true_and, hd]
  simp only [List.drop_left]
end Go.Proofs.YtgaknbnhmoddcaaGreatDoor
namespace Go.Proofs.YtgaknbnhmoddcaaGreatDoor
open Go.Lib
theorem hid_more : ∀ (n f : Nat) (l : List UInt8), l.length ≤ n → l.length ≤ f → hidG f l = hid0 l
  | 0, f, l, h, hf => by
    have : l = [] := List.length_eq_zero_iff.1 (by omega)
    subst this
    cases f <;> rfl
  | n + 1, f, [], h, hf => by cases f <;> rfl
  | n + 1, f + 1, c :: r, h, hf => by
    simp only [List.length_cons] at h hf
    unfold hid0
    rw [List.length_cons]
    simp only [hidG]
    by_cases hc : hidC c = true
    · rw [if_pos hc, if_pos hc, hid_more n f r (by omega) (by omega), hid_more n r.length r (by omega) (by omega)]
    · rw [if_neg hc, if_neg hc]
      by_cases hb : bomL.isPrefixOf (c :: r) = true
      · rw [if_pos hb, if_pos hb]
        have hd : ((c :: r).drop 3).length ≤ r.length := by simp only [List.length_drop, List.length_cons]; omega
        rw [hid_more n f _ (by omega) (by omega), hid_more n r.length _ (by omega) (by omega)]
      · rw [if_neg hb, if_neg hb]
theorem hid_cons (c : UInt8) (r : List UInt8) : hid0 (c :: r) = if hidC c then hid0 r else if bomL.isPrefixOf (c :: r) then hid0 ((c :: r).drop 3) else c :: r := by
  have hd : ((c :: r).drop 3).length ≤ r.length := by simp only [List.length_drop, List.length_cons]; omega
  rw [show hid0 (c :: r) = hidG (r.length + 1) (c :: r) from rfl]
  simp only [hidG]
  rw [hid_more r.length r.length r (Nat.le_refl _) (Nat.le_refl _), hid_more r.length r.length _ hd hd]
def kt (t : Tok) : UInt8 × List UInt8 := (t.kind, t.text)
end Go.Proofs.YtgaknbnhmoddcaaGreatDoor
namespace Go.Proofs.YtgaknbnhmoddcaaGreatDoor
open Go.Lib
def qlen (p : Nat) : Nat := ((encN p).flatMap quoteC).length
theorem qlen_le (p : Nat) (hp : isPt p = true) : qlen p ≤ 6 ∧ (128 ≤ p → qlen p = (encN p).length) := by
  unfold qlen
  by_cases h : p < 128
  · refine ⟨?_, fun h' => absurd h (by omega)⟩
    have : encN p = [UInt8.ofNat p] := by unfold encN; rw [if_pos h]
    rw [this]
    simp only [List.flatMap_cons, List.flatMap_nil, List.append_nil]
    exact quoteC_len' _
  · have hb := big_all _ (enc_big p hp (by omega))
    rw [hb]
    refine ⟨?_, fun _ => rfl⟩
    rw [enc_len p hp]
    repeat' split
    all_goals decide
theorem esc_len (r : List UInt8) (p : Nat) (t : List UInt8) (h : escJ r = some (p, t)) : qlen p + t.length ≤ r.length + 1 := by
  have hpt := (cut_esc r p t h).2.2
  have h6 := (qlen_le p hpt).1
  cases r with
  | nil => cases h
  | cons c r =>
    unfold escJ at h
    simp only at h
    cases hl : letJ c with
    | some q =>
      rw [hl] at h
      injection h with h; injection h with h1 h2
      subst h1; subst h2
      have : qlen q ≤ 2 := by
        have := (by decide +kernel : ∀ i : Fin 256, (match letJ (UInt8.ofNat i.val) with | some q => decide (qlen q ≤ 2) | none => true) = true) ⟨c.toNat, UInt8.toNat_lt c⟩
        simp only [UInt8.ofNat_toNat, hl] at this
        exact of_decide_eq_true this
      rw [List.length_cons]; omega
    | none =>
      rw [hl] at h
      simp only at h
      split at h
      · cases h
      · cases hx : hexsJ 4 0 r with
        | none => rw [hx] at h; cases h
        | some y =>
          obtain ⟨n, u⟩ := y
          rw [hx] at h
          simp only at h
          have e1 := (cut_hexs 4 0 r n u hx).2
          split at h
          · cases h
          · split at h
            · unfold lowJ at h
              cases hk : tkJ [92, 117] u with
              | none => rw [hk] at h; cases h
              | some u2 =>
                rw [hk] at h
                simp only at h
                have e2 := (cut_tk _ _ _ (by decide) hk).2
                cases hx2 : hexsJ 4 0 u2 with
                | none => rw [hx2] at h; cases h
                | some y2 =>
                  obtain ⟨m, u3⟩ := y2
                  rw [hx2] at h
                  simp only at h
                  have e3 := (cut_hexs 4 0 u2 m u3 hx2).2
                  split at h
                  · cases h
                  · injection h with h; injection h with h1 h2
                    subst h2
                    rw [List.length_cons]; omega
            · injection h with h; injection h with h1 h2
              subst h2
              rw [List.length_cons]; omega
theorem strGo_len : ∀ (f : Nat) (l : List UInt8) (P : List Nat) (t : List UInt8), validD l = true → strGo f l = some (P, t) → ((P.flatMap encN).flatMap quoteC).length + 1 + t.length ≤ l.length ∧ validD (P.flatMap encN) = true
  | 0, l, P, t, _, h => by rw [strGo] at h; cases h
  | f + 1, [], P, t, _, h => by rw [strGo] at h; cases h
  | f + 1, c :: r, P, t, hv, h => by
    rw [strGo] at h
    split at h
    · injection h with h; injection h with h1 h2
      subst h1; subst h2
      exact ⟨by simp; omega, rfl⟩
    · rename_i h34
      split at h
      · cases h
      · rename_i h32
        split at h
        · rename_i hc
          subst hc
          cases he : escJ r with
          | none => rw [he] at h; cases h
          | some pt =>
            obtain ⟨p, t1⟩ := pt
            rw [he] at h
            simp only at h
            obtain ⟨k1, k2, k3⟩ := cut_esc r p t1 he
            have k0 := cut_cons 92 r (by decide)
            cases hg : strGo f t1 with
            | none => rw [hg] at h; cases h
            | some x =>
              obtain ⟨Q, u⟩ := x
              rw [hg] at h
              injection h with h; injection h with h1 h2
              simp only at h1 h2
              subst h1; subst h2
              obtain ⟨g1, g2⟩ := strGo_len f t1 Q u ((k0.trans k1).2 hv) hg
              have e1 := esc_len r p t1 he
              unfold qlen at e1
              refine ⟨?_, by rw [List.flatMap_cons, valid_enc p k3]; exact g2⟩
              rw [List.flatMap_cons, List.flatMap_append, List.length_append, List.length_cons]
              omega
        · rename_i h92
          have hs := valid_step (c :: r) (by simp)
          rw [hv] at hs
          have hs2 := hs.symm
          rw [Bool.and_eq_true] at hs2
          obtain ⟨hw, hv2⟩ := hs2
          obtain ⟨d1, d2, d3, d4⟩ := decode_pt (c :: r) (by simp) hw
          cases hg : strGo f ((c :: r).drop (decodeL (c :: r)).2) with
          | none => rw [hg] at h; cases h
          | some x =>
            obtain ⟨Q, u⟩ := x
            rw [hg] at h
            injection h with h; injection h with h1 h2
            simp only at h1 h2
            subst h1; subst h2
            obtain ⟨g1, g2⟩ := strGo_len f _ Q u hv2 hg
            have hq : qlen (decodeL (c :: r)).1 ≤ (decodeL (c :: r)).2 := by
              have hel : (encN (decodeL (c :: r)).1).length = (decodeL (c :: r)).2 := by rw [d4, List.length_take]; omega
              by_cases hb : 128 ≤ (decodeL (c :: r)).1
              · rw [(qlen_le _ d1).2 hb, hel]; exact Nat.le_refl _
              · have h1 : encN (decodeL (c :: r)).1 = [UInt8.ofNat (decodeL (c :: r)).1] := by unfold encN; rw [if_pos (by omega)]
                have hm : (decodeL (c :: r)).2 = 1 := by rw [← hel, h1]; rfl
                have hcq : c = UInt8.ofNat (decodeL (c :: r)).1 := by
                  rw [h1, hm, List.take_succ_cons] at d4
                  injection d4 with d4 _
                  exact d4.symm
                unfold qlen
                rw [h1, ← hcq, hm]
                simp only [List.flatMap_cons, List.flatMap_nil, List.append_nil]
                have hc128 : c.toNat < 128 := by rw [hcq, ofN _ (by omega)]; omega
                have := (by decide +kernel : ∀ i : Fin 256, i.val < 128 → ¬ UInt8.ofNat i.val = 34 → ¬ i.val < 32 → ¬ UInt8.ofNat i.val = 92 → (quoteC (UInt8.ofNat i.val)).length ≤ 1) ⟨c.toNat, UInt8.toNat_lt c⟩ hc128
                simp only [UInt8.ofNat_toNat] at this
                exact this h34 h32 h92
            unfold qlen at hq
            have hdl : ((c :: r).drop (decodeL (c :: r)).2).length = (c :: r).length - (decodeL (c :: r)).2 := List.length_drop
            refine ⟨?_, by rw [List.flatMap_cons, valid_enc _ d1]; exact g2⟩
            rw [List.flatMap_cons, List.flatMap_append, List.length_append]
            omega
theorem str_len (l s t : List UInt8) (hv : validD l = true) (h : strJ l = some (s, t)) : (quoteL s).length + t.length ≤ l.length ∧ validD s = true := by
  unfold strJ at h
  cases ht : tkJ [34] l with
  | none => rw [ht] at h; cases h
  | some r =>
    rw [ht] at h
    obtain ⟨k1, k2⟩ := cut_tk _ _ _ (by decide) ht
    simp only at h
    cases hg : strGo r.length r with
    | none => rw [hg] at h; cases h
    | some x =>
      obtain ⟨P, u⟩ := x
      rw [hg] at h
      injection h with h; injection h with h1 h2
      simp only at h1 h2
      subst h1; subst h2
      obtain ⟨g1, g2⟩ := strGo_len _ r P u (k1.2 hv) hg
      refine ⟨?_, g2⟩
      unfold quoteL
      simp only [List.length_append, List.length_cons, List.length_nil] at k2 ⊢
      omega
theorem quote_ge (s : List UInt8) : s.length + 2 ≤ (quoteL s).length := by
  unfold quoteL
  have := flat_quote_len s
  simp only [List.length_append, List.length_cons, List.length_nil]
  omega
/-- A cell that was read, of so many bytes. -/
def OkO (n : Nat) (x : Cel) : Prop := (x.kind == 4 || x.kind == 5) = false ∧ R x.num ∧ R x.many ∧ x.text.length ≤ n
theorem OkO.mono {n m : Nat} {x : Cel} (h : OkO n x) (hm : n ≤ m) : OkO m x := ⟨h.1, h.2.1, h.2.2.1, Nat.le_trans h.2.2.2 hm⟩
end Go.Proofs.YtgaknbnhmoddcaaGreatDoor
namespace Go.Proofs.YtgaknbnhmoddcaaGreatDoor
open Go.Lib
theorem read_quote (x : List UInt8) (v : List Cel) (h : readJ (34 :: x) = .ok v) : ∃ s t, strJ (34 :: x) = some (s, t) ∧ v = [⟨3, [], s, 0, 0⟩] ∧ (blJ t).isEmpty = true := by
  have hv : valJ 16 [] (34 :: x) [] = leafJ [] 34 (34 :: x) [] := by
    rw [show (16 : Nat) = 15 + 1 from rfl]
    unfold valJ
    rw [show blJ (34 :: x) = 34 :: x from rfl]
    simp only
    rw [if_neg (by decide), if_neg (by decide), if_neg (by decide)]
  unfold readJ at h
  rw [hv] at h
  unfold leafJ at h
  rw [if_pos rfl] at h
  cases hs : strJ (34 :: x) with
  | none => rw [hs] at h; cases h
  | some y =>
    obtain ⟨s, t⟩ := y
    rw [hs] at h
    simp only at h
    split at h
    · rename_i hb
      injection h with h
      exact ⟨s, t, rfl, h.symm, hb⟩
    · cases h
theorem json_quote_ok (x : List UInt8) (v : List Cel) (h : jsonT (34 :: x) = .ok v) : ∃ s, v = [⟨3, [], s, 0, 0⟩] ∧ validD s = true ∧ (quoteL s).length ≤ 16384 := by
  unfold jsonT at h
  split at h
  · cases h
  rename_i hl
  split at h
  · cases h
  rename_i hv
  have hv : validD (34 :: x) = true := by simpa using hv
  obtain ⟨s, t, h1, h2, _⟩ := read_quote x v h
  obtain ⟨j1, j2⟩ := str_len _ s t hv h1
  exact ⟨s, h2, j2, by omega⟩
theorem scan_len : ∀ (q : Bool) (r b : List UInt8) (n : Nat), scanT q r = some (b, n) → 0 < n ∧ n ≤ r.length
  | q, [], b, n, h => by unfold scanT at h; cases h
  | q, c :: r, b, n, h => by
    unfold scanT at h
    split at h
    · injection h with h
      injection h with h1 h2
      subst h2
      simp
    · cases hx : scanT (!q && c == 92) r with
      | none => rw [hx] at h; cases h
      | some y =>
        obtain ⟨b', n'⟩ := y
        rw [hx] at h
        injection h with h
        injection h with h1 h2
        have := scan_len _ r b' n' hx
        simp only [List.length_cons] at *
        omega
theorem txt_may (l a : List UInt8) (n : Nat) (h : txtT l = some (a, n)) : textB a = true ∧ (quoteL a).length ≤ 16384 ∧ 0 < n ∧ n ≤ l.length := by
  unfold txtT at h
  cases l with
  | nil => cases h
  | cons c r =>
    simp only at h
    split at h
    · cases h
    · cases hs : scanT false r with
      | none => rw [hs] at h; cases h
      | some y =>
        obtain ⟨b, m⟩ := y
        rw [hs] at h
        simp only at h
        cases hj : jsonT (34 :: (b ++ [34])) with
        | error e => rw [hj] at h; cases h
        | ok v =>
          rw [hj] at h
          simp only at h
          injection h with h
          injection h with h1 h2
          obtain ⟨s, rfl, hv, hq⟩ := json_quote_ok _ v hj
          obtain ⟨k1, k2⟩ := scan_len _ _ _ _ hs
          have he : a = s := h1.symm
          subst he
          have := quote_ge a
          refine ⟨?_, hq, by omega, by simp only [List.length_cons]; omega⟩
          unfold textB
          rw [hv, decide_eq_true (by omega)]; rfl
theorem while_len (p : UInt8 → Bool) : ∀ l : List UInt8, (l.takeWhile p).length ≤ l.length
  | [] => Nat.le_refl _
  | c :: l => by
    rw [List.takeWhile_cons]
    split
    · have := while_len p l; simp only [List.length_cons]; omega
    · exact Nat.zero_le _
theorem num_may (l a : List UInt8) (h : numTk l = some a) : okDigits (body a) = true ∧ 0 < a.length ∧ a.length ≤ l.length := by
  unfold numTk at h
  simp only at h
  split at h
  · rename_i hb
    injection h with h
    rw [Bool.and_eq_true] at hb
    have hd : digitsB ((body l).takeWhile isDig) = true := by have := hb.1; unfold okDigits at this; rw [Bool.and_eq_true] at this; exact this.1
    have hne : (body l).takeWhile isDig ≠ [] := by
      intro e; rw [e] at hd; exact absurd hd (by decide)
    have hlen := while_len isDig (body l)
    have hpos : 0 < ((body l).takeWhile isDig).length := List.length_pos_iff.2 hne
    cases hx : below l with
    | true =>
      rw [hx] at h
      have hbl : (body l).length + 1 = l.length := by
        cases l with
        | nil => cases hx
        | cons c r => unfold body; rw [hx]; rfl
      subst h
      refine ⟨?_, by simp, ?_⟩
      · rw [show body ((if true = true then [45] else []) ++ (body l).takeWhile isDig) = (body l).takeWhile isDig from rfl]
        exact hb.1
      · rw [if_pos rfl, List.length_append]; simp only [List.length_cons, List.length_nil]; omega
    | false =>
      rw [hx] at h
      have hbl : body l = l := by unfold body; rw [hx]; rfl
      rw [if_neg (by decide), List.nil_append] at h
      subst h
      refine ⟨?_, hpos, by rw [hbl] at hlen ⊢; exact hlen⟩
      have : body ((body l).takeWhile isDig) = (body l).takeWhile isDig := by
        rw [hbl] at hne ⊢
        cases l with
        | nil => exact absurd rfl hne
        | cons c r =>
          have hc : c ≠ 45 := by
            have : below (c :: r) = false := hx
            unfold below at this
            exact beq_eq_false_iff_ne.1 this
          rw [List.takeWhile_cons] at hne ⊢
          split
          · unfold body
            rw [show below (c :: r.takeWhile isDig) = false from by unfold below; exact beq_eq_false_iff_ne.2 hc]
            rfl
          · rfl
      rw [this]
      exact hb.1
  · cases h
/-- A token that was read may be; and it is not nothing. -/
theorem tok_may (l a : List UInt8) (k : UInt8) (n : Nat) (p : Int) (hl : l.length ≤ 16384) (h : tokG l = some (k, a, n)) : okT ⟨k, a, p⟩ = true ∧ k ≠ 0 ∧ (tellT ⟨k, a, p⟩).length ≤ 16384 ∧ 0 < n ∧ n ≤ l.length := by
  unfold tokG at h
  cases h1 : nameT l with
  | some x =>
    rw [h1] at h
    injection h with h
    obtain ⟨rfl, rfl, rfl⟩ : 1 = k ∧ x = a ∧ x.length = n := by injection h with h h2; injection h2 with h2 h3; exact ⟨h, h2, h3⟩
    unfold nameT at h1
    simp only at h1
    split at h1
    · rename_i hb
      injection h1 with h1
      have := while_len nameC l
      rw [h1] at hb this
      refine ⟨hb, by decide, ?_, ?_, this⟩
      · show x.length ≤ 16384; omega
      · cases x with
        | nil => cases hb
        | cons c r => simp
    · cases h1
  | none =>
    rw [h1] at h
    cases h2 : numTk l with
    | some x =>
      rw [h2] at h
      injection h with h
      obtain ⟨rfl, rfl, rfl⟩ : 2 = k ∧ x = a ∧ x.length = n := by injection h with h h2; injection h2 with h2 h3; exact ⟨h, h2, h3⟩
      obtain ⟨j1, j2, j3⟩ := num_may l x h2
      exact ⟨j1, by decide, by show x.length ≤ 16384; omega, j2, j3⟩
    | none =>
      rw [h2] at h
      cases h3 : txtT l with
      | some y =>
        obtain ⟨x, m⟩ := y
        rw [h3] at h
        injection h with h
        obtain ⟨rfl, rfl, rfl⟩ : 3 = k ∧ x = a ∧ m = n := by injection h with h h2; injection h2 with h2 h3; exact ⟨h, h2, h3⟩
        obtain ⟨j1, j2, j3, j4⟩ := txt_may l x m h3
        exact ⟨j1, by decide, j2, j3, j4⟩
      | none =>
        rw [h3] at h
        simp only at h
        cases h4 : punT l with
        | none => rw [h4] at h; cases h
        | some x =>
          rw [h4] at h
          injection h with h
          obtain ⟨rfl, rfl, rfl⟩ : 4 = k ∧ x = a ∧ x.length = n := by injection h with h h2; injection h2 with h2 h3; exact ⟨h, h2, h3⟩
          unfold punT at h4
          split at h4
          · rename_i hp
            injection h4 with h4
            subst h4
            have := (List.isPrefixOf_iff_prefix.1 hp).length_le
            refine ⟨?_, by decide, ?_, by decide, this⟩
            · show markB [46, 46, 46] = true; decide
            · show ([46, 46, 46] : List UInt8).length ≤ 16384; simp
          · cases l with
            | nil => cases h4
            | cons c r =>
              simp only at h4
              split at h4
              · rename_i hm
                injection h4 with h4
                subst h4
                refine ⟨?_, by decide, by show ([c] : List UInt8).length ≤ 16384; simp, by simp, by simp⟩
                show markB [c] = true
                unfold markB
                rw [Bool.or_eq_true]
                exact Or.inr hm
              · cases h4
def incB : Int → List Tok → Bool
  | _, [] => true
  | a, t :: r => decide (a < t.pos) && incB t.pos r
theorem inc_low : ∀ (L : List Tok) (a b : Int), b ≤ a → incB a L = true → incB b L = true
  | [], _, _, _, _ => rfl
  | t :: r, a, b, h, hi => by
    unfold incB at hi ⊢
    simp only [Bool.and_eq_true, decide_eq_true_eq] at hi ⊢
    exact ⟨by omega, hi.2⟩
theorem hid_len : ∀ (f : Nat) (l : List UInt8), (hidG f l).length ≤ l.length
  | 0, l => Nat.le_refl _
  | f + 1, [] => Nat.le_refl _
  | f + 1, c :: r => by
    unfold hidG
    split
    · have := hid_len f r; simp only [List.length_cons]; omega
    · split
      · have := hid_len f ((c :: r).drop 3)
        simp only [List.length_drop, List.length_cons] at this ⊢
        omega
      · exact Nat.le_refl _
theorem dwhile_len (p : UInt8 → Bool) : ∀ l : List UInt8, (l.dropWhile p).length ≤ l.length
  | [] => Nat.le_refl _
  | c :: l => by
    rw [List.dropWhile_cons]
    split
    · have := dwhile_len p l; simp only [List.length_cons]; omega
    · exact Nat.le_refl _
theorem skip_len : ∀ (f : Nat) (l : List UInt8), (skipG f l).1.length ≤ l.length
  | 0, l => Nat.le_refl _
  | f + 1, l => by
    have h0 : (hid0 l).length ≤ l.length := hid_len _ l
    unfold skipG
    cases hx : hid0 l with
    | nil => exact Nat.zero_le _
    | cons c r =>
      rw [hx] at h0
      simp only
      split
      · split
        · simp only [List.length_drop]; omega
        · have h1 := skip_len f ((c :: r).dropWhile lineC)
          have h2 := dwhile_len lineC (c :: r)
          omega
      · exact h0
/-- What is read: tokens that may be, behind each other, and their end. -/
theorem lex_ok : ∀ (k a : Nat) (l : List UInt8) (acc R : List Tok), l.length ≤ 16384 → lexG k a l acc = .ok R →
    ∃ M e, R = acc ++ (M ++ [e]) ∧ kt e = (0, []) ∧ M.length ≤ l.length ∧ (∀ t ∈ M, okT t = true ∧ t.kind ≠ 0 ∧ (tellT t).length ≤ 16384) ∧ incB ((a : Int) - 1) (M ++ [e]) = true
  | k, a, l, acc, R, hl, h => by
    have hs : (skip0 l).1.length ≤ l.length := skip_len _ l
    unfold lexG at h
    cases hx : skip0 l with
    | mk l1 ok =>
      rw [hx] at h hs
      simp only at h hs
      split at h
      · cases h
      split at h
      · injection h with h
        refine ⟨[], _, h.symm, rfl, Nat.zero_le _, (fun t h => by cases h), ?_⟩
        show incB _ [_] = true
        unfold incB incB
        simp only [Bool.and_eq_true, decide_eq_true_eq]
        exact ⟨by omega, trivial⟩
      · cases k with
        | zero => cases h
        | succ k =>
          simp only at h
          cases ht : tokG l1 with
          | none => rw [ht] at h; cases h
          | some y =>
            obtain ⟨kd, tx, n⟩ := y
            rw [ht] at h
            simp only at h
            obtain ⟨j1, j2, j3, j4, j5⟩ := tok_may l1 tx kd n ((a + (l.length - l1.length) : Nat) : Int) (by omega) ht
            obtain ⟨M, e, m1, m2, m3, m4, m5⟩ := lex_ok k _ _ _ R (by rw [List.length_drop]; omega) h
            refine ⟨⟨kd, tx, ((a + (l.length - l1.length) : Nat) : Int)⟩ :: M, e, ?_, m2, ?_, ?_, ?_⟩
            · rw [m1, List.append_assoc]; rfl
            · rw [List.length_drop] at m3; simp only [List.length_cons]; omega
            · intro t ht
              rcases List.mem_cons.1 ht with rfl | ht
              · exact ⟨j1, j2, j3⟩
              · exact m4 t ht
            · show incB _ (_ :: (M ++ [e])) = true
              unfold incB
              simp only [Bool.and_eq_true, decide_eq_true_eq]
              exact ⟨by omega, inc_low _ _ _ (by omega) m5⟩
end Go.Proofs.YtgaknbnhmoddcaaGreatDoor
namespace Go.Proofs.YtgaknbnhmoddcaaGreatDoor
open Go.RowKit
theorem ib_cases (c : UInt8) : ∀ l : List UInt8, (l.contains c = true ∧ ∃ k : Nat, Lib.indexByte l c = k) ∨ (l.contains c = false ∧ Lib.indexByte l c = -1)
  | [] => Or.inr ⟨rfl, rfl⟩
  | b :: l => by
    rw [Lib.indexByte, List.contains_cons]
    by_cases hb : b = c
    · left; subst hb; exact ⟨by simp, 0, by simp⟩
    · have h1 : (b == c) = false := by simpa using hb
      have h2 : (c == b) = false := by simpa using fun e => hb e.symm
      rw [h1, h2, Bool.false_or]
      rcases ib_cases c l with ⟨g1, k, g2⟩ | ⟨g1, g2⟩
      · left
        refine ⟨g1, k + 1, ?_⟩
        rw [g2]
        have : (((k : Int)) == -1) = false := by rw [beq_eq_false_iff_ne]; omega
        simp only [Bool.false_eq_true, if_false, this]; omega
      · right
        refine ⟨g1, ?_⟩
        rw [g2]; rfl
theorem len_z (s : ByteArray) : s.data.toList.length = s.size := by rw [Array.length_toList]; rfl
theorem empty_z (s : ByteArray) : (0 < s.size ∧ ¬ s.toList = [] ∧ s.toList.isEmpty = false ∧ s.data.toList ≠ []) ∨ (s.size = 0 ∧ s.toList = [] ∧ s.toList.isEmpty = true ∧ s.data.toList = []) := by
  rw [ByteArray.toList_eq]
  have := len_z s
  cases h : s.data.toList with
  | nil => right; rw [h] at this; exact ⟨this.symm, rfl, rfl, rfl⟩
  | cons c r => left; rw [h] at this; exact ⟨by simp at this; omega, by simp, rfl, by simp⟩
def nameMs : List UInt8 := [95, 97, 98, 99, 100, 101, 102, 103, 104, 105, 106, 107, 108, 109, 110, 111, 112, 113, 114, 115, 116, 117, 118, 119, 120, 121, 122, 65, 66, 67, 68, 69, 70, 71, 72, 73, 74, 75, 76, 77, 78, 79, 80, 81, 82, 83, 84, 85, 86, 87, 88, 89, 90, 48, 49, 50, 51, 52, 53, 54, 55, 56, 57]
theorem all256' {f : UInt8 → Bool} (h : ∀ i : Fin 256, f (UInt8.ofNat i.val) = true) (c : UInt8) : f c = true := by
  have := h ⟨c.toNat, UInt8.toNat_lt c⟩
  simpa using this
theorem name_ms (c : UInt8) : nameMs.contains c = nameC c := by
  have := all256' (f := fun c => nameMs.contains c == nameC c) (by decide +kernel) c
  simpa using this
theorem head_z (s : ByteArray) (h : 0 < s.size) : s.data.toList = s[0] :: s.data.toList.drop 1 := by
  have := drop_at s 0 h
  rwa [List.drop_zero] at this
theorem ib_dig (c : UInt8) : Lib.indexByte (⟨#[48, 49, 50, 51, 52, 53, 54, 55, 56, 57]⟩ : ByteArray).data.toList c = if isDig c then ((c.toNat - 48 : Nat) : Int) else -1 := by
  have := all256' (f := fun c => Lib.indexByte (⟨#[48, 49, 50, 51, 52, 53, 54, 55, 56, 57]⟩ : ByteArray).data.toList c == if isDig c then ((c.toNat - 48 : Nat) : Int) else -1) (by decide +kernel) c
  simpa using this
theorem bytes_ext' {a : ByteArray} {l : List UInt8} (h : a.data.toList = l) : a = ⟨l.toArray⟩ := by
  obtain ⟨d⟩ := a
  have : d = l.toArray := by apply Array.ext'; simpa using h
  rw [this]
end Go.Proofs.YtgaknbnhmoddcaaGreatDoor
namespace Go.Proofs.YtgaknbnhmoddcaaGreatDoor
open Go.RowKit
theorem encode_high (r : Int) (h : 128 ≤ r) : 2 ≤ (Utf8.encode r).size ∧ ∀ (k : Nat) (hk : k < (Utf8.encode r).size), 128 ≤ ((Utf8.encode r)[k]).toNat := by
  have hc : ∃ c : Nat, 128 ≤ c ∧ c < 1114112 ∧ Utf8.encode r = (let b (n : Nat) : UInt8 := UInt8.ofNat n
      if c < 0x80 then ⟨#[b c]⟩
      else if c < 0x800 then ⟨#[b (0xC0 + c / 64), b (0x80 + c % 64)]⟩
      else if c < 0x10000 then ⟨#[b (0xE0 + c / 4096), b (0x80 + c / 64 % 64), b (0x80 + c % 64)]⟩
      else ⟨#[b (0xF0 + c / 262144), b (0x80 + c / 4096 % 64), b (0x80 + c / 64 % 64), b (0x80 + c % 64)]⟩) := by
    refine ⟨if Utf8.valid r then r.toNat else Utf8.runeError, ?_, ?_, rfl⟩
    · split
      · omega
      · decide
    · split
      · rename_i hv
        simp only [Utf8.valid, Bool.or_eq_true, Bool.and_eq_true, decide_eq_true_eq] at hv
        omega
      · decide
  obtain ⟨c, h1, h2, e⟩ := hc
  rw [e]
  simp only
  split
  · exfalso; omega
  split
  · refine ⟨by show 2 ≤ Array.size _; simp, ?_⟩
    intro k hk
    match k, hk with
    | 0, _ => show 128 ≤ (UInt8.ofNat (192 + c / 64)).toNat; rw [UInt8.toNat_ofNat']; omega
    | 1, _ => show 128 ≤ (UInt8.ofNat (128 + c % 64)).toNat; rw [UInt8.toNat_ofNat']; omega
  · split
    · refine ⟨by show 2 ≤ Array.size _; simp, ?_⟩
      intro k hk
      match k, hk with
      | 0, _ => show 128 ≤ (UInt8.ofNat (224 + c / 4096)).toNat; rw [UInt8.toNat_ofNat']; omega
      | 1, _ => show 128 ≤ (UInt8.ofNat (128 + c / 64 % 64)).toNat; rw [UInt8.toNat_ofNat']; omega
      | 2, _ => show 128 ≤ (UInt8.ofNat (128 + c % 64)).toNat; rw [UInt8.toNat_ofNat']; omega
    · refine ⟨by show 2 ≤ Array.size _; simp, ?_⟩
      intro k hk
      match k, hk with
      | 0, _ => show 128 ≤ (UInt8.ofNat (240 + c / 262144)).toNat; rw [UInt8.toNat_ofNat']; omega
      | 1, _ => show 128 ≤ (UInt8.ofNat (128 + c / 4096 % 64)).toNat; rw [UInt8.toNat_ofNat']; omega
      | 2, _ => show 128 ≤ (UInt8.ofNat (128 + c / 64 % 64)).toNat; rw [UInt8.toNat_ofNat']; omega
      | 3, _ => show 128 ≤ (UInt8.ofNat (128 + c % 64)).toNat; rw [UInt8.toNat_ofNat']; omega
set_option maxRecDepth 100000 in
theorem rune_none (r : Int) (h : 128 ≤ r) (h2 : r ≤ 2147483647) (w : World) :
    Calls Tryz.prog 104 #[.string ⟨#[13, 10]⟩, .int .i32 r] w fun e w' => e = .returned (.int .i64 (-1)) ∧ Below w.heap.size w w' := by
  have h0 : 0 ≤ r := by omega
  have h1 : ¬ r < 128 := by omega
  by_cases he : r = 65533
  · subst he
    have n0 := fun (w : World) ty => run_next_ascii (P := Tryz.prog) w ⟨#[13, 10]⟩ 0 ty (by decide) (by decide)
    have n1 := fun (w : World) ty => run_next_ascii (P := Tryz.prog) w ⟨#[13, 10]⟩ 1 ty (by decide) (by decide)
    have n2 := fun (w : World) ty => run_next_end (P := Tryz.prog) w ⟨#[13, 10]⟩ 2 ty (by decide)
    go_enter Tryz.func104, Tryz.ntmps104
    go_wp2_with fail
    refine wp_loop_rounds 3 ?_
    rw [rounds_succ]
    go_wp2_with fail
    rw [rounds_succ]
    go_wp2_with fail
    rw [rounds_succ]
    go_wp2_with fail
    go_ret
    refine ⟨rfl, ?_⟩
    unfold World.iter
    exact (Below.refl _ _).alloc (Nat.le_refl _) _
  · have HV := Lib.hid (fun w => Tryz.utf8_ValidRune r w)
    have HE := Lib.hid (encode_high r h)
    obtain ⟨vb, hvb⟩ : ∃ b, Lib.validRune r = b := ⟨_, rfl⟩
    rw [hvb] at HV
    clear hvb
    cases vb
    · go_enter Tryz.func104, Tryz.ntmps104
      go_wp2_with fail
      refine (HV.out _).mono ?_; rintro e w1 ⟨rfl, rfl⟩
      go_wp2_with fail
      go_ret
      exact ⟨rfl, Below.refl _ _⟩
    · obtain ⟨rs, hrs⟩ : ∃ rs : ByteArray, Utf8.encode r = rs := ⟨_, rfl⟩
      rw [hrs] at HE
      have hsz : 2 ≤ rs.size := HE.out.1
      have hsz4 : rs.size ≤ 1000 := by rw [← hrs]; have := encode_size_le r; omega
      have HX := Lib.hid (fun (s : ByteArray) (c : Int) (w : World) => Tryz.strings_IndexByte s c w)
      by_cases hs2 : rs.size = 2
      · have hl : 128 ≤ (rs[1]'(by omega)).toNat := HE.out.2 1 (by omega)
        go_enter Tryz.func104, Tryz.ntmps104
        go_wp2_with fail
        refine (HV.out _).mono ?_; rintro e w1 ⟨rfl, rfl⟩
        go_wp2_with fail
        have hne : (((⟨#[13, 10]⟩ : ByteArray)[1]'(by decide)).toNat : Int) = 10 := rfl
        have hwr : IntKind.i64.wrap 2 = 2 := by decide
        have hib : ∀ c : UInt8, Lib.indexByte [] c = -1 := fun _ => rfl
        have hl1 : ¬ ((10 : Int) = ((rs[1]'(by omega)).toNat : Int)) := by omega
        go_step3
        go_wp2_with fail
        refine wp_loop_rounds 1 ?_
        rw [rounds_succ]
        go_wp2_with fail
        go_step3
        go_wp2_with fail
        go_quiet (fail)
        go_wp2_with fail
        go_region_held3 (fun W => Below w1.heap.size w1 W) (first | assumption | exact ⟨rfl, rfl, rfl, Nat.le_refl _, fun _ _ => rfl⟩) (first | (go_at_call 72; refine (HX.out _ _ _).mono ?_; rintro e w3 ⟨rfl, rfl⟩) | fail)
        rename_i hS
        go_wp2_with fail
        rw [Exit.noGoto_ret]
        go_wp2_with fail
        rw [Exit.noGoto_ret]
        go_ret
        exact ⟨rfl, hS⟩
      · have hs3 : 3 ≤ rs.size := by omega
        go_enter Tryz.func104, Tryz.ntmps104
        go_wp2_with fail
        refine (HV.out _).mono ?_; rintro e w1 ⟨rfl, rfl⟩
        go_wp2_with fail
        have hlt : decide ((rs.size : Int) - 1 < 2) = false := by simp; omega
        have hlt2 : ¬ ((rs.size : Int) - 1 < 2) := by omega
        go_step3
        go_wp2_with fail
        refine wp_loop_rounds 1 ?_
        rw [rounds_succ]
        go_wp2_with fail
        rw [Exit.noGoto_ret]
        go_ret
        exact ⟨rfl, Below.refl _ _⟩
end Go.Proofs.YtgaknbnhmoddcaaGreatDoor
