/- The law ScalarNames: its closed calls, and the law. -/
import Derived.Test.YtpkkejcndmcbiaaGreatDoorIn
set_option linter.unusedSimpArgs false
set_option linter.unusedVariables false
namespace Go.Proofs.YtpkkejcndmcbiaaGreatDoor
open Go.RowKit Go.Shelf
theorem moneys_c (w : World) (hE : EnvS w) : DoesU w 42 #[.agg #[.int .u8 3, .string ⟨#[]⟩, .string ⟨#[48, 46, 50]⟩, .int .i64 0, .int .i64 0], .agg #[.int .u8 3, .string ⟨#[]⟩, .string ⟨#[48, 46, 49, 53]⟩, .int .i64 0, .int .i64 0]] (.int .i64 1) := fun W hW => by
  replace hE := hE.below hW
  have H1 := (show DoesU W 60 #[.string ⟨#[48, 46, 50]⟩] (.tuple #[.agg #[.int .i64 2, .int .i64 1], .int .i64 0]) from by have := mparse_d ⟨#[48, 46, 50]⟩ (by decide) W hE.r; rw [show pM ((⟨#[48, 46, 50]⟩ : ByteArray).data.toList) = 2 by decide +kernel, show pS ((⟨#[48, 46, 50]⟩ : ByteArray).data.toList) = 1 by decide +kernel, show pE ((⟨#[48, 46, 50]⟩ : ByteArray).data.toList) = 0 by decide +kernel] at this; exact this)
  have H2 := (show DoesU W 60 #[.string ⟨#[48, 46, 49, 53]⟩] (.tuple #[.agg #[.int .i64 15, .int .i64 2], .int .i64 0]) from by have := mparse_d ⟨#[48, 46, 49, 53]⟩ (by decide) W hE.r; rw [show pM ((⟨#[48, 46, 49, 53]⟩ : ByteArray).data.toList) = 15 by decide +kernel, show pS ((⟨#[48, 46, 49, 53]⟩ : ByteArray).data.toList) = 2 by decide +kernel, show pE ((⟨#[48, 46, 49, 53]⟩ : ByteArray).data.toList) = 0 by decide +kernel] at this; exact this)
  have H3 : DoesU W 62 #[.agg #[.int .i64 2, .int .i64 1], .agg #[.int .i64 15, .int .i64 2]] (.tuple #[.int .i64 1, .int .i64 0]) := fun W' _ => by
    have := mcmp_any 2 1 15 2 (by unfold R; omega) (by unfold R; omega) (by unfold R; omega) (by unfold R; omega) W'
    rw [show cmpV 2 1 15 2 = 1 by decide +kernel, show cmpE 2 1 15 2 = 0 by decide +kernel] at this
    exact this
  exact moneys_any 3 3 _ _ _ _ _ _ _ _ _ _ _ _ _ _ _ _ W (Lib.hid H1) (Lib.hid H2) (Lib.hid H3)
theorem c_7 (w : World) (hE : EnvS w) : DoesU w 4 #[.int .u8 7, .agg #[.int .u8 3, .string ⟨#[]⟩, .string ⟨#[48, 46, 50]⟩, .int .i64 0, .int .i64 0], .agg #[.int .u8 3, .string ⟨#[]⟩, .string ⟨#[48, 46, 49, 53]⟩, .int .i64 0, .int .i64 0]] (.tuple #[.int .i64 1, .int .i64 0]) := fun W hW =>
  scompare_go 7 3 ⟨#[]⟩ ⟨#[48, 46, 50]⟩ 0 0 3 ⟨#[]⟩ ⟨#[48, 46, 49, 53]⟩ 0 0 1 W (Lib.hid fun W' hW' => (kind_7 W' ((hE.below hW).below hW')).mono fun e w' ⟨⟨cap, he, hp⟩, hb⟩ => ⟨⟨_, cap, _, _, _, he, Lib.hid rfl, Lib.hid ent_moneys, (Lib.hid (by have := hp 3 ⟨#[]⟩ ⟨#[48, 46, 50]⟩ 0 0 (by omega) (by omega) (by decide) (by unfold R; omega) (by unfold R; omega); rw [v_02] at this; exact this)), (Lib.hid (by have := hp 3 ⟨#[]⟩ ⟨#[48, 46, 49, 53]⟩ 0 0 (by omega) (by omega) (by decide) (by unfold R; omega) (by unfold R; omega); rw [v_015] at this; exact this)), Lib.hid (moneys_c w' (((hE.below hW).below hW').below hb))⟩, hb⟩)
theorem c_3 (w : World) (hE : EnvS w) : DoesU w 4 #[.int .u8 3, .agg #[.int .u8 1, .string ⟨#[]⟩, .string ⟨#[]⟩, .int .i64 0, .int .i64 0], .agg #[.int .u8 1, .string ⟨#[]⟩, .string ⟨#[]⟩, .int .i64 0, .int .i64 0]] (.tuple #[.int .i64 0, .int .i64 6]) := fun W hW =>
  scompare_none 3 1 ⟨#[]⟩ ⟨#[]⟩ 0 0 1 ⟨#[]⟩ ⟨#[]⟩ 0 0 W (Lib.hid fun W' hW' => (kind_3 W' ((hE.below hW).below hW')).mono fun e w' ⟨⟨cap, he, hp⟩, hb⟩ => ⟨⟨_, cap, _, _, he, Lib.hid rfl⟩, hb⟩)
theorem ints_c (w : World) : DoesU w 32 #[.agg #[.int .u8 2, .string ⟨#[]⟩, .string ⟨#[]⟩, .int .i64 2147483647, .int .i64 0], .agg #[.int .u8 2, .string ⟨#[]⟩, .string ⟨#[]⟩, .int .i64 1, .int .i64 0]] (.tuple #[.agg #[.int .u8 2, .string ⟨#[]⟩, .string ⟨#[]⟩, .int .i64 2147483648, .int .i64 0], .bool false]) := fun W hW => by
  have := ints_any 2 2 ⟨#[]⟩ ⟨#[]⟩ ⟨#[]⟩ ⟨#[]⟩ 2147483647 0 1 0 (by omega) (by omega) W
  rw [show ((2147483647 : Int) + 1) = 2147483648 by decide, show decide ((-2147483648 : Int) ≤ 2147483648 ∧ (2147483648 : Int) ≤ 2147483647) = false by decide] at this
  exact this
theorem a_1 (w : World) (hE : EnvS w) : DoesU w 6 #[.int .u8 1, .agg #[.int .u8 2, .string ⟨#[]⟩, .string ⟨#[]⟩, .int .i64 2147483647, .int .i64 0], .agg #[.int .u8 2, .string ⟨#[]⟩, .string ⟨#[]⟩, .int .i64 1, .int .i64 0]] (.tuple #[.agg #[.int .u8 0, .string ⟨#[]⟩, .string ⟨#[]⟩, .int .i64 0, .int .i64 0], .int .i64 20]) := fun W hW =>
  sadd_over 1 2 ⟨#[]⟩ ⟨#[]⟩ 2147483647 0 2 ⟨#[]⟩ ⟨#[]⟩ 1 0 2 ⟨#[]⟩ ⟨#[]⟩ 2147483648 0 W (Lib.hid fun W' hW' => (kind_1 W' ((hE.below hW).below hW')).mono fun e w' ⟨⟨cap, he, hp⟩, hb⟩ => ⟨⟨_, cap, _, _, _, he, Lib.hid rfl, Lib.hid ent_ints, (Lib.hid (by have := hp 2 ⟨#[]⟩ ⟨#[]⟩ 2147483647 0 (by omega) (by omega) (by decide) (by unfold R; omega) (by unfold R; omega); rw [v_max] at this; exact this)), (Lib.hid (by have := hp 2 ⟨#[]⟩ ⟨#[]⟩ 1 0 (by omega) (by omega) (by decide) (by unfold R; omega) (by unfold R; omega); rw [v_1] at this; exact this)), Lib.hid (ints_c w')⟩, hb⟩)
theorem sums_c (w : World) (hE : EnvS w) : DoesU w 43 #[.agg #[.int .u8 3, .string ⟨#[]⟩, .string ⟨#[48, 46, 53]⟩, .int .i64 0, .int .i64 0], .agg #[.int .u8 3, .string ⟨#[]⟩, .string ⟨#[48, 46, 53]⟩, .int .i64 0, .int .i64 0]] (.tuple #[.agg #[.int .u8 3, .string ⟨#[]⟩, .string ⟨#[49]⟩, .int .i64 0, .int .i64 0], .bool true]) := fun W hW => by
  replace hE := hE.below hW
  have H1 := (show DoesU W 60 #[.string ⟨#[48, 46, 53]⟩] (.tuple #[.agg #[.int .i64 5, .int .i64 1], .int .i64 0]) from by have := mparse_d ⟨#[48, 46, 53]⟩ (by decide) W hE.r; rw [show pM ((⟨#[48, 46, 53]⟩ : ByteArray).data.toList) = 5 by decide +kernel, show pS ((⟨#[48, 46, 53]⟩ : ByteArray).data.toList) = 1 by decide +kernel, show pE ((⟨#[48, 46, 53]⟩ : ByteArray).data.toList) = 0 by decide +kernel] at this; exact this)
  have H3 : DoesU W 63 #[.agg #[.int .i64 5, .int .i64 1], .agg #[.int .i64 5, .int .i64 1]] (.tuple #[.agg #[.int .i64 1, .int .i64 0], .int .i64 0]) := fun W' _ => by
    have := madd_any 5 1 5 1 (by unfold R; omega) (by unfold R; omega) (by unfold R; omega) (by unfold R; omega) W'
    rw [show addM 5 1 5 1 = 1 by decide +kernel, show addS 5 1 5 1 = 0 by decide +kernel, show addE 5 1 5 1 = 0 by decide +kernel] at this
    exact this
  have H4 : DoesU W 61 #[.agg #[.int .i64 1, .int .i64 0]] (.tuple #[.string ⟨#[49]⟩, .int .i64 0]) := by
    have := mtext_d 1 0 (by unfold R; omega) (by unfold R; omega) W hE.r
    rw [show tx 1 0 = [49] by decide +kernel, show chk 1 0 = 0 by decide +kernel] at this
    exact this
  exact sums_go 3 3 _ _ _ _ _ _ _ _ _ _ _ _ _ _ _ _ _ _ W (Lib.hid H1) (Lib.hid H1) (Lib.hid H3) (Lib.hid H4)
theorem a_7 (w : World) (hE : EnvS w) : DoesU w 6 #[.int .u8 7, .agg #[.int .u8 3, .string ⟨#[]⟩, .string ⟨#[48, 46, 53]⟩, .int .i64 0, .int .i64 0], .agg #[.int .u8 3, .string ⟨#[]⟩, .string ⟨#[48, 46, 53]⟩, .int .i64 0, .int .i64 0]] (.tuple #[.agg #[.int .u8 3, .string ⟨#[]⟩, .string ⟨#[49]⟩, .int .i64 0, .int .i64 0], .int .i64 0]) := fun W hW =>
  sadd_go 7 3 ⟨#[]⟩ ⟨#[48, 46, 53]⟩ 0 0 3 ⟨#[]⟩ ⟨#[48, 46, 53]⟩ 0 0 3 ⟨#[]⟩ ⟨#[49]⟩ 0 0 W (Lib.hid fun W' hW' => (kind_7 W' ((hE.below hW).below hW')).mono fun e w' ⟨⟨cap, he, hp⟩, hb⟩ => ⟨⟨_, cap, _, _, _, he, Lib.hid rfl, Lib.hid ent_sums, (Lib.hid (by have := hp 3 ⟨#[]⟩ ⟨#[48, 46, 53]⟩ 0 0 (by omega) (by omega) (by decide) (by unfold R; omega) (by unfold R; omega); rw [v_05] at this; exact this)), (Lib.hid (by have := hp 3 ⟨#[]⟩ ⟨#[48, 46, 53]⟩ 0 0 (by omega) (by omega) (by decide) (by unfold R; omega) (by unfold R; omega); rw [v_05] at this; exact this)), Lib.hid (sums_c w' (((hE.below hW).below hW').below hb))⟩, hb⟩)
theorem l_2 (w : World) (hE : EnvS w) : DoesU w 10 #[.int .u8 2, .agg #[.int .u8 3, .string ⟨#[]⟩, .string ⟨#[97, 226, 130, 172]⟩, .int .i64 0, .int .i64 0]] (.tuple #[.int .i64 2, .int .i64 0]) := fun W hW => by
  have HK : DoesU W 22 #[.string ⟨#[97, 226, 130, 172]⟩] (.int .i64 0) := fun W' hW' => by
    have := tcheck_any ⟨#[97, 226, 130, 172]⟩ (by decide) W' ((hE.u.below hW).below hW')
    rw [show chkE ((⟨#[97, 226, 130, 172]⟩ : ByteArray).data.toList) = 0 by decide +kernel] at this
    exact this
  have HT : DoesU W 17 #[.string ⟨#[97, 226, 130, 172]⟩] (.tuple #[.int .i64 2, .int .i64 0]) := fun W' hW' => by
    have := tcount_go ⟨#[97, 226, 130, 172]⟩ (by decide) W' (Lib.hid (DoesU.below HK hW'))
    rw [show ((Lib.runeCount ⟨#[97, 226, 130, 172]⟩ : Nat) : Int) = 2 by decide +kernel] at this
    exact this
  exact slong_go 2 3 ⟨#[]⟩ ⟨#[97, 226, 130, 172]⟩ 0 0 2 0 W (Lib.hid fun W' hW' => (kind_2 W' ((hE.below hW).below hW')).mono fun e w' ⟨⟨cap, he, hp⟩, hb⟩ => ⟨⟨_, cap, _, _, he, Lib.hid ⟨rfl, rfl⟩, (Lib.hid (by have := hp 3 ⟨#[]⟩ ⟨#[97, 226, 130, 172]⟩ 0 0 (by omega) (by omega) (by decide) (by unfold R; omega) (by unfold R; omega); rw [v_ae] at this; exact this))⟩, hb⟩) (Lib.hid HT)
theorem of_uuid (w : World) : DoesU w 8 #[.string ⟨#[85, 85, 73, 68]⟩] (.tuple #[.int .u8 6, .bool true]) := fun W _ => by
  have := sof_any ⟨#[85, 85, 73, 68]⟩ W
  rw [show idxS ⟨#[85, 85, 73, 68]⟩ namesL 0 = 5 by simp [idxS, namesL, ByteArray.toList_eq]] at this
  exact this
theorem keepL {w W W' : World} (hb : Below W.heap.size W W') (h : (fun W => Below w.heap.size w W ∧ EnvS W) W) : (fun W => Below w.heap.size w W ∧ EnvS W) W' := ⟨h.1.trans (hb.mono h.1.size), h.2.below hb⟩
set_option maxRecDepth 100000 in
set_option maxHeartbeats 4000000 in
theorem lalive16 (w : World) (hE : EnvS w) :
    Calls Tryz.prog 11 #[] w fun e w' => e = .returned (.bool true) ∧ Below w.heap.size w w' := by
  go_enter Tryz.func11, Tryz.ntmps11
  go_wp2_with fail
  have hHeld : (fun W => Below w.heap.size w W ∧ EnvS W) w := ⟨Below.refl _ _, hE⟩
  skip
  refine ((ltext_d ⟨#[49, 46, 53, 48]⟩ w) _ hHeld.1).mono ?_; rintro e wc0 ⟨rfl, hb⟩
  go_wp2_with fail
  have hHeld : (fun W => Below w.heap.size w W ∧ EnvS W) wc0 := keepL hb hHeld
  clear hb
  refine ((ltext_d ⟨#[49, 46, 53]⟩ w) _ hHeld.1).mono ?_; rintro e wc1 ⟨rfl, hb⟩
  go_wp2_with fail
  have hHeld : (fun W => Below w.heap.size w W ∧ EnvS W) wc1 := keepL hb hHeld
  clear hb
  refine (reads_yes 7 3 ⟨#[]⟩ ⟨#[49, 46, 53, 48]⟩ 0 0 3 ⟨#[]⟩ ⟨#[49, 46, 53]⟩ 0 0 _ (Lib.hid (r_150 _ hHeld.2))).mono ?_; rintro e wc2 ⟨rfl, hb⟩
  go_wp2_with fail
  have hHeld : (fun W => Below w.heap.size w W ∧ EnvS W) wc2 := keepL hb hHeld
  clear hb
  refine ((lnumber_d 3 w) _ hHeld.1).mono ?_; rintro e wc3 ⟨rfl, hb⟩
  go_wp2_with fail
  have hHeld : (fun W => Below w.heap.size w W ∧ EnvS W) wc3 := keepL hb hHeld
  clear hb
  refine ((ltext_d ⟨#[51]⟩ w) _ hHeld.1).mono ?_; rintro e wc4 ⟨rfl, hb⟩
  go_wp2_with fail
  have hHeld : (fun W => Below w.heap.size w W ∧ EnvS W) wc4 := keepL hb hHeld
  clear hb
  refine (reads_yes 7 2 ⟨#[]⟩ ⟨#[]⟩ 3 0 3 ⟨#[]⟩ ⟨#[51]⟩ 0 0 _ (Lib.hid (r_3 _ hHeld.2))).mono ?_; rintro e wc5 ⟨rfl, hb⟩
  go_wp2_with fail
  have hHeld : (fun W => Below w.heap.size w W ∧ EnvS W) wc5 := keepL hb hHeld
  clear hb
  refine ((lnumber_d 7 w) _ hHeld.1).mono ?_; rintro e wc6 ⟨rfl, hb⟩
  go_wp2_with fail
  have hHeld : (fun W => Below w.heap.size w W ∧ EnvS W) wc6 := keepL hb hHeld
  clear hb
  refine ((ltext_d ⟨#[55]⟩ w) _ hHeld.1).mono ?_; rintro e wc7 ⟨rfl, hb⟩
  go_wp2_with fail
  have hHeld : (fun W => Below w.heap.size w W ∧ EnvS W) wc7 := keepL hb hHeld
  clear hb
  refine (reads_yes 4 2 ⟨#[]⟩ ⟨#[]⟩ 7 0 3 ⟨#[]⟩ ⟨#[55]⟩ 0 0 _ (Lib.hid (r_7 _ hHeld.2))).mono ?_; rintro e wc8 ⟨rfl, hb⟩
  go_wp2_with fail
  have hHeld : (fun W => Below w.heap.size w W ∧ EnvS W) wc8 := keepL hb hHeld
  clear hb
  refine ((lnumber_d 2147483648 w) _ hHeld.1).mono ?_; rintro e wc9 ⟨rfl, hb⟩
  go_wp2_with fail
  have hHeld : (fun W => Below w.heap.size w W ∧ EnvS W) wc9 := keepL hb hHeld
  clear hb
  refine (none_yes 1 2 ⟨#[]⟩ ⟨#[]⟩ 2147483648 0 _ (Lib.hid (r_big _ hHeld.2))).mono ?_; rintro e wc10 ⟨rfl, hb⟩
  go_wp2_with fail
  go_ret
  exact ⟨rfl, hHeld.1.trans (hb.mono hHeld.1.size)⟩
theorem keepN {w W W' : World} {b : Nat} (hb : Below W.heap.size W W') (h : (fun W => Below w.heap.size w W ∧ EnvS W ∧ W.heap[b]? = some (.cells #[.int .u8 3, .string ⟨#[]⟩, .string ⟨#[49]⟩, .int .i64 0, .int .i64 0] 26 (0, 0)) ∧ W.cell? ⟨b, 0, none⟩ = some (.int .u8 3) ∧ W.cell? ⟨b, 1, none⟩ = some (.string ⟨#[]⟩) ∧ W.cell? ⟨b, 2, none⟩ = some (.string ⟨#[49]⟩) ∧ W.cell? ⟨b, 3, none⟩ = some (.int .i64 0) ∧ W.cell? ⟨b, 4, none⟩ = some (.int .i64 0)) W) : (fun W => Below w.heap.size w W ∧ EnvS W ∧ W.heap[b]? = some (.cells #[.int .u8 3, .string ⟨#[]⟩, .string ⟨#[49]⟩, .int .i64 0, .int .i64 0] 26 (0, 0)) ∧ W.cell? ⟨b, 0, none⟩ = some (.int .u8 3) ∧ W.cell? ⟨b, 1, none⟩ = some (.string ⟨#[]⟩) ∧ W.cell? ⟨b, 2, none⟩ = some (.string ⟨#[49]⟩) ∧ W.cell? ⟨b, 3, none⟩ = some (.int .i64 0) ∧ W.cell? ⟨b, 4, none⟩ = some (.int .i64 0)) W' := by
  obtain ⟨h1, h2, h3, h4⟩ := h
  have h5 := (hb.block b (heap_lt h3)).trans h3
  exact ⟨h1.trans (hb.mono h1.size), h2.below hb, h5, (Lib.cell_of_heap h5 0).trans rfl, (Lib.cell_of_heap h5 1).trans rfl, (Lib.cell_of_heap h5 2).trans rfl, (Lib.cell_of_heap h5 3).trans rfl, (Lib.cell_of_heap h5 4).trans rfl⟩
set_option maxRecDepth 100000 in
set_option maxHeartbeats 4000000 in
theorem scalarnames_walk (w : World) (hE : EnvS w) :
    Calls Tryz.prog 3 #[] w fun e w' => e = .returned (.bool true) ∧ Below w.heap.size w w' := by
  have HT1 := Lib.hid (ltext_d ⟨#[48, 46, 50]⟩ w)
  have HT2 := Lib.hid (ltext_d ⟨#[48, 46, 49, 53]⟩ w)
  have HC1 := Lib.hid (c_7 w hE)
  have HC2 := Lib.hid (c_3 w hE)
  have HN1 := Lib.hid (lnumber_d 2147483647 w)
  have HN2 := Lib.hid (lnumber_d 1 w)
  have HA1 := Lib.hid (a_1 w hE)
  have HT3 := Lib.hid (ltext_d ⟨#[48, 46, 53]⟩ w)
  have HA2 := Lib.hid (a_7 w hE)
  have HO := Lib.hid (of_uuid w)
  have HM8 : Hid (DoesU w 9 #[.int .u8 8] (.tuple #[.string ⟨#[85, 82, 76]⟩, .int .i64 0])) := Lib.hid fun W _ => sname_8 W
  have HM9 : Hid (DoesU w 9 #[.int .u8 9] (.tuple #[.string ⟨#[]⟩, .int .i64 2])) := Lib.hid fun W _ => sname_high 9 (by omega) (by omega) W
  have HT4 := Lib.hid (ltext_d ⟨#[97, 226, 130, 172]⟩ w)
  have HL := Lib.hid (l_2 w hE)
  go_enter Tryz.func3, Tryz.ntmps3
  go_wp2_with fail
  refine (HT1.out _ (by first | exact Below.refl _ _ | (go_grown; done))).mono ?_; rintro e w1 ⟨rfl, hb⟩
  have hbw1 : Below w.heap.size w w1 := (show Below w.heap.size w _ by first | exact Below.refl _ _ | (go_grown; done)).trans (hb.mono (by first | omega | (simp; done) | (simp; omega)))
  clear hb
  have sz1 := hbw1.size
  have HW1 := Lib.hid hbw1
  go_wp2_with fail
  refine (HT2.out _ (by first | exact HW1.out | exact HW1.out.trans ⟨rfl, rfl, rfl, Nat.le_refl _, fun _ _ => rfl⟩ | (go_grown; done))).mono ?_; rintro e w2 ⟨rfl, hb⟩
  have hbw2 : Below w.heap.size w w2 := (show Below w.heap.size w _ by first | exact HW1.out.trans ⟨rfl, rfl, rfl, Nat.le_refl _, fun _ _ => rfl⟩ | exact HW1.out | (go_grown; done)).trans (hb.mono (by first | omega | (simp; done) | (simp; omega)))
  clear hb hbw1
  have sz2 := hbw2.size
  have HW2 := Lib.hid hbw2
  go_wp2_with fail
  refine (HC1.out _ (by first | exact HW2.out | exact HW2.out.trans ⟨rfl, rfl, rfl, Nat.le_refl _, fun _ _ => rfl⟩ | (go_grown; done))).mono ?_; rintro e w3 ⟨rfl, hb⟩
  have hbw3 : Below w.heap.size w w3 := (show Below w.heap.size w _ by first | exact HW2.out.trans ⟨rfl, rfl, rfl, Nat.le_refl _, fun _ _ => rfl⟩ | exact HW2.out | (go_grown; done)).trans (hb.mono (by first | omega | (simp; done) | (simp; omega)))
  clear hb hbw2
  have sz3 := hbw3.size
  have HW3 := Lib.hid hbw3
  go_wp2_with fail
  refine (HC2.out _ (by first | exact HW3.out | exact HW3.out.trans ⟨rfl, rfl, rfl, Nat.le_refl _, fun _ _ => rfl⟩ | (go_grown; done))).mono ?_; rintro e w4 ⟨rfl, hb⟩
  have hbw4 : Below w.heap.size w w4 := (show Below w.heap.size w _ by first | exact HW3.out.trans ⟨rfl, rfl, rfl, Nat.le_refl _, fun _ _ => rfl⟩ | exact HW3.out | (go_grown; done)).trans (hb.mono (by first | omega | (simp; done) | (simp; omega)))
  clear hb hbw3
  have sz4 := hbw4.size
  have HW4 := Lib.hid hbw4
  go_wp2_with fail
  refine (HN1.out _ (by first | exact HW4.out | exact HW4.out.trans ⟨rfl, rfl, rfl, Nat.le_refl _, fun _ _ => rfl⟩ | (go_grown; done))).mono ?_; rintro e w5 ⟨rfl, hb⟩
  have hbw5 : Below w.heap.size w w5 := (show Below w.heap.size w _ by first | exact HW4.out.trans ⟨rfl, rfl, rfl, Nat.le_refl _, fun _ _ => rfl⟩ | exact HW4.out | (go_grown; done)).trans (hb.mono (by first | omega | (simp; done) | (simp; omega)))
  clear hb hbw4
  have sz5 := hbw5.size
  have HW5 := Lib.hid hbw5
  go_wp2_with fail
  refine (HN2.out _ (by first | exact HW5.out | exact HW5.out.trans ⟨rfl, rfl, rfl, Nat.le_refl _, fun _ _ => rfl⟩ | (go_grown; done))).mono ?_; rintro e w6 ⟨rfl, hb⟩
  have hbw6 : Below w.heap.size w w6 := (show Below w.heap.size w _ by first | exact HW5.out.trans ⟨rfl, rfl, rfl, Nat.le_refl _, fun _ _ => rfl⟩ | exact HW5.out | (go_grown; done)).trans (hb.mono (by first | omega | (simp; done) | (simp; omega)))
  clear hb hbw5
  have sz6 := hbw6.size
  have HW6 := Lib.hid hbw6
  go_wp2_with fail
  refine (HA1.out _ (by first | exact HW6.out | exact HW6.out.trans ⟨rfl, rfl, rfl, Nat.le_refl _, fun _ _ => rfl⟩ | (go_grown; done))).mono ?_; rintro e w7 ⟨rfl, hb⟩
  have hbw7 : Below w.heap.size w w7 := (show Below w.heap.size w _ by first | exact HW6.out.trans ⟨rfl, rfl, rfl, Nat.le_refl _, fun _ _ => rfl⟩ | exact HW6.out | (go_grown; done)).trans (hb.mono (by first | omega | (simp; done) | (simp; omega)))
  clear hb hbw6
  have sz7 := hbw7.size
  have HW7 := Lib.hid hbw7
  go_wp2_with fail
  refine (HT3.out _ (by first | exact HW7.out | exact HW7.out.trans ⟨rfl, rfl, rfl, Nat.le_refl _, fun _ _ => rfl⟩ | (go_grown; done))).mono ?_; rintro e w8 ⟨rfl, hb⟩
  have hh0 : w8.heap[w7.heap.size]? = some (.cells #[.int .u8 0, .string ⟨#[]⟩, .string ⟨#[]⟩, .int .i64 0, .int .i64 0] 26 (0, 0)) := (hb.block _ (by first | omega | (simp; done) | (simp; omega))).trans (heap_new _ _ _ (by first | rfl | simp))
  have hbw8 : Below w.heap.size w w8 := (show Below w.heap.size w _ by first | exact HW7.out.trans ⟨rfl, rfl, rfl, Nat.le_refl _, fun _ _ => rfl⟩ | exact HW7.out | (go_grown; done)).trans (hb.mono (by first | omega | (simp; done) | (simp; omega)))
  clear hb hbw7
  have HH0_8 := Lib.hid hh0
  have lt0 := heap_lt hh0
  have c0_0 : w8.cell? ⟨w7.heap.size, 0, none⟩ = some (.int .u8 0) := by rw [Lib.cell_of_heap hh0]; rfl
  have c0_1 : w8.cell? ⟨w7.heap.size, 1, none⟩ = some (.string ⟨#[]⟩) := by rw [Lib.cell_of_heap hh0]; rfl
  have c0_2 : w8.cell? ⟨w7.heap.size, 2, none⟩ = some (.string ⟨#[]⟩) := by rw [Lib.cell_of_heap hh0]; rfl
  have c0_3 : w8.cell? ⟨w7.heap.size, 3, none⟩ = some (.int .i64 0) := by rw [Lib.cell_of_heap hh0]; rfl
  have c0_4 : w8.cell? ⟨w7.heap.size, 4, none⟩ = some (.int .i64 0) := by rw [Lib.cell_of_heap hh0]; rfl
  clear hh0
  have sz8 := hbw8.size
  have HW8 := Lib.hid hbw8
  go_wp2_with fail
  refine (HT3.out _ (by first | exact HW8.out | exact HW8.out.trans ⟨rfl, rfl, rfl, Nat.le_refl _, fun _ _ => rfl⟩ | (go_grown; done))).mono ?_; rintro e w9 ⟨rfl, hb⟩
  have hv0 := HH0_8.out
  have hh0 : w9.heap[w7.heap.size]? = some (.cells #[.int .u8 0, .string ⟨#[]⟩, .string ⟨#[]⟩, .int .i64 0, .int .i64 0] 26 (0, 0)) := (hb.block _ (heap_lt hv0)).trans hv0
  clear hv0
  have hbw9 : Below w.heap.size w w9 := (show Below w.heap.size w _ by first | exact HW8.out.trans ⟨rfl, rfl, rfl, Nat.le_refl _, fun _ _ => rfl⟩ | exact HW8.out | (go_grown; done)).trans (hb.mono (by first | omega | (simp; done) | (simp; omega)))
  clear hb lt0 c0_0 c0_1 c0_2 c0_3 c0_4 hbw8
  have HH0_9 := Lib.hid hh0
  have lt0 := heap_lt hh0
  have c0_0 : w9.cell? ⟨w7.heap.size, 0, none⟩ = some (.int .u8 0) := by rw [Lib.cell_of_heap hh0]; rfl
  have c0_1 : w9.cell? ⟨w7.heap.size, 1, none⟩ = some (.string ⟨#[]⟩) := by rw [Lib.cell_of_heap hh0]; rfl
  have c0_2 : w9.cell? ⟨w7.heap.size, 2, none⟩ = some (.string ⟨#[]⟩) := by rw [Lib.cell_of_heap hh0]; rfl
  have c0_3 : w9.cell? ⟨w7.heap.size, 3, none⟩ = some (.int .i64 0) := by rw [Lib.cell_of_heap hh0]; rfl
  have c0_4 : w9.cell? ⟨w7.heap.size, 4, none⟩ = some (.int .i64 0) := by rw [Lib.cell_of_heap hh0]; rfl
  clear hh0
  have sz9 := hbw9.size
  have HW9 := Lib.hid hbw9
  go_wp2_with fail
  refine (HA2.out _ (by first | exact HW9.out | exact HW9.out.trans ⟨rfl, rfl, rfl, Nat.le_refl _, fun _ _ => rfl⟩ | (go_grown; done))).mono ?_; rintro e w10 ⟨rfl, hb⟩
  have hv0 := HH0_9.out
  have hh0 : w10.heap[w7.heap.size]? = some (.cells #[.int .u8 0, .string ⟨#[]⟩, .string ⟨#[]⟩, .int .i64 0, .int .i64 0] 26 (0, 0)) := (hb.block _ (heap_lt hv0)).trans hv0
  clear hv0
  have hbw10 : Below w.heap.size w w10 := (show Below w.heap.size w _ by first | exact HW9.out.trans ⟨rfl, rfl, rfl, Nat.le_refl _, fun _ _ => rfl⟩ | exact HW9.out | (go_grown; done)).trans (hb.mono (by first | omega | (simp; done) | (simp; omega)))
  clear hb lt0 c0_0 c0_1 c0_2 c0_3 c0_4 hbw9
  have HH0_10 := Lib.hid hh0
  have lt0 := heap_lt hh0
  have c0_0 : w10.cell? ⟨w7.heap.size, 0, none⟩ = some (.int .u8 0) := by rw [Lib.cell_of_heap hh0]; rfl
  have c0_1 : w10.cell? ⟨w7.heap.size, 1, none⟩ = some (.string ⟨#[]⟩) := by rw [Lib.cell_of_heap hh0]; rfl
  have c0_2 : w10.cell? ⟨w7.heap.size, 2, none⟩ = some (.string ⟨#[]⟩) := by rw [Lib.cell_of_heap hh0]; rfl
  have c0_3 : w10.cell? ⟨w7.heap.size, 3, none⟩ = some (.int .i64 0) := by rw [Lib.cell_of_heap hh0]; rfl
  have c0_4 : w10.cell? ⟨w7.heap.size, 4, none⟩ = some (.int .i64 0) := by rw [Lib.cell_of_heap hh0]; rfl
  clear hh0
  have sz10 := hbw10.size
  have HW10 := Lib.hid hbw10
  go_wp2_with fail
  refine (HO.out _ (by first | exact HW10.out | exact HW10.out.trans ⟨rfl, rfl, rfl, Nat.le_refl _, fun _ _ => rfl⟩ | (go_grown; done))).mono ?_; rintro e w11 ⟨rfl, hb⟩
  have hv0 := heap_old (o' := (.cells #[.int .u8 3, .string ⟨#[]⟩, .string ⟨#[49]⟩, .int .i64 0, .int .i64 0] 26 (0, 0))) (HH0_10.out)
  have hh0 : w11.heap[w7.heap.size]? = some (.cells #[.int .u8 0, .string ⟨#[]⟩, .string ⟨#[]⟩, .int .i64 0, .int .i64 0] 26 (0, 0)) := (hb.block _ (heap_lt hv0)).trans hv0
  clear hv0
  have hh1 : w11.heap[w10.heap.size]? = some (.cells #[.int .u8 3, .string ⟨#[]⟩, .string ⟨#[49]⟩, .int .i64 0, .int .i64 0] 26 (0, 0)) := (hb.block _ (by first | omega | (simp; done) | (simp; omega))).trans (heap_new _ _ _ (by first | rfl | simp))
  have hbw11 : Below w.heap.size w w11 := (show Below w.heap.size w _ by first | exact HW10.out.trans ⟨rfl, rfl, rfl, Nat.le_refl _, fun _ _ => rfl⟩ | exact HW10.out | (go_grown; done)).trans (hb.mono (by first | omega | (simp; done) | (simp; omega)))
  clear hb lt0 c0_0 c0_1 c0_2 c0_3 c0_4 hbw10
  have HH0_11 := Lib.hid hh0
  have lt0 := heap_lt hh0
  have c0_0 : w11.cell? ⟨w7.heap.size, 0, none⟩ = some (.int .u8 0) := by rw [Lib.cell_of_heap hh0]; rfl
  have c0_1 : w11.cell? ⟨w7.heap.size, 1, none⟩ = some (.string ⟨#[]⟩) := by rw [Lib.cell_of_heap hh0]; rfl
  have c0_2 : w11.cell? ⟨w7.heap.size, 2, none⟩ = some (.string ⟨#[]⟩) := by rw [Lib.cell_of_heap hh0]; rfl
  have c0_3 : w11.cell? ⟨w7.heap.size, 3, none⟩ = some (.int .i64 0) := by rw [Lib.cell_of_heap hh0]; rfl
  have c0_4 : w11.cell? ⟨w7.heap.size, 4, none⟩ = some (.int .i64 0) := by rw [Lib.cell_of_heap hh0]; rfl
  clear hh0
  have HH1_11 := Lib.hid hh1
  have lt1 := heap_lt hh1
  have c1_0 : w11.cell? ⟨w10.heap.size, 0, none⟩ = some (.int .u8 3) := by rw [Lib.cell_of_heap hh1]; rfl
  have c1_1 : w11.cell? ⟨w10.heap.size, 1, none⟩ = some (.string ⟨#[]⟩) := by rw [Lib.cell_of_heap hh1]; rfl
  have c1_2 : w11.cell? ⟨w10.heap.size, 2, none⟩ = some (.string ⟨#[49]⟩) := by rw [Lib.cell_of_heap hh1]; rfl
  have c1_3 : w11.cell? ⟨w10.heap.size, 3, none⟩ = some (.int .i64 0) := by rw [Lib.cell_of_heap hh1]; rfl
  have c1_4 : w11.cell? ⟨w10.heap.size, 4, none⟩ = some (.int .i64 0) := by rw [Lib.cell_of_heap hh1]; rfl
  clear hh1
  have sz11 := hbw11.size
  have HW11 := Lib.hid hbw11
  go_wp2_with fail
  refine (HM8.out _ (by first | exact HW11.out | exact HW11.out.trans ⟨rfl, rfl, rfl, Nat.le_refl _, fun _ _ => rfl⟩ | (go_grown; done))).mono ?_; rintro e w12 ⟨rfl, hb⟩
  have hv0 := HH0_11.out
  have hh0 : w12.heap[w7.heap.size]? = some (.cells #[.int .u8 0, .string ⟨#[]⟩, .string ⟨#[]⟩, .int .i64 0, .int .i64 0] 26 (0, 0)) := (hb.block _ (heap_lt hv0)).trans hv0
  clear hv0
  have hv1 := HH1_11.out
  have hh1 : w12.heap[w10.heap.size]? = some (.cells #[.int .u8 3, .string ⟨#[]⟩, .string ⟨#[49]⟩, .int .i64 0, .int .i64 0] 26 (0, 0)) := (hb.block _ (heap_lt hv1)).trans hv1
  clear hv1
  have hbw12 : Below w.heap.size w w12 := (show Below w.heap.size w _ by first | exact HW11.out.trans ⟨rfl, rfl, rfl, Nat.le_refl _, fun _ _ => rfl⟩ | exact HW11.out | (go_grown; done)).trans (hb.mono (by first | omega | (simp; done) | (simp; omega)))
  clear hb lt0 c0_0 c0_1 c0_2 c0_3 c0_4 lt1 c1_0 c1_1 c1_2 c1_3 c1_4 hbw11
  have HH0_12 := Lib.hid hh0
  have lt0 := heap_lt hh0
  have c0_0 : w12.cell? ⟨w7.heap.size, 0, none⟩ = some (.int .u8 0) := by rw [Lib.cell_of_heap hh0]; rfl
  have c0_1 : w12.cell? ⟨w7.heap.size, 1, none⟩ = some (.string ⟨#[]⟩) := by rw [Lib.cell_of_heap hh0]; rfl
  have c0_2 : w12.cell? ⟨w7.heap.size, 2, none⟩ = some (.string ⟨#[]⟩) := by rw [Lib.cell_of_heap hh0]; rfl
  have c0_3 : w12.cell? ⟨w7.heap.size, 3, none⟩ = some (.int .i64 0) := by rw [Lib.cell_of_heap hh0]; rfl
  have c0_4 : w12.cell? ⟨w7.heap.size, 4, none⟩ = some (.int .i64 0) := by rw [Lib.cell_of_heap hh0]; rfl
  clear hh0
  have HH1_12 := Lib.hid hh1
  have lt1 := heap_lt hh1
  have c1_0 : w12.cell? ⟨w10.heap.size, 0, none⟩ = some (.int .u8 3) := by rw [Lib.cell_of_heap hh1]; rfl
  have c1_1 : w12.cell? ⟨w10.heap.size, 1, none⟩ = some (.string ⟨#[]⟩) := by rw [Lib.cell_of_heap hh1]; rfl
  have c1_2 : w12.cell? ⟨w10.heap.size, 2, none⟩ = some (.string ⟨#[49]⟩) := by rw [Lib.cell_of_heap hh1]; rfl
  have c1_3 : w12.cell? ⟨w10.heap.size, 3, none⟩ = some (.int .i64 0) := by rw [Lib.cell_of_heap hh1]; rfl
  have c1_4 : w12.cell? ⟨w10.heap.size, 4, none⟩ = some (.int .i64 0) := by rw [Lib.cell_of_heap hh1]; rfl
  clear hh1
  have sz12 := hbw12.size
  have HW12 := Lib.hid hbw12
  go_wp2_with fail
  refine (HM9.out _ (by first | exact HW12.out | exact HW12.out.trans ⟨rfl, rfl, rfl, Nat.le_refl _, fun _ _ => rfl⟩ | (go_grown; done))).mono ?_; rintro e w13 ⟨rfl, hb⟩
  have hv0 := HH0_12.out
  have hh0 : w13.heap[w7.heap.size]? = some (.cells #[.int .u8 0, .string ⟨#[]⟩, .string ⟨#[]⟩, .int .i64 0, .int .i64 0] 26 (0, 0)) := (hb.block _ (heap_lt hv0)).trans hv0
  clear hv0
  have hv1 := HH1_12.out
  have hh1 : w13.heap[w10.heap.size]? = some (.cells #[.int .u8 3, .string ⟨#[]⟩, .string ⟨#[49]⟩, .int .i64 0, .int .i64 0] 26 (0, 0)) := (hb.block _ (heap_lt hv1)).trans hv1
  clear hv1
  have hbw13 : Below w.heap.size w w13 := (show Below w.heap.size w _ by first | exact HW12.out.trans ⟨rfl, rfl, rfl, Nat.le_refl _, fun _ _ => rfl⟩ | exact HW12.out | (go_grown; done)).trans (hb.mono (by first | omega | (simp; done) | (simp; omega)))
  clear hb lt0 c0_0 c0_1 c0_2 c0_3 c0_4 lt1 c1_0 c1_1 c1_2 c1_3 c1_4 hbw12
  have HH0_13 := Lib.hid hh0
  have lt0 := heap_lt hh0
  have c0_0 : w13.cell? ⟨w7.heap.size, 0, none⟩ = some (.int .u8 0) := by rw [Lib.cell_of_heap hh0]; rfl
  have c0_1 : w13.cell? ⟨w7.heap.size, 1, none⟩ = some (.string ⟨#[]⟩) := by rw [Lib.cell_of_heap hh0]; rfl
  have c0_2 : w13.cell? ⟨w7.heap.size, 2, none⟩ = some (.string ⟨#[]⟩) := by rw [Lib.cell_of_heap hh0]; rfl
  have c0_3 : w13.cell? ⟨w7.heap.size, 3, none⟩ = some (.int .i64 0) := by rw [Lib.cell_of_heap hh0]; rfl
  have c0_4 : w13.cell? ⟨w7.heap.size, 4, none⟩ = some (.int .i64 0) := by rw [Lib.cell_of_heap hh0]; rfl
  clear hh0
  have HH1_13 := Lib.hid hh1
  have lt1 := heap_lt hh1
  have c1_0 : w13.cell? ⟨w10.heap.size, 0, none⟩ = some (.int .u8 3) := by rw [Lib.cell_of_heap hh1]; rfl
  have c1_1 : w13.cell? ⟨w10.heap.size, 1, none⟩ = some (.string ⟨#[]⟩) := by rw [Lib.cell_of_heap hh1]; rfl
  have c1_2 : w13.cell? ⟨w10.heap.size, 2, none⟩ = some (.string ⟨#[49]⟩) := by rw [Lib.cell_of_heap hh1]; rfl
  have c1_3 : w13.cell? ⟨w10.heap.size, 3, none⟩ = some (.int .i64 0) := by rw [Lib.cell_of_heap hh1]; rfl
  have c1_4 : w13.cell? ⟨w10.heap.size, 4, none⟩ = some (.int .i64 0) := by rw [Lib.cell_of_heap hh1]; rfl
  clear hh1
  have sz13 := hbw13.size
  have HW13 := Lib.hid hbw13
  go_wp2_with fail
  refine (HT4.out _ (by first | exact HW13.out | exact HW13.out.trans ⟨rfl, rfl, rfl, Nat.le_refl _, fun _ _ => rfl⟩ | (go_grown; done))).mono ?_; rintro e w14 ⟨rfl, hb⟩
  have hv0 := HH0_13.out
  have hh0 : w14.heap[w7.heap.size]? = some (.cells #[.int .u8 0, .string ⟨#[]⟩, .string ⟨#[]⟩, .int .i64 0, .int .i64 0] 26 (0, 0)) := (hb.block _ (heap_lt hv0)).trans hv0
  clear hv0
  have hv1 := HH1_13.out
  have hh1 : w14.heap[w10.heap.size]? = some (.cells #[.int .u8 3, .string ⟨#[]⟩, .string ⟨#[49]⟩, .int .i64 0, .int .i64 0] 26 (0, 0)) := (hb.block _ (heap_lt hv1)).trans hv1
  clear hv1
  have hbw14 : Below w.heap.size w w14 := (show Below w.heap.size w _ by first | exact HW13.out.trans ⟨rfl, rfl, rfl, Nat.le_refl _, fun _ _ => rfl⟩ | exact HW13.out | (go_grown; done)).trans (hb.mono (by first | omega | (simp; done) | (simp; omega)))
  clear hb lt0 c0_0 c0_1 c0_2 c0_3 c0_4 lt1 c1_0 c1_1 c1_2 c1_3 c1_4 hbw13
  have HH0_14 := Lib.hid hh0
  have lt0 := heap_lt hh0
  have c0_0 : w14.cell? ⟨w7.heap.size, 0, none⟩ = some (.int .u8 0) := by rw [Lib.cell_of_heap hh0]; rfl
  have c0_1 : w14.cell? ⟨w7.heap.size, 1, none⟩ = some (.string ⟨#[]⟩) := by rw [Lib.cell_of_heap hh0]; rfl
  have c0_2 : w14.cell? ⟨w7.heap.size, 2, none⟩ = some (.string ⟨#[]⟩) := by rw [Lib.cell_of_heap hh0]; rfl
  have c0_3 : w14.cell? ⟨w7.heap.size, 3, none⟩ = some (.int .i64 0) := by rw [Lib.cell_of_heap hh0]; rfl
  have c0_4 : w14.cell? ⟨w7.heap.size, 4, none⟩ = some (.int .i64 0) := by rw [Lib.cell_of_heap hh0]; rfl
  clear hh0
  have HH1_14 := Lib.hid hh1
  have lt1 := heap_lt hh1
  have c1_0 : w14.cell? ⟨w10.heap.size, 0, none⟩ = some (.int .u8 3) := by rw [Lib.cell_of_heap hh1]; rfl
  have c1_1 : w14.cell? ⟨w10.heap.size, 1, none⟩ = some (.string ⟨#[]⟩) := by rw [Lib.cell_of_heap hh1]; rfl
  have c1_2 : w14.cell? ⟨w10.heap.size, 2, none⟩ = some (.string ⟨#[49]⟩) := by rw [Lib.cell_of_heap hh1]; rfl
  have c1_3 : w14.cell? ⟨w10.heap.size, 3, none⟩ = some (.int .i64 0) := by rw [Lib.cell_of_heap hh1]; rfl
  have c1_4 : w14.cell? ⟨w10.heap.size, 4, none⟩ = some (.int .i64 0) := by rw [Lib.cell_of_heap hh1]; rfl
  clear hh1
  have sz14 := hbw14.size
  have HW14 := Lib.hid hbw14
  go_wp2_with fail
  refine (HL.out _ (by first | exact HW14.out | exact HW14.out.trans ⟨rfl, rfl, rfl, Nat.le_refl _, fun _ _ => rfl⟩ | (go_grown; done))).mono ?_; rintro e w15 ⟨rfl, hb⟩
  have hv0 := HH0_14.out
  have hh0 : w15.heap[w7.heap.size]? = some (.cells #[.int .u8 0, .string ⟨#[]⟩, .string ⟨#[]⟩, .int .i64 0, .int .i64 0] 26 (0, 0)) := (hb.block _ (heap_lt hv0)).trans hv0
  clear hv0
  have hv1 := HH1_14.out
  have hh1 : w15.heap[w10.heap.size]? = some (.cells #[.int .u8 3, .string ⟨#[]⟩, .string ⟨#[49]⟩, .int .i64 0, .int .i64 0] 26 (0, 0)) := (hb.block _ (heap_lt hv1)).trans hv1
  clear hv1
  have hbw15 : Below w.heap.size w w15 := (show Below w.heap.size w _ by first | exact HW14.out.trans ⟨rfl, rfl, rfl, Nat.le_refl _, fun _ _ => rfl⟩ | exact HW14.out | (go_grown; done)).trans (hb.mono (by first | omega | (simp; done) | (simp; omega)))
  clear hb lt0 c0_0 c0_1 c0_2 c0_3 c0_4 lt1 c1_0 c1_1 c1_2 c1_3 c1_4 hbw14
  have HH0_15 := Lib.hid hh0
  have lt0 := heap_lt hh0
  have c0_0 : w15.cell? ⟨w7.heap.size, 0, none⟩ = some (.int .u8 0) := by rw [Lib.cell_of_heap hh0]; rfl
  have c0_1 : w15.cell? ⟨w7.heap.size, 1, none⟩ = some (.string ⟨#[]⟩) := by rw [Lib.cell_of_heap hh0]; rfl
  have c0_2 : w15.cell? ⟨w7.heap.size, 2, none⟩ = some (.string ⟨#[]⟩) := by rw [Lib.cell_of_heap hh0]; rfl
  have c0_3 : w15.cell? ⟨w7.heap.size, 3, none⟩ = some (.int .i64 0) := by rw [Lib.cell_of_heap hh0]; rfl
  have c0_4 : w15.cell? ⟨w7.heap.size, 4, none⟩ = some (.int .i64 0) := by rw [Lib.cell_of_heap hh0]; rfl
  clear hh0
  have HH1_15 := Lib.hid hh1
  have lt1 := heap_lt hh1
  have c1_0 : w15.cell? ⟨w10.heap.size, 0, none⟩ = some (.int .u8 3) := by rw [Lib.cell_of_heap hh1]; rfl
  have c1_1 : w15.cell? ⟨w10.heap.size, 1, none⟩ = some (.string ⟨#[]⟩) := by rw [Lib.cell_of_heap hh1]; rfl
  have c1_2 : w15.cell? ⟨w10.heap.size, 2, none⟩ = some (.string ⟨#[49]⟩) := by rw [Lib.cell_of_heap hh1]; rfl
  have c1_3 : w15.cell? ⟨w10.heap.size, 3, none⟩ = some (.int .i64 0) := by rw [Lib.cell_of_heap hh1]; rfl
  have c1_4 : w15.cell? ⟨w10.heap.size, 4, none⟩ = some (.int .i64 0) := by rw [Lib.cell_of_heap hh1]; rfl
  clear hh1
  have sz15 := hbw15.size
  have HW15 := Lib.hid hbw15
  go_wp2_with fail
  refine wp_region_held_drew (S := fun W => Below w.heap.size w W ∧ EnvS W ∧ W.heap[w10.heap.size]? = some (.cells #[.int .u8 3, .string ⟨#[]⟩, .string ⟨#[49]⟩, .int .i64 0, .int .i64 0] 26 (0, 0)) ∧ W.cell? ⟨w10.heap.size, 0, none⟩ = some (.int .u8 3) ∧ W.cell? ⟨w10.heap.size, 1, none⟩ = some (.string ⟨#[]⟩) ∧ W.cell? ⟨w10.heap.size, 2, none⟩ = some (.string ⟨#[49]⟩) ∧ W.cell? ⟨w10.heap.size, 3, none⟩ = some (.int .i64 0) ∧ W.cell? ⟨w10.heap.size, 4, none⟩ = some (.int .i64 0)) (by kernel_rfl) (keepN (w := w) (b := w10.heap.size) (⟨rfl, rfl, rfl, Nat.le_refl _, fun _ _ => rfl⟩ : Below w15.heap.size w15 w15.drew) ⟨HW15.out, hE.below HW15.out, HH1_15.out, c1_0, c1_1, c1_2, c1_3, c1_4⟩) (fun hHeld => ?_)
  refine tky 0 (some 58) (v := ?_) rfl (by kernel_rfl) (by kernel_rfl) (by kernel_rfl) (fun _ _ _ h => h) ?_ hHeld ?_
  rotate_left
  focus (intro w hSw; (try dsimp only at hSw); go_simp; (try with_reducible rfl); done)
  simp only [Act.put, List.setIfInBounds_toArray, List.set_cons_zero, List.set_cons_succ]
  refine rcons 1 rfl (by kernel_rfl) (fun K hK => ?_)
  go_simp
  refine (lalive16 _ hHeld.2.1).mono ?_; rintro e wd0 ⟨rfl, hb⟩
  (try dsimp only)
  refine hK.out _ _ (keepN hb hHeld) (fun hHeld2 => ?_)
  clear hK K hHeld
  have hHeld := hHeld2
  clear hHeld2
  (try simp only [Act.put, List.setIfInBounds_toArray, List.set_cons_zero, List.set_cons_succ])
  refine tky 2 (some 60) (v := ?_) rfl (by kernel_rfl) (by kernel_rfl) (by kernel_rfl) (fun _ _ _ h => h) ?_ hHeld ?_
  rotate_left
  focus (intro w hSw; (try dsimp only at hSw); go_simp; (try with_reducible rfl); done)
  simp only [Act.put, List.setIfInBounds_toArray, List.set_cons_zero, List.set_cons_succ]
  refine tky 3 (some 61) (v := ?_) rfl (by kernel_rfl) (by kernel_rfl) (by kernel_rfl) (fun _ _ _ h => h) ?_ hHeld ?_
  rotate_left
  focus (intro w hSw; (try dsimp only at hSw); go_simp; (try with_reducible rfl); done)
  simp only [Act.put, List.setIfInBounds_toArray, List.set_cons_zero, List.set_cons_succ]
  refine rcons 4 rfl (by kernel_rfl) (fun K hK => ?_)
  go_simp
  refine ((lnumber_d 1 w) _ hHeld.1).mono ?_; rintro e wd1 ⟨rfl, hb⟩
  (try dsimp only)
  refine hK.out _ _ (keepN hb hHeld) (fun hHeld2 => ?_)
  clear hK K hHeld
  have hHeld := hHeld2
  clear hHeld2
  (try simp only [Act.put, List.setIfInBounds_toArray, List.set_cons_zero, List.set_cons_succ])
  refine rcons 5 rfl (by kernel_rfl) (fun K hK => ?_)
  go_simp
  refine (none_yes 2 2 ⟨#[]⟩ ⟨#[]⟩ 1 0 _ (Lib.hid (r_s1 _ hHeld.2.1))).mono ?_; rintro e wd2 ⟨rfl, hb⟩
  (try dsimp only)
  refine hK.out _ _ (keepN hb hHeld) (fun hHeld2 => ?_)
  clear hK K hHeld
  have hHeld := hHeld2
  clear hHeld2
  (try simp only [Act.put, List.setIfInBounds_toArray, List.set_cons_zero, List.set_cons_succ])
  refine tky 6 (some 64) (v := ?_) rfl (by kernel_rfl) (by kernel_rfl) (by kernel_rfl) (fun _ _ _ h => h) ?_ hHeld ?_
  rotate_left
  focus (intro w hSw; (try dsimp only at hSw); go_simp; (try with_reducible rfl); done)
  simp only [Act.put, List.setIfInBounds_toArray, List.set_cons_zero, List.set_cons_succ]
  refine tky 7 (some 65) (v := ?_) rfl (by kernel_rfl) (by kernel_rfl) (by kernel_rfl) (fun _ _ _ h => h) ?_ hHeld ?_
  rotate_left
  focus (intro w hSw; (try dsimp only at hSw); go_simp; (try with_reducible rfl); done)
  simp only [Act.put, List.setIfInBounds_toArray, List.set_cons_zero, List.set_cons_succ]
  refine rcons 8 rfl (by kernel_rfl) (fun K hK => ?_)
  go_simp
  refine ((ltext_d ⟨#[]⟩ w) _ hHeld.1).mono ?_; rintro e wd3 ⟨rfl, hb⟩
  (try dsimp only)
  refine hK.out _ _ (keepN hb hHeld) (fun hHeld2 => ?_)
  clear hK K hHeld
  have hHeld := hHeld2
  clear hHeld2
  (try simp only [Act.put, List.setIfInBounds_toArray, List.set_cons_zero, List.set_cons_succ])
  refine rcons 9 rfl (by kernel_rfl) (fun K hK => ?_)
  go_simp
  refine (none_yes 4 3 ⟨#[]⟩ ⟨#[]⟩ 0 0 _ (Lib.hid (r_e _ hHeld.2.1))).mono ?_; rintro e wd4 ⟨rfl, hb⟩
  (try dsimp only)
  refine hK.out _ _ (keepN hb hHeld) (fun hHeld2 => ?_)
  clear hK K hHeld
  have hHeld := hHeld2
  clear hHeld2
  (try simp only [Act.put, List.setIfInBounds_toArray, List.set_cons_zero, List.set_cons_succ])
  refine tky 10 (some 68) (v := ?_) rfl (by kernel_rfl) (by kernel_rfl) (by kernel_rfl) (fun _ _ _ h => h) ?_ hHeld ?_
  rotate_left
  focus (intro w hSw; (try dsimp only at hSw); go_simp; (try with_reducible rfl); done)
  simp only [Act.put, List.setIfInBounds_toArray, List.set_cons_zero, List.set_cons_succ]
  refine tky 11 (some 69) (v := ?_) rfl (by kernel_rfl) (by kernel_rfl) (by kernel_rfl) (fun _ _ _ h => h) ?_ hHeld ?_
  rotate_left
  focus (intro w hSw; (try dsimp only at hSw); go_simp; (try with_reducible rfl); done)
  simp only [Act.put, List.setIfInBounds_toArray, List.set_cons_zero, List.set_cons_succ]
  refine tky 12 (some 70) (v := ?_) rfl (by kernel_rfl) (by kernel_rfl) (by kernel_rfl) (fun _ _ _ h => h) ?_ hHeld ?_
  rotate_left
  focus (intro w hSw; (try dsimp only at hSw); go_simp; (try with_reducible rfl); done)
  simp only [Act.put, List.setIfInBounds_toArray, List.set_cons_zero, List.set_cons_succ]
  refine tky 13 (some 71) (v := ?_) rfl (by kernel_rfl) (by kernel_rfl) (by kernel_rfl) (fun _ _ _ h => h) ?_ hHeld ?_
  rotate_left
  focus (intro w hSw; (try dsimp only at hSw); go_simp; (try with_reducible rfl); done)
  simp only [Act.put, List.setIfInBounds_toArray, List.set_cons_zero, List.set_cons_succ]
  refine tky 14 (some 72) (v := ?_) rfl (by kernel_rfl) (by kernel_rfl) (by kernel_rfl) (fun _ _ _ h => h) ?_ hHeld ?_
  rotate_left
  focus (intro w hSw; (try dsimp only at hSw); go_simp; (try with_reducible rfl); done)
  simp only [Act.put, List.setIfInBounds_toArray, List.set_cons_zero, List.set_cons_succ]
  refine tky 15 (some 73) (v := ?_) rfl (by kernel_rfl) (by kernel_rfl) (by kernel_rfl) (fun _ _ _ h => h) ?_ hHeld ?_
  rotate_left
  focus (intro w hSw; (try dsimp only at hSw); go_simp; (try with_reducible rfl); done)
  simp only [Act.put, List.setIfInBounds_toArray, List.set_cons_zero, List.set_cons_succ]
  refine tky 16 (some 74) (v := ?_) rfl (by kernel_rfl) (by kernel_rfl) (by kernel_rfl) (fun _ _ _ h => h) ?_ hHeld ?_
  rotate_left
  focus (intro w hSw; (try dsimp only at hSw); go_simp; (try with_reducible rfl); done)
  simp only [Act.put, List.setIfInBounds_toArray, List.set_cons_zero, List.set_cons_succ]
  refine tky 17 (some 75) (v := ?_) rfl (by kernel_rfl) (by kernel_rfl) (by kernel_rfl) (fun _ _ _ h => h) ?_ hHeld ?_
  rotate_left
  focus (intro w hSw; (try dsimp only at hSw); go_simp; (try with_reducible rfl); done)
  simp only [Act.put, List.setIfInBounds_toArray, List.set_cons_zero, List.set_cons_succ]
  refine tky 18 (some 76) (v := ?_) rfl (by kernel_rfl) (by kernel_rfl) (by kernel_rfl) (fun _ _ _ h => h) ?_ hHeld ?_
  rotate_left
  focus (intro w hSw; (try dsimp only at hSw); go_simp; (try with_reducible rfl); done)
  simp only [Act.put, List.setIfInBounds_toArray, List.set_cons_zero, List.set_cons_succ]
  refine tky 19 (some 77) (v := ?_) rfl (by kernel_rfl) (by kernel_rfl) (by kernel_rfl) (fun _ _ _ h => h) ?_ hHeld ?_
  rotate_left
  focus (intro w hSw; (try dsimp only at hSw); go_simp; (try with_reducible rfl); done)
  simp only [Act.put, List.setIfInBounds_toArray, List.set_cons_zero, List.set_cons_succ]
  refine tky 20 (some 78) (v := ?_) rfl (by kernel_rfl) (by kernel_rfl) (by kernel_rfl) (fun _ _ _ h => h) ?_ hHeld ?_
  rotate_left
  focus (intro w hSw; (try dsimp only at hSw); go_simp; (try with_reducible rfl); done)
  simp only [Act.put, List.setIfInBounds_toArray, List.set_cons_zero, List.set_cons_succ]
  refine tky 21 (some 79) (v := ?_) rfl (by kernel_rfl) (by kernel_rfl) (by kernel_rfl) (fun _ _ _ h => h) ?_ hHeld ?_
  rotate_left
  focus (intro w hSw; (try dsimp only at hSw); go_simp; (try with_reducible rfl); done)
  simp only [Act.put, List.setIfInBounds_toArray, List.set_cons_zero, List.set_cons_succ]
  refine tky 22 (some 80) (v := ?_) rfl (by kernel_rfl) (by kernel_rfl) (by kernel_rfl) (fun _ _ _ h => h) ?_ hHeld ?_
  rotate_left
  focus (intro w hSw; (try dsimp only at hSw); go_simp; (try with_reducible rfl); done)
  simp only [Act.put, List.setIfInBounds_toArray, List.set_cons_zero, List.set_cons_succ]
  refine tky 23 (some 81) (v := ?_) rfl (by kernel_rfl) (by kernel_rfl) (by kernel_rfl) (fun _ _ _ h => h) ?_ hHeld ?_
  rotate_left
  focus (intro w hSw; (try dsimp only at hSw); go_simp; (try with_reducible rfl); done)
  simp only [Act.put, List.setIfInBounds_toArray, List.set_cons_zero, List.set_cons_succ]
  refine tky 24 (some 82) (v := ?_) rfl (by kernel_rfl) (by kernel_rfl) (by kernel_rfl) (fun _ _ _ h => h) ?_ hHeld ?_
  rotate_left
  focus (intro w hSw; (try dsimp only at hSw); go_simp; (try with_reducible rfl); done)
  simp only [Act.put, List.setIfInBounds_toArray, List.set_cons_zero, List.set_cons_succ]
  refine tky 25 (some 83) (v := ?_) rfl (by kernel_rfl) (by kernel_rfl) (by kernel_rfl) (fun _ _ _ h => h) ?_ hHeld ?_
  rotate_left
  focus (intro w hSw; (try dsimp only at hSw); go_simp; (try with_reducible rfl); done)
  simp only [Act.put, List.setIfInBounds_toArray, List.set_cons_zero, List.set_cons_succ]
  refine tky 26 (some 84) (v := ?_) rfl (by kernel_rfl) (by kernel_rfl) (by kernel_rfl) (fun _ _ _ h => h) ?_ hHeld ?_
  rotate_left
  focus (intro w hSw; (try dsimp only at hSw); go_simp; (try with_reducible rfl); done)
  simp only [Act.put, List.setIfInBounds_toArray, List.set_cons_zero, List.set_cons_succ]
  refine tky 27 (some 85) (v := ?_) rfl (by kernel_rfl) (by kernel_rfl) (by kernel_rfl) (fun _ _ _ h => h) ?_ hHeld ?_
  rotate_left
  focus (intro w hSw; (try dsimp only at hSw); go_simp; (try with_reducible rfl); done)
  simp only [Act.put, List.setIfInBounds_toArray, List.set_cons_zero, List.set_cons_succ]
  refine tky 28 (some 86) (v := ?_) rfl (by kernel_rfl) (by kernel_rfl) (by kernel_rfl) (fun _ _ _ h => h) ?_ hHeld ?_
  rotate_left
  focus (intro w hSw; (try dsimp only at hSw); go_simp; (try with_reducible rfl); done)
  simp only [Act.put, List.setIfInBounds_toArray, List.set_cons_zero, List.set_cons_succ]
  refine tky 29 (some 87) (v := ?_) rfl (by kernel_rfl) (by kernel_rfl) (by kernel_rfl) (fun _ _ _ h => h) ?_ hHeld ?_
  rotate_left
  focus (intro w hSw; (try dsimp only at hSw); go_simp; (try with_reducible rfl); done)
  simp only [Act.put, List.setIfInBounds_toArray, List.set_cons_zero, List.set_cons_succ]
  refine tky 30 (some 88) (v := ?_) rfl (by kernel_rfl) (by kernel_rfl) (by kernel_rfl) (fun _ _ _ h => h) ?_ hHeld ?_
  rotate_left
  focus (intro w hSw; (try dsimp only at hSw); go_simp; (try with_reducible rfl); done)
  simp only [Act.put, List.setIfInBounds_toArray, List.set_cons_zero, List.set_cons_succ]
  refine tky 31 (some 89) (v := ?_) rfl (by kernel_rfl) (by kernel_rfl) (by kernel_rfl) (fun _ _ _ h => h) ?_ hHeld ?_
  rotate_left
  focus (intro w hSw; (try dsimp only at hSw); go_simp; (try with_reducible rfl); done)
  simp only [Act.put, List.setIfInBounds_toArray, List.set_cons_zero, List.set_cons_succ]
  refine tky 32 (some 90) (v := ?_) rfl (by kernel_rfl) (by kernel_rfl) (by kernel_rfl) (fun _ _ _ h => h) ?_ hHeld ?_
  rotate_left
  focus (intro w hSw; (try dsimp only at hSw); go_simp; (try with_reducible rfl); done)
  simp only [Act.put, List.setIfInBounds_toArray, List.set_cons_zero, List.set_cons_succ]
  refine rcons 33 rfl (by kernel_rfl) (fun K hK => ?_)
  go_simp
  refine ((ltext_d ⟨#[49]⟩ w) _ hHeld.1).mono ?_; rintro e wd5 ⟨rfl, hb⟩
  (try dsimp only)
  refine hK.out _ _ (keepN hb hHeld) (fun hHeld2 => ?_)
  clear hK K hHeld
  have hHeld := hHeld2
  clear hHeld2
  (try simp only [Act.put, List.setIfInBounds_toArray, List.set_cons_zero, List.set_cons_succ])
  refine tky 34 (some 92) (v := ?_) rfl (by kernel_rfl) (by kernel_rfl) (by kernel_rfl) (fun _ _ _ h => h) ?_ hHeld ?_
  rotate_left
  focus (intro w hSw; (try dsimp only at hSw); go_simp; (try with_reducible rfl); done)
  simp only [Act.put, List.setIfInBounds_toArray, List.set_cons_zero, List.set_cons_succ]
  refine tky 35 (some 93) (v := ?_) rfl (by kernel_rfl) (by kernel_rfl) (by kernel_rfl) (fun _ _ _ h => h) ?_ hHeld ?_
  rotate_left
  focus (intro w hSw; (try dsimp only at hSw); go_simp; (try with_reducible rfl); done)
  simp only [Act.put, List.setIfInBounds_toArray, List.set_cons_zero, List.set_cons_succ]
  refine tky 36 (some 94) (v := ?_) rfl (by kernel_rfl) (by kernel_rfl) (by kernel_rfl) (fun _ _ _ h => h) ?_ hHeld ?_
  rotate_left
  focus (intro w hSw; (try dsimp only at hSw); go_simp; (try with_reducible rfl); done)
  simp only [Act.put, List.setIfInBounds_toArray, List.set_cons_zero, List.set_cons_succ]
  refine tky 37 (some 95) (v := ?_) rfl (by kernel_rfl) (by kernel_rfl) (by kernel_rfl) (fun _ _ _ h => h) ?_ hHeld ?_
  rotate_left
  focus (intro w hSw; (try dsimp only at hSw); go_simp; (try with_reducible rfl); done)
  simp only [Act.put, List.setIfInBounds_toArray, List.set_cons_zero, List.set_cons_succ]
  refine tky 38 (some 96) (v := ?_) rfl (by kernel_rfl) (by kernel_rfl) (by kernel_rfl) (fun _ _ _ h => h) ?_ hHeld ?_
  rotate_left
  focus (intro w hSw; (try dsimp only at hSw); go_simp; (try with_reducible rfl); done)
  simp only [Act.put, List.setIfInBounds_toArray, List.set_cons_zero, List.set_cons_succ]
  refine tky 39 (some 97) (v := ?_) rfl (by kernel_rfl) (by kernel_rfl) (by kernel_rfl) (fun _ _ _ h => h) ?_ hHeld ?_
  rotate_left
  focus (intro w hSw; (try dsimp only at hSw); go_simp; (try with_reducible rfl); done)
  simp only [Act.put, List.setIfInBounds_toArray, List.set_cons_zero, List.set_cons_succ]
  refine tky 40 (some 98) (v := ?_) rfl (by kernel_rfl) (by kernel_rfl) (by kernel_rfl) (fun _ _ _ h => h) ?_ hHeld ?_
  rotate_left
  focus (intro w hSw; (try dsimp only at hSw); go_simp; (try with_reducible rfl); done)
  simp only [Act.put, List.setIfInBounds_toArray, List.set_cons_zero, List.set_cons_succ]
  refine tky 41 (some 99) (v := ?_) rfl (by kernel_rfl) (by kernel_rfl) (by kernel_rfl) (fun _ _ _ h => h) ?_ hHeld ?_
  rotate_left
  focus (intro w hSw; (try dsimp only at hSw); go_simp; (try with_reducible rfl); done)
  simp only [Act.put, List.setIfInBounds_toArray, List.set_cons_zero, List.set_cons_succ]
  refine tky 42 (some 100) (v := ?_) rfl (by kernel_rfl) (by kernel_rfl) (by kernel_rfl) (fun _ _ _ h => h) ?_ hHeld ?_
  rotate_left
  focus (intro w hSw; (try dsimp only at hSw); go_simp; (try with_reducible rfl); done)
  simp only [Act.put, List.setIfInBounds_toArray, List.set_cons_zero, List.set_cons_succ]
  refine tky 43 (some 101) (v := ?_) rfl (by kernel_rfl) (by kernel_rfl) (by kernel_rfl) (fun _ _ _ h => h) ?_ hHeld ?_
  rotate_left
  focus (intro w hSw; (try dsimp only at hSw); go_simp; (try with_reducible rfl); done)
  simp only [Act.put, List.setIfInBounds_toArray, List.set_cons_zero, List.set_cons_succ]
  refine tky 44 (some 102) (v := ?_) rfl (by kernel_rfl) (by kernel_rfl) (by kernel_rfl) (fun _ _ _ h => h) ?_ hHeld ?_
  rotate_left
  focus (intro w hSw; (try dsimp only at hSw); go_simp; (try with_reducible rfl); done)
  simp only [Act.put, List.setIfInBounds_toArray, List.set_cons_zero, List.set_cons_succ]
  refine tky 45 (some 103) (v := ?_) rfl (by kernel_rfl) (by kernel_rfl) (by kernel_rfl) (fun _ _ _ h => h) ?_ hHeld ?_
  rotate_left
  focus (intro w hSw; (try dsimp only at hSw); go_simp; (try with_reducible rfl); done)
  simp only [Act.put, List.setIfInBounds_toArray, List.set_cons_zero, List.set_cons_succ]
  refine tky 46 (some 104) (v := ?_) rfl (by kernel_rfl) (by kernel_rfl) (by kernel_rfl) (fun _ _ _ h => h) ?_ hHeld ?_
  rotate_left
  focus (intro w hSw; (try dsimp only at hSw); go_simp; (try with_reducible rfl); done)
  simp only [Act.put, List.setIfInBounds_toArray, List.set_cons_zero, List.set_cons_succ]
  refine tky 47 (some 105) (v := ?_) rfl (by kernel_rfl) (by kernel_rfl) (by kernel_rfl) (fun _ _ _ h => h) ?_ hHeld ?_
  rotate_left
  focus (intro w hSw; (try dsimp only at hSw); go_simp; (try with_reducible rfl); done)
  simp only [Act.put, List.setIfInBounds_toArray, List.set_cons_zero, List.set_cons_succ]
  refine tky 48 (some 106) (v := ?_) rfl (by kernel_rfl) (by kernel_rfl) (by kernel_rfl) (fun _ _ _ h => h) ?_ hHeld ?_
  rotate_left
  focus (intro w hSw; (try dsimp only at hSw); go_simp; (try with_reducible rfl); done)
  simp only [Act.put, List.setIfInBounds_toArray, List.set_cons_zero, List.set_cons_succ]
  refine tky 49 (some 107) (v := ?_) rfl (by kernel_rfl) (by kernel_rfl) (by kernel_rfl) (fun _ _ _ h => h) ?_ hHeld ?_
  rotate_left
  focus (intro w hSw; (try dsimp only at hSw); go_simp; (try with_reducible rfl); done)
  simp only [Act.put, List.setIfInBounds_toArray, List.set_cons_zero, List.set_cons_succ]
  refine tky 50 (some 108) (v := ?_) rfl (by kernel_rfl) (by kernel_rfl) (by kernel_rfl) (fun _ _ _ h => h) ?_ hHeld ?_
  rotate_left
  focus (intro w hSw; (try dsimp only at hSw); go_simp; (try with_reducible rfl); done)
  simp only [Act.put, List.setIfInBounds_toArray, List.set_cons_zero, List.set_cons_succ]
  refine tky 51 (some 109) (v := ?_) rfl (by kernel_rfl) (by kernel_rfl) (by kernel_rfl) (fun _ _ _ h => h) ?_ hHeld ?_
  rotate_left
  focus (intro w hSw; (try dsimp only at hSw); go_simp; (try with_reducible rfl); done)
  simp only [Act.put, List.setIfInBounds_toArray, List.set_cons_zero, List.set_cons_succ]
  refine tky 52 (some 110) (v := ?_) rfl (by kernel_rfl) (by kernel_rfl) (by kernel_rfl) (fun _ _ _ h => h) ?_ hHeld ?_
  rotate_left
  focus (intro w hSw; (try dsimp only at hSw); go_simp; (try with_reducible rfl); done)
  simp only [Act.put, List.setIfInBounds_toArray, List.set_cons_zero, List.set_cons_succ]
  refine tky 53 (some 111) (v := ?_) rfl (by kernel_rfl) (by kernel_rfl) (by kernel_rfl) (fun _ _ _ h => h) ?_ hHeld ?_
  rotate_left
  focus (intro w hSw; (try dsimp only at hSw); go_simp; (try with_reducible rfl); done)
  simp only [Act.put, List.setIfInBounds_toArray, List.set_cons_zero, List.set_cons_succ]
  refine tky 54 (some 112) (v := ?_) rfl (by kernel_rfl) (by kernel_rfl) (by kernel_rfl) (fun _ _ _ h => h) ?_ hHeld ?_
  rotate_left
  focus (intro w hSw; (try dsimp only at hSw); go_simp; (try with_reducible rfl); done)
  simp only [Act.put, List.setIfInBounds_toArray, List.set_cons_zero, List.set_cons_succ]
  refine tky 55 (some 113) (v := ?_) rfl (by kernel_rfl) (by kernel_rfl) (by kernel_rfl) (fun _ _ _ h => h) ?_ hHeld ?_
  rotate_left
  focus (intro w hSw; (try dsimp only at hSw); go_simp; (try with_reducible rfl); done)
  simp only [Act.put, List.setIfInBounds_toArray, List.set_cons_zero, List.set_cons_succ]
  refine tky 56 (some 114) (v := ?_) rfl (by kernel_rfl) (by kernel_rfl) (by kernel_rfl) (fun _ _ _ h => h) ?_ hHeld ?_
  rotate_left
  focus (intro w hSw; (try dsimp only at hSw); go_simp; (try with_reducible rfl); done)
  simp only [Act.put, List.setIfInBounds_toArray, List.set_cons_zero, List.set_cons_succ]
  refine tky 57 (some 115) (v := ?_) rfl (by kernel_rfl) (by kernel_rfl) (by kernel_rfl) (fun _ _ _ h => h) ?_ hHeld ?_
  rotate_left
  focus (intro w hSw; (try dsimp only at hSw); go_simp; (try with_reducible rfl); done)
  simp only [Act.put, List.setIfInBounds_toArray, List.set_cons_zero, List.set_cons_succ]
  refine tky 58 (some 116) (v := ?_) rfl (by kernel_rfl) (by kernel_rfl) (by kernel_rfl) (fun _ _ _ h => h) ?_ hHeld ?_
  rotate_left
  focus (intro w hSw; (try dsimp only at hSw); go_simp; (try with_reducible rfl); done)
  simp only [Act.put, List.setIfInBounds_toArray, List.set_cons_zero, List.set_cons_succ]
  refine tky 59 (some 117) (v := ?_) rfl (by kernel_rfl) (by kernel_rfl) (by kernel_rfl) (fun _ _ _ h => h) ?_ hHeld ?_
  rotate_left
  focus (intro w hSw; (try dsimp only at hSw); go_simp; (try with_reducible rfl); done)
  simp only [Act.put, List.setIfInBounds_toArray, List.set_cons_zero, List.set_cons_succ]
  refine tky 60 (some 118) (v := ?_) rfl (by kernel_rfl) (by kernel_rfl) (by kernel_rfl) (fun _ _ _ h => h) ?_ hHeld ?_
  rotate_left
  focus (intro w hSw; (try dsimp only at hSw); go_simp; (try with_reducible rfl); done)
  simp only [Act.put, List.setIfInBounds_toArray, List.set_cons_zero, List.set_cons_succ]
  refine tky 61 (some 119) (v := ?_) rfl (by kernel_rfl) (by kernel_rfl) (by kernel_rfl) (fun _ _ _ h => h) ?_ hHeld ?_
  rotate_left
  focus (intro w hSw; (try dsimp only at hSw); go_simp; (try with_reducible rfl); done)
  simp only [Act.put, List.setIfInBounds_toArray, List.set_cons_zero, List.set_cons_succ]
  refine tky 62 (some 120) (v := ?_) rfl (by kernel_rfl) (by kernel_rfl) (by kernel_rfl) (fun _ _ _ h => h) ?_ hHeld ?_
  rotate_left
  focus (intro w hSw; (try dsimp only at hSw); go_simp; (try with_reducible rfl); done)
  simp only [Act.put, List.setIfInBounds_toArray, List.set_cons_zero, List.set_cons_succ]
  refine tky 63 (some 0) (v := ?_) rfl (by kernel_rfl) (by kernel_rfl) (by kernel_rfl) (fun _ _ _ h => h) ?_ hHeld ?_
  rotate_left
  focus (intro w hSw; (try dsimp only at hSw); go_simp; (try with_reducible rfl); done)
  simp only [Act.put, List.setIfInBounds_toArray, List.set_cons_zero, List.set_cons_succ]
  refine wpAnyH_done (by kernel_rfl) ?_ _
  go_wp2_with fail
  go_ret
  exact ⟨rfl, hHeld.1⟩
end Go.Proofs.YtpkkejcndmcbiaaGreatDoor
