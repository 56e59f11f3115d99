/- The walk through the law LexJoins. -/
import Derived.Test.YtcplgiimhedloaaDoorLj
import Derived.Test.YtcplgiimhedloaaDoorTt
import Derived.Test.YtcplgiimhedloaaDoorOt
set_option linter.unusedSimpArgs false
set_option linter.unusedVariables false
namespace Go.Proofs.YtcplgiimhedloaaDoor
open Go.RowKit
theorem joinE_form (L : List Tok) : ∃ (js : ByteArray) (je : Int), joinE L = .tuple #[.string js, .int .i64 je] := by
  unfold joinE
  cases okTs L
  · exact ⟨_, _, rfl⟩
  · exact ⟨_, _, rfl⟩
theorem keep3 {b o0 o1 o2 : Nat} {v0 v1 v2 : Value} {w2 W W' : World} (hb : Below W.heap.size W W') (hS : W.cell? ⟨b, o0, none⟩ = some v0 ∧ W.cell? ⟨b, o1, none⟩ = some v1 ∧ W.cell? ⟨b, o2, none⟩ = some v2 ∧ Below w2.heap.size w2 W) :
    W'.cell? ⟨b, o0, none⟩ = some v0 ∧ W'.cell? ⟨b, o1, none⟩ = some v1 ∧ W'.cell? ⟨b, o2, none⟩ = some v2 ∧ Below w2.heap.size w2 W' := by
  obtain ⟨h0, h1, h2, h3⟩ := hS
  have hlt := lt_of_cell h0
  exact ⟨(hb.cell (p := ⟨b, _, none⟩) hlt).trans h0, (hb.cell (p := ⟨b, _, none⟩) hlt).trans h1, (hb.cell (p := ⟨b, _, none⟩) hlt).trans h2, h3.trans (hb.mono h3.size)⟩
set_option maxRecDepth 100000 in
theorem joins_great (L : List Tok) (u : Value) (w : World) (HG : Hid (Calls Tryd.prog 4 #[u] w fun e w' => e = .returned (.bool true) ∧ w = w')) :
    Calls Tryd.prog 3 #[u] w fun e w' => e = .returned (.bool true) ∧ Below w.heap.size w w' := by
  go_enter Tryd.func3, Tryd.ntmps3
  go_wp2_with fail
  refine HG.out.mono ?_; rintro e w1 ⟨rfl, rfl⟩
  go_wp2_with fail
  go_ret
  exact ⟨rfl, Below.refl _ _⟩
set_option maxRecDepth 100000 in
set_option maxHeartbeats 1000000 in
theorem joins_row (L : List Tok) (b off cap : Nat) (s1 : L.length ≤ 200) (s2 : ∀ t ∈ L, t.text.length ≤ 3000) (w : World) (hE : EnvU w) (h1 : TokRow b off L w)
    (HG : Hid (Calls Tryd.prog 4 #[.slice (some ⟨b, off, none⟩) L.length cap] w fun e w' => e = .returned (.bool false) ∧ w = w')) :
    Calls Tryd.prog 3 #[.slice (some ⟨b, off, none⟩) L.length cap] w fun e w' => e = .returned (.bool true) ∧ Below w.heap.size w w' := by
  have s3 : ∀ t ∈ L, t.text.length ≤ 20000 := fun t ht => Nat.le_trans (s2 t ht) (by decide)
  obtain ⟨js, je, hje⟩ := joinE_form L
  have HJ : Hid (∀ v W, EnvU W → TokSl v L W → Calls Tryd.prog 5 #[v] W fun e w' => e = .returned (.tuple #[.string js, .int .i64 je]) ∧ Below W.heap.size W w') := Lib.hid fun v W he hv => by
    rw [← hje]; exact ljoin_any L v (by omega) s3 W he hv
  have HK : Hid (∀ v W, TokSl v L W → Calls Tryd.prog 6 #[v] W fun e w' => e = .returned (.tuple #[.string js, .int .i64 je]) ∧ Below W.heap.size W w') := Lib.hid fun v W hv => by
    rw [← hje]; exact rjoin17_any (fun k x p hx w => rtell17_any k x p hx w) (fun k x p hx w => rmay_any k x p (by omega) w) L v (by omega) s3 W hv
  have HZ := Lib.hid s2
  have H1 := Lib.hid h1
  have HEE := Lib.hid hE
  clear h1 hje hE s2 s3
  go_enter Tryd.func3, Tryd.ntmps3
  go_wp2_with fail
  refine HG.out.mono ?_; rintro e w1 ⟨rfl, rfl⟩
  go_wp2_with (at_builtin; refine wpList_appT rfl _ _ rfl w.heap.size (.slice (some ⟨w.heap.size, 0, none⟩) 0 0) (.slice (some ⟨b, off, none⟩) L.length cap) [] L rfl (OwnT.fresh0 w) rfl ?c1 ?c2 ?c3 ?_)
  case c1 => exact Or.inr ⟨b, off, cap, rfl, H1.out.below' ((Below.refl _ _).alloc (Nat.le_refl _) _)⟩
  case c2 => simp; omega
  case c3 => simp
  intro v' w2 hown' hgrow
  have hbw : Below w.heap.size w w2 := ((Below.refl _ _).alloc (Nat.le_refl _) _).grown hgrow (by simp) (by intro k hk; simp [Value.ownBlock] at hk; omega)
  have HO : Hid (TokSl v' L w2) := Lib.hid hown'.sl
  have HR : Hid (TokRow b off L w2) := Lib.hid (H1.out.below' hbw)
  have HE2 : Hid (EnvU w2) := Lib.hid (HEE.out.below hbw)
  have HBW := Lib.hid hbw
  clear hown' hgrow hbw H1 HEE HG
  go_wp2_with fail
  refine (HJ.out _ _ HE2.out HO.out).mono ?_; rintro e w3 ⟨rfl, hb⟩
  have HB3 := Lib.hid hb
  clear hb
  go_wp2_with fail
  refine (HK.out _ _ (Or.inr ⟨b, off, cap, rfl, HR.out.below' HB3.out⟩)).mono ?_; rintro e w4 ⟨rfl, hb⟩
  have HB4 : Hid (Below w2.heap.size w2 w4) := Lib.hid (HB3.out.trans (hb.mono HB3.out.size))
  clear hb HB3
  go_wp2_with fail
  go_loopw [8] (fun i wr => ∃ (k : Nat), k ≤ L.length ∧ i = .int .i64 k ∧ Hid (Below w2.heap.size w2 wr)) (fun i wr => L.length - (intOf i).toNat)
  case atStart => exact ⟨0, Nat.zero_le _, rfl, HB4⟩
  case round =>
    rename World => wr
    obtain ⟨k, hk, rfl, HB⟩ := hrel
    by_cases hlt : k < L.length
    · obtain ⟨a0, a1, a2⟩ := (HR.out.below' HB.out) k hlt
      have hxs := HZ.out L[k] (List.getElem_mem _)
      have hxz : (⟨L[k].text.toArray⟩ : ByteArray).size = L[k].text.length := by show L[k].text.toArray.size = _; simp
      have HA : Hid (∀ W, Below w2.heap.size w2 W → Calls Tryd.prog 7 #[.agg #[.int .u8 (L[k].kind.toNat : Int), .string ⟨L[k].text.toArray⟩, .int .i64 L[k].pos]] W fun e w' => e = .returned (.int .i64 (if okT L[k] then 0 else 8)) ∧ Below W.heap.size W w') := Lib.hid fun W hW => by
        have := lcheck_any L[k].kind ⟨L[k].text.toArray⟩ L[k].pos (by omega) W (HE2.out.below hW)
        simpa using this
      have HC : Hid (∀ W, Calls Tryd.prog 8 #[.agg #[.int .u8 (L[k].kind.toNat : Int), .string ⟨L[k].text.toArray⟩, .int .i64 L[k].pos]] W fun e w' => e = .returned (.int .i64 (if okT L[k] then 0 else 8)) ∧ Below W.heap.size W w') := Lib.hid fun W => by
        have := rcheck17_any L[k].kind ⟨L[k].text.toArray⟩ L[k].pos (by omega) W
        simpa using this
      clear hxs hxz
      generalize (if okT L[k] then (0 : Int) else 8) = ce at *
      generalize (L[k].kind.toNat : Int) = ka at *
      generalize L[k].pos = pa at *
      generalize (⟨L[k].text.toArray⟩ : ByteArray) = x at *
      have hS0 : wr.cell? ⟨b, off + k * 3, none⟩ = some (.int .u8 ka) ∧ wr.cell? ⟨b, off + k * 3 + 1, none⟩ = some (.string x) ∧ wr.cell? ⟨b, off + k * 3 + 2, none⟩ = some (.int .i64 pa) ∧ Below w2.heap.size w2 wr := ⟨a0, a1, a2, HB.out⟩
      clear a0 a1 a2
      have HS0 := Lib.hid hS0
      have HA2 : Hid (∀ W : World, (W.cell? ⟨b, off + k * 3, none⟩ = some (.int .u8 ka) ∧ W.cell? ⟨b, off + k * 3 + 1, none⟩ = some (.string x) ∧ W.cell? ⟨b, off + k * 3 + 2, none⟩ = some (.int .i64 pa) ∧ Below w2.heap.size w2 W) → Calls Tryd.prog 7 #[.agg #[.int .u8 ka, .string x, .int .i64 pa]] W fun e w' => e = .returned (.int .i64 ce) ∧ Below W.heap.size W w') := Lib.hid fun W hW => HA.out W hW.2.2.2
      clear hS0 HA
      go_wp2_with fail
      go_region_held3 (fun W => W.cell? ⟨b, off + k * 3, none⟩ = some (.int .u8 ka) ∧ W.cell? ⟨b, off + k * 3 + 1, none⟩ = some (.string x) ∧ W.cell? ⟨b, off + k * 3 + 2, none⟩ = some (.int .i64 pa) ∧ Below w2.heap.size w2 W)
        (first | assumption | exact keep3 (W := wr) ⟨rfl, rfl, rfl, Nat.le_refl _, fun _ _ => rfl⟩ HS0.out | exact keep3 (by assumption) (by assumption))
        (first | ((with_reducible refine (HA2.out _ (by assumption)).mono ?_); rintro e w5 ⟨rfl, hb⟩) | ((with_reducible refine (HC.out _).mono ?_); rintro e w5 ⟨rfl, hb⟩))
      rename_i hS
      have HB5 := Lib.hid hS.2.2.2
      clear hS
      go_wp2_with fail
      go_roundw
      case rel => exact ⟨k + 1, by omega, by go_num, HB5⟩
      case measure => simp [intOf]; omega
    · have HS : Hid (Calls Tryd.prog 9 #[v', .slice (some ⟨b, off, none⟩) L.length cap, .bool true] wr fun e w' => e = .returned (.bool true) ∧ Below wr.heap.size wr w') := Lib.hid (by
        have := rsame17_any L L v' (.slice (some ⟨b, off, none⟩) L.length cap) true (by omega) (by omega) wr (HO.out.below HB.out) (Or.inr ⟨b, off, cap, rfl, HR.out.below' HB.out⟩)
        rw [sameT_self] at this
        exact this)
      go_wp2_with fail
      refine HS.out.mono ?_; rintro e w5 ⟨rfl, hb⟩
      have HB5 : Hid (Below w.heap.size w w5) := Lib.hid (HBW.out.trans ((HB.out.trans (hb.mono HB.out.size)).mono HBW.out.size))
      clear hb
      go_wp2_with fail
      go_ret
      exact ⟨rfl, HB5.out⟩
set_option maxRecDepth 100000 in
set_option maxHeartbeats 1000000 in
theorem joins_none (a : Option Addr) (cap : Nat) (hac : a = none → cap = 0) (w : World) (hE : EnvU w)
    (HG : Hid (Calls Tryd.prog 4 #[.slice a 0 cap] w fun e w' => e = .returned (.bool false) ∧ w = w')) :
    Calls Tryd.prog 3 #[.slice a 0 cap] w fun e w' => e = .returned (.bool true) ∧ Below w.heap.size w w' := by
  have s3 : ∀ t ∈ ([] : List Tok), t.text.length ≤ 20000 := fun t ht => by cases ht
  obtain ⟨js, je, hje⟩ := joinE_form []
  have HJ : Hid (∀ v W, EnvU W → TokSl v [] W → Calls Tryd.prog 5 #[v] W fun e w' => e = .returned (.tuple #[.string js, .int .i64 je]) ∧ Below W.heap.size W w') := Lib.hid fun v W he hv => by
    rw [← hje]; exact ljoin_any [] v (by decide) s3 W he hv
  have HK : Hid (∀ v W, TokSl v [] W → Calls Tryd.prog 6 #[v] W fun e w' => e = .returned (.tuple #[.string js, .int .i64 je]) ∧ Below W.heap.size W w') := Lib.hid fun v W hv => by
    rw [← hje]; exact rjoin17_any (fun k x p hx w => rtell17_any k x p hx w) (fun k x p hx w => rmay_any k x p (by omega) w) [] v (by decide) s3 W hv
  have HEE := Lib.hid hE
  have HU : Hid (∀ W, TokSl (.slice a 0 cap) [] W) := Lib.hid fun W => Or.inl ⟨a, cap, rfl, rfl, hac⟩
  clear hje hE s3 hac
  go_enter Tryd.func3, Tryd.ntmps3
  go_wp2_with fail
  refine HG.out.mono ?_; rintro e w1 ⟨rfl, rfl⟩
  go_wp2_with (at_builtin; refine wpList_appT rfl _ _ rfl w.heap.size (.slice (some ⟨w.heap.size, 0, none⟩) 0 0) (.slice a 0 cap) [] [] rfl (OwnT.fresh0 w) rfl ?c1 ?c2 ?c3 ?_)
  case c1 => exact HU.out _
  case c2 => simp
  case c3 => simp
  intro v' w2 hown' hgrow
  have hbw : Below w.heap.size w w2 := ((Below.refl _ _).alloc (Nat.le_refl _) _).grown hgrow (by simp) (by intro k hk; simp [Value.ownBlock] at hk; omega)
  have HO : Hid (TokSl v' [] w2) := Lib.hid hown'.sl
  have HE2 : Hid (EnvU w2) := Lib.hid (HEE.out.below hbw)
  have HBW := Lib.hid hbw
  clear hown' hgrow hbw HEE HG
  go_wp2_with fail
  refine (HJ.out _ _ HE2.out HO.out).mono ?_; rintro e w3 ⟨rfl, hb⟩
  have HB3 := Lib.hid hb
  clear hb
  go_wp2_with fail
  refine (HK.out _ _ (HU.out _)).mono ?_; rintro e w4 ⟨rfl, hb⟩
  have HB4 : Hid (Below w2.heap.size w2 w4) := Lib.hid (HB3.out.trans (hb.mono HB3.out.size))
  clear hb HB3
  go_wp2_with fail
  refine wp_loop_rounds 1 ?_; rw [rounds_succ]
  have HS : Hid (∀ W, TokSl v' [] W → Calls Tryd.prog 9 #[v', .slice a 0 cap, .bool true] W fun e w' => e = .returned (.bool true) ∧ Below W.heap.size W w') := Lib.hid fun W hW => by
    have := rsame17_any [] [] v' (.slice a 0 cap) true (by decide) (by decide) W hW (HU.out _)
    rw [sameT_self] at this
    exact this
  go_wp2_with fail
  refine (HS.out _ (HO.out.below HB4.out)).mono ?_; rintro e w5 ⟨rfl, hb⟩
  have HB5 : Hid (Below w.heap.size w w5) := Lib.hid (HBW.out.trans ((HB4.out.trans (hb.mono HB4.out.size)).mono HBW.out.size))
  clear hb
  go_wp2_with fail
  go_ret
  exact ⟨rfl, HB5.out⟩
theorem joins_walk (L : List Tok) (u : Value) (hl : L.length ≤ maxLen) (hz : ∀ t ∈ L, t.text.length ≤ maxLen) (w : World) (h1 : TokSl u L w) (hE : EnvU w) :
    Calls Tryd.prog 3 #[u] w fun e w' => e = .returned (.bool true) ∧ Below w.heap.size w w' := by
  have HG := Lib.hid (great_sl L u hl w h1 hz)
  cases hg : greatB L with
  | true => rw [hg] at HG; exact joins_great L u w HG
  | false =>
    rw [hg] at HG
    obtain ⟨s1, s2⟩ := small_of_great L hg
    rcases h1 with ⟨a, c, rfl, rfl, hac⟩ | ⟨b, off, cap, rfl, hr⟩
    · exact joins_none a c hac w hE HG
    · exact joins_row L b off cap s1 s2 w hE hr HG
end Go.Proofs.YtcplgiimhedloaaDoor
