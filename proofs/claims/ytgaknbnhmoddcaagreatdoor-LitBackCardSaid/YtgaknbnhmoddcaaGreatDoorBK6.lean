/- Walks and plain laws of this proof, joined from smaller texts (6). -/
import Derived.Deep.LoopGhost
import Derived.Maps.RangeWalk
import Derived.Deep.RegionHeld3
import Derived.Test.YtgaknbnhmoddcaaGreatDoorBK5
set_option linter.unusedSimpArgs false
set_option linter.unusedVariables false
namespace Go.Proofs.YtgaknbnhmoddcaaGreatDoor
open Go.RowKit Go.Lib
def LTypSpec (f : Nat) : Prop := ∀ (p tb off cap : Nat) (T : List Tok) (fx : Bool) (a kk : Nat) (v : Value) (W : World), kk ≤ 8 → 9 ≤ f + kk → LS p tb off cap T fx a (kk : Int) v W → a ≤ T.length →
  Calls Tryz.prog 53 #[.pointer (some ⟨p, 0, none⟩)] W (TyE p tb off cap T fx v W (typG T f kk a))
set_option maxRecDepth 100000 in
theorem l_typ_err (p tb off cap : Nat) (T : List Tok) (fx : Bool) (a kk : Nat) (v : Value) (W : World) (hk : kk ≤ 8) (h : LS p tb off cap T fx a (kk : Int) v W) (ha : a ≤ T.length) (e : ErrP) (HWRAP : Hid (wrapP T kk a [91] = .error e)) :
    Calls Tryz.prog 53 #[.pointer (some ⟨p, 0, none⟩)] W (TyE p tb off cap T fx v W (.error e)) := by
  have hT8 := h.2.2.2.1.1
  have hpl := h.lt
  obtain ⟨bx, hbx⟩ : ∃ bx, W.heap.size = bx := ⟨_, rfl⟩
  obtain ⟨w2, hw2⟩ : ∃ w2, (W.alloc (.cells #[.pointer (some ⟨p, 0, none⟩)] 112 (0, 0))).alloc (.cells #[.string ⟨#[]⟩, .slice none 0 0] 25 (0, 0)) = w2 := ⟨_, rfl⟩
  have hb2 : Below W.heap.size W w2 := by rw [← hw2]; exact ((Below.refl _ _).alloc (Nat.le_refl _) _).alloc (by simp) _
  have HL2 := Lib.hid (h.below hb2)
  have HR2 := Lib.hid (RK.of_below hb2 h.lt)
  have HB2 : Hid (w2.heap[bx]? = some (.cells #[.pointer (some ⟨p, 0, none⟩)] 112 (0, 0))) := Lib.hid (by rw [← hw2]; exact heap_old (heap_new _ _ _ hbx.symm))
  have HT2 : Hid (w2.heap[bx + 1]? = some (.cells #[.string ⟨#[]⟩, .slice none 0 0] 25 (0, 0))) := Lib.hid (by rw [← hw2]; exact heap_new _ _ _ (by simp [hbx]))
  have hpb : p < bx := by omega
  have HW2 := Lib.hid hw2
  have hent := enters_of Tryz.func81 (by kernel_rfl) rfl
  have hmf : ∀ (fn : Fn) (first cap : Array Value) (w : World), (Instr.makeFunc fn first cap).run Tryz.prog w = .ok (.func fn first cap) w := fun _ _ _ _ => rfl
  have HWR := Lib.hid (l_wrap (a := a) (kk := kk) ⟨#[91]⟩ bx w2 HL2.out (by omega) hk HB2.out (by omega))
  rw [show (⟨#[91]⟩ : ByteArray).data.toList = [91] from rfl, HWRAP.out] at HWR
  clear h hw2 hb2
  go_enter Tryz.func53, Tryz.ntmps53
  go_wp2_with fail
  rw [HW2.out]
  try simp only [hbx]
  refine HWR.out.mono ?_; rintro x w3 ⟨rfl, hb⟩
  have HB9 := Lib.hid (HR2.out.1.trans hb)
  clear hb
  go_wp2_with fail
  exact ⟨rfl, rfl, HB9.out⟩
set_option maxRecDepth 100000 in
theorem l_typ_noname (p tb off cap : Nat) (T : List Tok) (fx : Bool) (a kk : Nat) (v : Value) (W : World) (hk : kk ≤ 8) (h : LS p tb off cap T fx a (kk : Int) v W) (ha : a ≤ T.length) (e : ErrP) (HWRAP : Hid (wrapP T kk a [91] = .ok none)) (hn : namP [] T a = .error e) :
    Calls Tryz.prog 53 #[.pointer (some ⟨p, 0, none⟩)] W (TyE p tb off cap T fx v W (.error e)) := by
  have hT8 := h.2.2.2.1.1
  have hpl := h.lt
  obtain ⟨bx, hbx⟩ : ∃ bx, W.heap.size = bx := ⟨_, rfl⟩
  obtain ⟨w2, hw2⟩ : ∃ w2, (W.alloc (.cells #[.pointer (some ⟨p, 0, none⟩)] 112 (0, 0))).alloc (.cells #[.string ⟨#[]⟩, .slice none 0 0] 25 (0, 0)) = w2 := ⟨_, rfl⟩
  have hb2 : Below W.heap.size W w2 := by rw [← hw2]; exact ((Below.refl _ _).alloc (Nat.le_refl _) _).alloc (by simp) _
  have HL2 := Lib.hid (h.below hb2)
  have HR2 := Lib.hid (RK.of_below hb2 h.lt)
  have HB2 : Hid (w2.heap[bx]? = some (.cells #[.pointer (some ⟨p, 0, none⟩)] 112 (0, 0))) := Lib.hid (by rw [← hw2]; exact heap_old (heap_new _ _ _ hbx.symm))
  have HT2 : Hid (w2.heap[bx + 1]? = some (.cells #[.string ⟨#[]⟩, .slice none 0 0] 25 (0, 0))) := Lib.hid (by rw [← hw2]; exact heap_new _ _ _ (by simp [hbx]))
  have hpb : p < bx := by omega
  have HW2 := Lib.hid hw2
  have hent := enters_of Tryz.func81 (by kernel_rfl) rfl
  have hmf : ∀ (fn : Fn) (first cap : Array Value) (w : World), (Instr.makeFunc fn first cap).run Tryz.prog w = .ok (.func fn first cap) w := fun _ _ _ _ => rfl
  have HWR := Lib.hid (l_wrap (a := a) (kk := kk) ⟨#[91]⟩ bx w2 HL2.out (by omega) hk HB2.out (by omega))
  rw [show (⟨#[91]⟩ : ByteArray).data.toList = [91] from rfl, HWRAP.out] at HWR
  clear h hw2 hb2
  go_enter Tryz.func53, Tryz.ntmps53
  go_wp2_with fail
  rw [HW2.out]
  try simp only [hbx]
  refine HWR.out.mono ?_; rintro x w3 ⟨rfl, hst, hrk⟩
  have HL3 := Lib.hid hst
  have HR3 := Lib.hid (HR2.out.trans hrk)
  have HB3 := Lib.hid (hrk.2 _ _ HB2.out (by omega))
  have d0 : w3.cell? ⟨bx, 0, none⟩ = some (.pointer (some ⟨p, 0, none⟩)) := by rw [Lib.cell_of_heap HB3.out]; rfl
  clear hst hrk
  go_wp2_with fail
  refine (l_name0_not hn _ HL3.out (by omega)).mono ?_; rintro x w4 ⟨rfl, hb⟩
  have HB9 := Lib.hid (HR3.out.1.trans hb)
  clear hb
  go_wp2_with fail
  exact ⟨rfl, rfl, HB9.out⟩
set_option maxRecDepth 100000 in
set_option maxHeartbeats 4000000 in
theorem l_typ_name (p tb off cap : Nat) (T : List Tok) (fx : Bool) (a kk : Nat) (v : Value) (W : World) (hk : kk ≤ 8) (h : LS p tb off cap T fx a (kk : Int) v W) (ha : a ≤ T.length) (nm : List UInt8) (HWRAP : Hid (wrapP T kk a [91] = .ok none)) (hn : namP [] T a = .ok nm) :
    Calls Tryz.prog 53 #[.pointer (some ⟨p, 0, none⟩)] W (TyE p tb off cap T fx v W (typE T (kk, a + 1, nm, []))) := by
  have haT := (nam_lt hn).1
  obtain ⟨Z, hZ⟩ : ∃ Z, typE T (kk, a + 1, nm, []) = Z := ⟨_, rfl⟩
  have HZZ := Lib.hid hZ
  rw [hZ]
  clear hZ
  obtain ⟨ws, hws⟩ : ∃ ws : List UInt8, [] = ws := ⟨_, rfl⟩
  have hwsl : ws.length = 0 := by rw [← hws]; rfl
  have hws2 : ([] : List UInt8) ++ ws = [] := by rw [← hws]; rfl
  rw [← hws2] at HZZ
  have HWS := Lib.hid hws
  clear hws hws2
  obtain ⟨nb, hnb⟩ : ∃ nb : ByteArray, (⟨nm.toArray⟩ : ByteArray) = nb := ⟨_, rfl⟩
  have HNB := Lib.hid hnb
  have hT8 := h.2.2.2.1.1
  have hpl := h.lt
  obtain ⟨bx, hbx⟩ : ∃ bx, W.heap.size = bx := ⟨_, rfl⟩
  obtain ⟨w2, hw2⟩ : ∃ w2, (W.alloc (.cells #[.pointer (some ⟨p, 0, none⟩)] 112 (0, 0))).alloc (.cells #[.string ⟨#[]⟩, .slice none 0 0] 25 (0, 0)) = w2 := ⟨_, rfl⟩
  have hb2 : Below W.heap.size W w2 := by rw [← hw2]; exact ((Below.refl _ _).alloc (Nat.le_refl _) _).alloc (by simp) _
  have HL2 := Lib.hid (h.below hb2)
  have HR2 := Lib.hid (RK.of_below hb2 h.lt)
  have HB2 : Hid (w2.heap[bx]? = some (.cells #[.pointer (some ⟨p, 0, none⟩)] 112 (0, 0))) := Lib.hid (by rw [← hw2]; exact heap_old (heap_new _ _ _ hbx.symm))
  have HT2 : Hid (w2.heap[bx + 1]? = some (.cells #[.string ⟨#[]⟩, .slice none 0 0] 25 (0, 0))) := Lib.hid (by rw [← hw2]; exact heap_new _ _ _ (by simp [hbx]))
  have hpb : p < bx := by omega
  have HW2 := Lib.hid hw2
  have hent := enters_of Tryz.func81 (by kernel_rfl) rfl
  have hmf : ∀ (fn : Fn) (first cap : Array Value) (w : World), (Instr.makeFunc fn first cap).run Tryz.prog w = .ok (.func fn first cap) w := fun _ _ _ _ => rfl
  have HWR := Lib.hid (l_wrap (a := a) (kk := kk) ⟨#[91]⟩ bx w2 HL2.out (by omega) hk HB2.out (by omega))
  rw [show (⟨#[91]⟩ : ByteArray).data.toList = [91] from rfl, HWRAP.out] at HWR
  clear h hw2 hb2
  go_enter Tryz.func53, Tryz.ntmps53
  go_wp2_with fail
  rw [HW2.out]
  try simp only [hbx]
  refine HWR.out.mono ?_; rintro x w3 ⟨rfl, hst, hrk⟩
  have HL3 := Lib.hid hst
  have HR3 := Lib.hid (HR2.out.trans hrk)
  have HB3 := Lib.hid (hrk.2 _ _ HB2.out (by omega))
  have HT3 := Lib.hid (hrk.2 _ _ HT2.out (by omega))
  have d0 : w3.cell? ⟨bx, 0, none⟩ = some (.pointer (some ⟨p, 0, none⟩)) := by rw [Lib.cell_of_heap HB3.out]; rfl
  clear hst hrk
  go_wp2_with fail
  refine (l_name0_yes hn _ HL3.out (by omega)).mono ?_; rintro x w4 ⟨rfl, hst, hrk⟩
  rw [hnb]
  have HT4 := Lib.hid (hrk.2 _ _ HT3.out (by omega))
  have HB4 := Lib.hid (hrk.2 _ _ HB3.out (by omega))
  obtain ⟨t0, t1, z0, z1⟩ := ref_cells HT4.out
  obtain ⟨w5, hw5⟩ : ∃ w5, w4.setCell ⟨bx + 1, 0, none⟩ (.string nb) = w5 := ⟨_, rfl⟩
  have HT5 : Hid (w5.heap[bx + 1]? = some (.cells #[.string nb, .slice none 0 0] 25 (0, 0))) := Lib.hid (by rw [← hw5]; exact pset HT4.out _ rfl)
  have HB5 : Hid (w5.heap[bx]? = some (.cells #[.pointer (some ⟨p, 0, none⟩)] 112 (0, 0))) := Lib.hid (by rw [← hw5, Below.heap_setCell _ _ _ _ (by show bx ≠ bx + 1; omega)]; exact HB4.out)
  have HL5 : Hid (LS p tb off cap T fx (a + 1) (kk : Int) v w5) := Lib.hid (by
    have := hst.2.2.1
    rw [← hw5]
    exact hst.same (Below.heap_setCell _ _ _ _ (by show p ≠ bx + 1; omega)) (Below.heap_setCell _ _ _ _ (by show tb ≠ bx + 1; omega)))
  have HR5 : Hid (RK p W w5) := Lib.hid (by rw [← hw5]; exact (HR3.out.trans hrk).setNew (by omega) (by omega))
  have HUU : Hid (BytW (bx + 2) (.slice none 0 0) ws w5) := Lib.hid (by rw [← HWS.out]; exact BytW.nil _ _)
  have HWW := Lib.hid hw5
  have hb0 : w5.cell? ⟨bx, 0, none⟩ = some (.pointer (some ⟨p, 0, none⟩)) := by rw [Lib.cell_of_heap HB5.out]; rfl
  clear hst hrk hw5 hnb
  go_wp2_with fail
  rw [HWW.out]
  have HW5 := Lib.hid (l_wrap (a := (a + 1)) (kk := kk) ⟨#[33]⟩ bx w5 HL5.out (by omega) (by omega) HB5.out (by omega))
  rw [show (⟨#[33]⟩ : ByteArray).data.toList = [33] from rfl] at HW5
  have HZ : Hid (typE T (kk, (a + 1), nm, [] ++ ws) = Z) := HZZ
  unfold typE at HZ
  dsimp only at HZ
  cases hx : wrapP T kk (a + 1) [33] with
  | error e =>
    rw [hx] at HW5 HZ
    dsimp only at HZ
    refine HW5.out.mono ?_; rintro x w6 ⟨rfl, hb⟩
    have HB9 := Lib.hid (HR5.out.1.trans hb)
    clear hb hx
    go_wp2_with fail
    rw [← HZ.out]
    exact ⟨rfl, rfl, HB9.out⟩
  | ok o =>
    rw [hx] at HW5 HZ
    cases o with
    | none =>
      dsimp only at HZ
      refine HW5.out.mono ?_; rintro x w6 ⟨rfl, hst, hrk⟩
      have HL6 := Lib.hid hst
      have HR6 := Lib.hid (HR5.out.trans hrk)
      have HT6 := Lib.hid (hrk.2 _ _ HT5.out (by omega))
      have HU6 := Lib.hid (HUU.out.kp (Kp.rk hrk (by omega)))
      have HO6 : Hid (BytW (bx + 2) (.slice none 0 0) [] w6) := Lib.hid (BytW.nil _ _)
      have hz6 : bx + 2 ≤ w6.heap.size := heap_lt HT6.out
      obtain ⟨t0, t1, z0, z1⟩ := ref_cells HT6.out
      clear hst hrk hx
      go_wp2_with (at_builtin; refine wpList_pushW rfl _ _ rfl (bx + 2) (.slice none 0 0) [] rfl HO6.out (bx + 2) (.slice none 0 0) ws rfl HU6.out (by simp only [List.length_cons, List.length_nil]; omega) hz6 ?_)
      intro v' w9 ho9 hg9
      have hob : ∀ j, Value.ownBlock (.slice none 0 0) = some j → bx + 2 ≤ j := fun j hj => (HO6.out.1.lt j hj)
      have HL9 := Lib.hid (HL6.out.grown_ hg9 (fun j hj => by have := hob j hj; omega))
      have HR9 := Lib.hid (RK.grown HR6.out hg9 (fun j hj => by have := hob j hj; omega) hpl)
      have hT9 := (hg9.block (bx + 1) (heap_lt HT6.out) (fun e => by have := hob (bx + 1) e.symm; omega)).trans HT6.out
      have HT9 := Lib.hid hT9
      have HO9 := Lib.hid ho9
      obtain ⟨a9, n9, c9, rfl⟩ := ho9.form
      obtain ⟨q0, q1, y0, y1⟩ := ref_cells hT9
      clear ho9 hg9 hT9 t0 t1 z0 z1
      go_wp2_with fail
      obtain ⟨wf, hwf⟩ : ∃ wf, ((w9.setCell ⟨bx + 1, 1, none⟩ (.slice a9 n9 c9)).setCell ⟨bx + 1, 0, none⟩ (.string nb)).setCell ⟨bx + 1, 1, none⟩ (.slice a9 n9 c9) = wf := ⟨_, rfl⟩
      obtain ⟨r1, r2, r3, r4, r5⟩ := ty_fin HL9.out HR9.out HO9.out HT9.out hbx hpb wf hwf
      rw [hwf]
      clear hwf q0 q1 y0 y1
      refine bodyPost_ret (by simp [results, Tryz.results53, go_sem, r4, r5]; try rfl) rfl ?_
      rw [← HZ.out]
      exact ⟨_, by rw [HNB.out], r3, r1, r2⟩
    | some k4 =>
      have hk4 := wrapP_some hx
      dsimp only at HZ
      refine HW5.out.mono ?_; rintro x w6 ⟨rfl, hst, hrk⟩
      have HL6 := Lib.hid hst
      have HR6 := Lib.hid (HR5.out.trans hrk)
      have HT6 := Lib.hid (hrk.2 _ _ HT5.out (by omega))
      have HU6 := Lib.hid (HUU.out.kp (Kp.rk hrk (by omega)))
      have hz6 : bx + 2 ≤ w6.heap.size := heap_lt HT6.out
      obtain ⟨w7, hw7⟩ : ∃ w7, w6.alloc (.cells #[.int .u8 1] 5 (0, 0)) = w7 := ⟨_, rfl⟩
      have hb7 : Below w6.heap.size w6 w7 := by rw [← hw7]; exact (Below.refl _ _).alloc (Nat.le_refl _) _
      have h71 : w7.cell? ⟨w6.heap.size, 0, none⟩ = some (.int .u8 1) := by rw [← hw7]; exact new_cell0 _ _ _
      have HL7 := Lib.hid (HL6.out.below hb7)
      have HR7 := Lib.hid (HR6.out.trans (RK.of_below hb7 HL6.out.lt))
      have HT7 := Lib.hid ((hb7.block _ (heap_lt HT6.out)).trans HT6.out)
      have HU7 := Lib.hid (HU6.out.kp (Kp.below hb7))
      have hz7 : bx + 2 ≤ w7.heap.size := Nat.le_trans hz6 hb7.size
      have HW7 := Lib.hid hw7
      have HIN := Lib.hid (insert_none w6.heap.size w7 h71)
      clear hst hrk hx hw7
      go_wp2_with fail
      rw [HW7.out]
      refine HIN.out.mono ?_; rintro x w8 ⟨g8, cap8, rfl, ho8, hg8⟩
      have hb8 : Below w7.heap.size w7 w8 := (Below.refl _ _).grown hg8 (Nat.le_refl _) (fun k hk => by cases hk)
      have HL8 := Lib.hid (HL7.out.below hb8)
      have HR8 := Lib.hid (HR7.out.trans (RK.of_below hb8 HL7.out.lt))
      have HT8 := Lib.hid ((hb8.block _ (heap_lt HT7.out)).trans HT7.out)
      have HU8 := Lib.hid (HU7.out.kp (Kp.below hb8))
      have HO8 : Hid (BytW (bx + 2) (.slice (some ⟨g8, 0, none⟩) 1 cap8) [1] w8) := Lib.hid ⟨ho8.less hz7, fun e => by cases e⟩
      have hz8 : bx + 2 ≤ w8.heap.size := Nat.le_trans hz7 hb8.size
      obtain ⟨t0, t1, z0, z1⟩ := ref_cells HT8.out
      clear ho8 hg8 hb8 HIN HW7
      go_wp2_with (at_builtin; refine wpList_pushW rfl _ _ rfl (bx + 2) (.slice (some ⟨g8, 0, none⟩) 1 cap8) [1] rfl HO8.out (bx + 2) (.slice none 0 0) ws rfl HU8.out (by simp only [List.length_cons, List.length_nil]; omega) hz8 ?_)
      intro v' w9 ho9 hg9
      have hob : ∀ j, Value.ownBlock (.slice (some ⟨g8, 0, none⟩) 1 cap8) = some j → bx + 2 ≤ j := fun j hj => (HO8.out.1.lt j hj)
      have HL9 := Lib.hid (HL8.out.grown_ hg9 (fun j hj => by have := hob j hj; omega))
      have HR9 := Lib.hid (RK.grown HR8.out hg9 (fun j hj => by have := hob j hj; omega) hpl)
      have hT9 := (hg9.block (bx + 1) (heap_lt HT8.out) (fun e => by have := hob (bx + 1) e.symm; omega)).trans HT8.out
      have HT9 := Lib.hid hT9
      have HO9 := Lib.hid ho9
      obtain ⟨a9, n9, c9, rfl⟩ := ho9.form
      obtain ⟨q0, q1, y0, y1⟩ := ref_cells hT9
      clear ho9 hg9 hT9 t0 t1 z0 z1
      go_wp2_with fail
      obtain ⟨wf, hwf⟩ : ∃ wf, ((w9.setCell ⟨bx + 1, 1, none⟩ (.slice a9 n9 c9)).setCell ⟨bx + 1, 0, none⟩ (.string nb)).setCell ⟨bx + 1, 1, none⟩ (.slice a9 n9 c9) = wf := ⟨_, rfl⟩
      obtain ⟨r1, r2, r3, r4, r5⟩ := ty_fin HL9.out HR9.out HO9.out HT9.out hbx hpb wf hwf
      rw [hwf]
      clear hwf q0 q1 y0 y1
      refine bodyPost_ret (by simp [results, Tryz.results53, go_sem, r4, r5]; try rfl) rfl ?_
      rw [← HZ.out]
      exact ⟨_, by rw [HNB.out], r3, r1, r2⟩
end Go.Proofs.YtgaknbnhmoddcaaGreatDoor
namespace Go.Proofs.YtgaknbnhmoddcaaGreatDoor
open Go.RowKit Go.Lib
set_option maxRecDepth 100000 in
theorem l_typ_inner (p tb off cap : Nat) (T : List Tok) (fx : Bool) (a kk : Nat) (v : Value) (W : World) (hk : kk ≤ 8) (h : LS p tb off cap T fx a (kk : Int) v W) (ha : a ≤ T.length) (k1 : Nat) (e : ErrP) (HWRAP : Hid (wrapP T kk a [91] = .ok (some k1))) (HREC : Hid (∀ W', LS p tb off cap T fx (a + 1) (k1 : Int) v W' → Calls Tryz.prog 53 #[.pointer (some ⟨p, 0, none⟩)] W' (TyE p tb off cap T fx v W' (.error e)))) :
    Calls Tryz.prog 53 #[.pointer (some ⟨p, 0, none⟩)] W (TyE p tb off cap T fx v W (.error e)) := by
  have hT8 := h.2.2.2.1.1
  have hpl := h.lt
  obtain ⟨bx, hbx⟩ : ∃ bx, W.heap.size = bx := ⟨_, rfl⟩
  obtain ⟨w2, hw2⟩ : ∃ w2, (W.alloc (.cells #[.pointer (some ⟨p, 0, none⟩)] 112 (0, 0))).alloc (.cells #[.string ⟨#[]⟩, .slice none 0 0] 25 (0, 0)) = w2 := ⟨_, rfl⟩
  have hb2 : Below W.heap.size W w2 := by rw [← hw2]; exact ((Below.refl _ _).alloc (Nat.le_refl _) _).alloc (by simp) _
  have HL2 := Lib.hid (h.below hb2)
  have HR2 := Lib.hid (RK.of_below hb2 h.lt)
  have HB2 : Hid (w2.heap[bx]? = some (.cells #[.pointer (some ⟨p, 0, none⟩)] 112 (0, 0))) := Lib.hid (by rw [← hw2]; exact heap_old (heap_new _ _ _ hbx.symm))
  have HT2 : Hid (w2.heap[bx + 1]? = some (.cells #[.string ⟨#[]⟩, .slice none 0 0] 25 (0, 0))) := Lib.hid (by rw [← hw2]; exact heap_new _ _ _ (by simp [hbx]))
  have hpb : p < bx := by omega
  have HW2 := Lib.hid hw2
  have hent := enters_of Tryz.func81 (by kernel_rfl) rfl
  have hmf : ∀ (fn : Fn) (first cap : Array Value) (w : World), (Instr.makeFunc fn first cap).run Tryz.prog w = .ok (.func fn first cap) w := fun _ _ _ _ => rfl
  have HWR := Lib.hid (l_wrap (a := a) (kk := kk) ⟨#[91]⟩ bx w2 HL2.out (by omega) hk HB2.out (by omega))
  rw [show (⟨#[91]⟩ : ByteArray).data.toList = [91] from rfl, HWRAP.out] at HWR
  clear h hw2 hb2
  go_enter Tryz.func53, Tryz.ntmps53
  go_wp2_with fail
  rw [HW2.out]
  try simp only [hbx]
  refine HWR.out.mono ?_; rintro x w3 ⟨rfl, hst, hrk⟩
  have HL3 := Lib.hid hst
  have HR3 := Lib.hid (HR2.out.trans hrk)
  have HB3 := Lib.hid (hrk.2 _ _ HB2.out (by omega))
  have HT3 := Lib.hid (hrk.2 _ _ HT2.out (by omega))
  have d0 : w3.cell? ⟨bx, 0, none⟩ = some (.pointer (some ⟨p, 0, none⟩)) := by rw [Lib.cell_of_heap HB3.out]; rfl
  have hz3 : bx + 2 ≤ w3.heap.size := heap_lt HT3.out
  clear hst hrk
  go_wp2_with fail
  refine (HREC.out w3 HL3.out).mono ?_; rintro x w4 hx4
  obtain ⟨hxe, hb⟩ : x = .panicked (stopP e) ∧ Below p w3 w4 := hx4
  have HB9 := Lib.hid (HR3.out.1.trans hb)
  clear hb
  subst hxe
  go_wp2_with fail
  exact ⟨rfl, rfl, HB9.out⟩
set_option maxRecDepth 100000 in
set_option maxHeartbeats 4000000 in
theorem l_typ_open (p tb off cap : Nat) (T : List Tok) (fx : Bool) (a kk : Nat) (v : Value) (W : World) (hk : kk ≤ 8) (h : LS p tb off cap T fx a (kk : Int) v W) (ha : a ≤ T.length) (k1 k2 a2 : Nat) (nm ws : List UInt8) (HWRAP : Hid (wrapP T kk a [91] = .ok (some k1))) (ha2 : a2 ≤ T.length) (hm : mrkP T a2 [93] = false) (HREC : Hid (∀ W', LS p tb off cap T fx (a + 1) (k1 : Int) v W' → Calls Tryz.prog 53 #[.pointer (some ⟨p, 0, none⟩)] W' (TyE p tb off cap T fx v W' (.ok (k2, a2, nm, ws))))) :
    Calls Tryz.prog 53 #[.pointer (some ⟨p, 0, none⟩)] W (TyE p tb off cap T fx v W (.error (180, a2))) := by
  have hT8 := h.2.2.2.1.1
  have hpl := h.lt
  obtain ⟨bx, hbx⟩ : ∃ bx, W.heap.size = bx := ⟨_, rfl⟩
  obtain ⟨w2, hw2⟩ : ∃ w2, (W.alloc (.cells #[.pointer (some ⟨p, 0, none⟩)] 112 (0, 0))).alloc (.cells #[.string ⟨#[]⟩, .slice none 0 0] 25 (0, 0)) = w2 := ⟨_, rfl⟩
  have hb2 : Below W.heap.size W w2 := by rw [← hw2]; exact ((Below.refl _ _).alloc (Nat.le_refl _) _).alloc (by simp) _
  have HL2 := Lib.hid (h.below hb2)
  have HR2 := Lib.hid (RK.of_below hb2 h.lt)
  have HB2 : Hid (w2.heap[bx]? = some (.cells #[.pointer (some ⟨p, 0, none⟩)] 112 (0, 0))) := Lib.hid (by rw [← hw2]; exact heap_old (heap_new _ _ _ hbx.symm))
  have HT2 : Hid (w2.heap[bx + 1]? = some (.cells #[.string ⟨#[]⟩, .slice none 0 0] 25 (0, 0))) := Lib.hid (by rw [← hw2]; exact heap_new _ _ _ (by simp [hbx]))
  have hpb : p < bx := by omega
  have HW2 := Lib.hid hw2
  have hent := enters_of Tryz.func81 (by kernel_rfl) rfl
  have hmf : ∀ (fn : Fn) (first cap : Array Value) (w : World), (Instr.makeFunc fn first cap).run Tryz.prog w = .ok (.func fn first cap) w := fun _ _ _ _ => rfl
  have HWR := Lib.hid (l_wrap (a := a) (kk := kk) ⟨#[91]⟩ bx w2 HL2.out (by omega) hk HB2.out (by omega))
  rw [show (⟨#[91]⟩ : ByteArray).data.toList = [91] from rfl, HWRAP.out] at HWR
  clear h hw2 hb2
  go_enter Tryz.func53, Tryz.ntmps53
  go_wp2_with fail
  rw [HW2.out]
  try simp only [hbx]
  refine HWR.out.mono ?_; rintro x w3 ⟨rfl, hst, hrk⟩
  have HL3 := Lib.hid hst
  have HR3 := Lib.hid (HR2.out.trans hrk)
  have HB3 := Lib.hid (hrk.2 _ _ HB2.out (by omega))
  have HT3 := Lib.hid (hrk.2 _ _ HT2.out (by omega))
  have d0 : w3.cell? ⟨bx, 0, none⟩ = some (.pointer (some ⟨p, 0, none⟩)) := by rw [Lib.cell_of_heap HB3.out]; rfl
  have hz3 : bx + 2 ≤ w3.heap.size := heap_lt HT3.out
  clear hst hrk
  go_wp2_with fail
  refine (HREC.out w3 HL3.out).mono ?_; rintro x w4 hx4
  obtain ⟨u, hxe, hu, hst4, hrk4⟩ : ∃ u, x = .returned (.agg #[.string ⟨nm.toArray⟩, u]) ∧ BytW w3.heap.size u ws w4 ∧ LS p tb off cap T fx a2 (k2 : Int) v w4 ∧ RK p w3 w4 := hx4
  obtain ⟨ua, un, uc, rfl⟩ := hu.form
  subst hxe
  obtain ⟨nb, hnb⟩ : ∃ nb : ByteArray, (⟨nm.toArray⟩ : ByteArray) = nb := ⟨_, rfl⟩
  have HNB := Lib.hid hnb
  rw [hnb]
  have HB4 := Lib.hid (hrk4.2 _ _ HB3.out (by omega))
  have HT4 := Lib.hid (hrk4.2 _ _ HT3.out (by omega))
  obtain ⟨t0, t1, z0, z1⟩ := ref_cells HT4.out
  obtain ⟨wt, hwt⟩ : ∃ wt, w4.setCell ⟨bx + 1, 0, none⟩ (.string nb) = wt := ⟨_, rfl⟩
  have HTt : Hid (wt.heap[bx + 1]? = some (.cells #[.string nb, .slice none 0 0] 25 (0, 0))) := Lib.hid (by rw [← hwt]; exact pset HT4.out _ rfl)
  obtain ⟨w5, hw5⟩ : ∃ w5, wt.setCell ⟨bx + 1, 1, none⟩ (.slice ua un uc) = w5 := ⟨_, rfl⟩
  have HT5 : Hid (w5.heap[bx + 1]? = some (.cells #[.string nb, .slice ua un uc] 25 (0, 0))) := Lib.hid (by rw [← hw5]; exact pset HTt.out _ rfl)
  have HB5 : Hid (w5.heap[bx]? = some (.cells #[.pointer (some ⟨p, 0, none⟩)] 112 (0, 0))) := Lib.hid (by
    rw [← hw5, Below.heap_setCell _ _ _ _ (by show bx ≠ bx + 1; omega), ← hwt, Below.heap_setCell _ _ _ _ (by show bx ≠ bx + 1; omega)]; exact HB4.out)
  have keyL : ∀ (W0 : World) (i : Nat) (u0 : Value), LS p tb off cap T fx a2 (k2 : Int) v W0 → LS p tb off cap T fx a2 (k2 : Int) v (W0.setCell ⟨bx + 1, i, none⟩ u0) := fun W0 i u0 h => by
    have := h.2.2.1
    exact h.same (Below.heap_setCell _ _ _ _ (by show p ≠ bx + 1; omega)) (Below.heap_setCell _ _ _ _ (by show tb ≠ bx + 1; omega))
  have HL5 : Hid (LS p tb off cap T fx a2 (k2 : Int) v w5) := Lib.hid (by rw [← hw5, ← hwt]; exact keyL _ _ _ (keyL _ _ _ hst4))
  have HR5 : Hid (RK p W w5) := Lib.hid (by rw [← hw5, ← hwt]; exact ((HR3.out.trans hrk4).setNew (by omega) (by omega)).setNew (by omega) (by omega))
  have HU5 : Hid (BytW (bx + 2) (.slice ua un uc) ws w5) := Lib.hid (by
    rw [← hw5, ← hwt]
    exact ((hu.less hz3).kp (Kp.rk (RK.set (bx + 1) 0 w4 (.string nb)) (by omega))).kp (Kp.rk (RK.set (bx + 1) 1 _ (.slice ua un uc)) (by omega)))
  have HWT := Lib.hid hwt
  have HWW := Lib.hid hw5
  have hb0 : w4.cell? ⟨bx, 0, none⟩ = some (.pointer (some ⟨p, 0, none⟩)) := by rw [Lib.cell_of_heap HB4.out]; rfl
  have hbb : ¬ bx = bx + 1 := by omega
  clear keyL hu hst4 hrk4 hwt hw5 hnb
  go_wp2_with fail
  rw [HWT.out, HWW.out]
  refine (l_must_not (what := ⟨#[93]⟩) hm _ HL5.out (by omega)).mono ?_; rintro x w6 ⟨rfl, hb⟩
  have HB9 := Lib.hid (HR5.out.1.trans hb)
  clear hb
  go_wp2_with fail
  exact ⟨rfl, rfl, HB9.out⟩
set_option maxRecDepth 100000 in
set_option maxHeartbeats 4000000 in
theorem l_typ_list (p tb off cap : Nat) (T : List Tok) (fx : Bool) (a kk : Nat) (v : Value) (W : World) (hk : kk ≤ 8) (h : LS p tb off cap T fx a (kk : Int) v W) (ha : a ≤ T.length) (k1 k2 a2 : Nat) (nm ws : List UInt8) (HWRAP : Hid (wrapP T kk a [91] = .ok (some k1))) (ha2 : a2 ≤ T.length) (hk28 : k2 ≤ 8) (hwsl : ws.length ≤ 1000) (hm : mrkP T a2 [93] = true) (HREC : Hid (∀ W', LS p tb off cap T fx (a + 1) (k1 : Int) v W' → Calls Tryz.prog 53 #[.pointer (some ⟨p, 0, none⟩)] W' (TyE p tb off cap T fx v W' (.ok (k2, a2, nm, ws))))) :
    Calls Tryz.prog 53 #[.pointer (some ⟨p, 0, none⟩)] W (TyE p tb off cap T fx v W (typE T (k2, a2 + 1, nm, 2 :: ws))) := by
  have hmT := mrk_lt hm
  obtain ⟨Z, hZ⟩ : ∃ Z, typE T (k2, a2 + 1, nm, [2] ++ ws) = Z := ⟨_, rfl⟩
  have HZZ := Lib.hid hZ
  rw [show typE T (k2, a2 + 1, nm, 2 :: ws) = Z from hZ]
  clear hZ
  have hT8 := h.2.2.2.1.1
  have hpl := h.lt
  obtain ⟨bx, hbx⟩ : ∃ bx, W.heap.size = bx := ⟨_, rfl⟩
  obtain ⟨w2, hw2⟩ : ∃ w2, (W.alloc (.cells #[.pointer (some ⟨p, 0, none⟩)] 112 (0, 0))).alloc (.cells #[.string ⟨#[]⟩, .slice none 0 0] 25 (0, 0)) = w2 := ⟨_, rfl⟩
  have hb2 : Below W.heap.size W w2 := by rw [← hw2]; exact ((Below.refl _ _).alloc (Nat.le_refl _) _).alloc (by simp) _
  have HL2 := Lib.hid (h.below hb2)
  have HR2 := Lib.hid (RK.of_below hb2 h.lt)
  have HB2 : Hid (w2.heap[bx]? = some (.cells #[.pointer (some ⟨p, 0, none⟩)] 112 (0, 0))) := Lib.hid (by rw [← hw2]; exact heap_old (heap_new _ _ _ hbx.symm))
  have HT2 : Hid (w2.heap[bx + 1]? = some (.cells #[.string ⟨#[]⟩, .slice none 0 0] 25 (0, 0))) := Lib.hid (by rw [← hw2]; exact heap_new _ _ _ (by simp [hbx]))
  have hpb : p < bx := by omega
  have HW2 := Lib.hid hw2
  have hent := enters_of Tryz.func81 (by kernel_rfl) rfl
  have hmf : ∀ (fn : Fn) (first cap : Array Value) (w : World), (Instr.makeFunc fn first cap).run Tryz.prog w = .ok (.func fn first cap) w := fun _ _ _ _ => rfl
  have HWR := Lib.hid (l_wrap (a := a) (kk := kk) ⟨#[91]⟩ bx w2 HL2.out (by omega) hk HB2.out (by omega))
  rw [show (⟨#[91]⟩ : ByteArray).data.toList = [91] from rfl, HWRAP.out] at HWR
  clear h hw2 hb2
  go_enter Tryz.func53, Tryz.ntmps53
  go_wp2_with fail
  rw [HW2.out]
  try simp only [hbx]
  refine HWR.out.mono ?_; rintro x w3 ⟨rfl, hst, hrk⟩
  have HL3 := Lib.hid hst
  have HR3 := Lib.hid (HR2.out.trans hrk)
  have HB3 := Lib.hid (hrk.2 _ _ HB2.out (by omega))
  have HT3 := Lib.hid (hrk.2 _ _ HT2.out (by omega))
  have d0 : w3.cell? ⟨bx, 0, none⟩ = some (.pointer (some ⟨p, 0, none⟩)) := by rw [Lib.cell_of_heap HB3.out]; rfl
  have hz3 : bx + 2 ≤ w3.heap.size := heap_lt HT3.out
  clear hst hrk
  go_wp2_with fail
  refine (HREC.out w3 HL3.out).mono ?_; rintro x w4 hx4
  obtain ⟨u, hxe, hu, hst4, hrk4⟩ : ∃ u, x = .returned (.agg #[.string ⟨nm.toArray⟩, u]) ∧ BytW w3.heap.size u ws w4 ∧ LS p tb off cap T fx a2 (k2 : Int) v w4 ∧ RK p w3 w4 := hx4
  obtain ⟨ua, un, uc, rfl⟩ := hu.form
  subst hxe
  obtain ⟨nb, hnb⟩ : ∃ nb : ByteArray, (⟨nm.toArray⟩ : ByteArray) = nb := ⟨_, rfl⟩
  have HNB := Lib.hid hnb
  rw [hnb]
  have HB4 := Lib.hid (hrk4.2 _ _ HB3.out (by omega))
  have HT4 := Lib.hid (hrk4.2 _ _ HT3.out (by omega))
  obtain ⟨t0, t1, z0, z1⟩ := ref_cells HT4.out
  obtain ⟨wt, hwt⟩ : ∃ wt, w4.setCell ⟨bx + 1, 0, none⟩ (.string nb) = wt := ⟨_, rfl⟩
  have HTt : Hid (wt.heap[bx + 1]? = some (.cells #[.string nb, .slice none 0 0] 25 (0, 0))) := Lib.hid (by rw [← hwt]; exact pset HT4.out _ rfl)
  obtain ⟨w5, hw5⟩ : ∃ w5, wt.setCell ⟨bx + 1, 1, none⟩ (.slice ua un uc) = w5 := ⟨_, rfl⟩
  have HT5 : Hid (w5.heap[bx + 1]? = some (.cells #[.string nb, .slice ua un uc] 25 (0, 0))) := Lib.hid (by rw [← hw5]; exact pset HTt.out _ rfl)
  have HB5 : Hid (w5.heap[bx]? = some (.cells #[.pointer (some ⟨p, 0, none⟩)] 112 (0, 0))) := Lib.hid (by
    rw [← hw5, Below.heap_setCell _ _ _ _ (by show bx ≠ bx + 1; omega), ← hwt, Below.heap_setCell _ _ _ _ (by show bx ≠ bx + 1; omega)]; exact HB4.out)
  have keyL : ∀ (W0 : World) (i : Nat) (u0 : Value), LS p tb off cap T fx a2 (k2 : Int) v W0 → LS p tb off cap T fx a2 (k2 : Int) v (W0.setCell ⟨bx + 1, i, none⟩ u0) := fun W0 i u0 h => by
    have := h.2.2.1
    exact h.same (Below.heap_setCell _ _ _ _ (by show p ≠ bx + 1; omega)) (Below.heap_setCell _ _ _ _ (by show tb ≠ bx + 1; omega))
  have HL5 : Hid (LS p tb off cap T fx a2 (k2 : Int) v w5) := Lib.hid (by rw [← hw5, ← hwt]; exact keyL _ _ _ (keyL _ _ _ hst4))
  have HR5 : Hid (RK p W w5) := Lib.hid (by rw [← hw5, ← hwt]; exact ((HR3.out.trans hrk4).setNew (by omega) (by omega)).setNew (by omega) (by omega))
  have HU5 : Hid (BytW (bx + 2) (.slice ua un uc) ws w5) := Lib.hid (by
    rw [← hw5, ← hwt]
    exact ((hu.less hz3).kp (Kp.rk (RK.set (bx + 1) 0 w4 (.string nb)) (by omega))).kp (Kp.rk (RK.set (bx + 1) 1 _ (.slice ua un uc)) (by omega)))
  have HWT := Lib.hid hwt
  have HWW := Lib.hid hw5
  have hb0 : w4.cell? ⟨bx, 0, none⟩ = some (.pointer (some ⟨p, 0, none⟩)) := by rw [Lib.cell_of_heap HB4.out]; rfl
  have hbb : ¬ bx = bx + 1 := by omega
  clear keyL hu hst4 hrk4 hwt hw5 hnb
  go_wp2_with fail
  rw [HWT.out, HWW.out]
  refine (l_must_yes (what := ⟨#[93]⟩) hm _ HL5.out (by omega)).mono ?_; rintro x wu ⟨rfl, hst, hrk⟩
  have HBu := Lib.hid (hrk.2 _ _ HB5.out (by omega))
  have HTu := Lib.hid (hrk.2 _ _ HT5.out (by omega))
  have HRu := Lib.hid (HR5.out.trans hrk)
  have HUu := Lib.hid (HU5.out.kp (Kp.rk hrk (by omega)))
  obtain ⟨lb, hlb⟩ : ∃ lb, wu.heap.size = lb := ⟨_, rfl⟩
  obtain ⟨ww, hww⟩ : ∃ ww, wu.alloc (.cells #[.int .u8 2] 5 (0, 0)) = ww := ⟨_, rfl⟩
  have hbw : Below wu.heap.size wu ww := by rw [← hww]; exact (Below.refl _ _).alloc (Nat.le_refl _) _
  have HLs := Lib.hid (hst.below hbw)
  have HRs := Lib.hid (HRu.out.trans (RK.of_below hbw hst.lt))
  have HBs := Lib.hid ((hbw.block _ (heap_lt HBu.out)).trans HBu.out)
  have HTs := Lib.hid ((hbw.block _ (heap_lt HTu.out)).trans HTu.out)
  have HUU := Lib.hid (HUu.out.kp (Kp.below hbw))
  have hzu : bx + 2 ≤ wu.heap.size := heap_lt HTu.out
  have hLB : ww.heap[lb]? = some (.cells #[.int .u8 2] 5 (0, 0)) := by rw [← hww, ← hlb]; exact heap_alloc_last _ _
  have hl_ : ∀ W', RK p ww W' → W'.cell? ⟨lb, 0, none⟩ = some (.int .u8 2) := fun W' h => by
    rw [Lib.cell_of_heap (h.2 lb _ hLB (by omega))]; rfl
  have HLL : Hid (BytW (bx + 2) (.slice (some ⟨lb, 0, none⟩) 1 1) [2] ww) := Lib.hid ⟨by
    rw [← hww, ← hlb]
    exact (Own.fresh (l := [2]) (C := #[.int .u8 2]) (k := 1) rfl rfl (by decide) wu).less hzu, fun e => by cases e⟩
  have HWU := Lib.hid hww
  have HLB := Lib.hid hlb
  clear hst hrk hbw hww hlb hLB
  go_wp2_with fail
  rw [HWU.out]
  try simp only [HLB.out]
  have HW5 := Lib.hid (l_wrap (a := (a2 + 1)) (kk := k2) ⟨#[33]⟩ bx ww HLs.out (by omega) (by omega) HBs.out (by omega))
  rw [show (⟨#[33]⟩ : ByteArray).data.toList = [33] from rfl] at HW5
  have HZ : Hid (typE T (k2, (a2 + 1), nm, [2] ++ ws) = Z) := HZZ
  unfold typE at HZ
  dsimp only at HZ
  cases hx : wrapP T k2 (a2 + 1) [33] with
  | error e =>
    rw [hx] at HW5 HZ
    dsimp only at HZ
    refine HW5.out.mono ?_; rintro x w6 ⟨rfl, hb⟩
    have HB9 := Lib.hid (HRs.out.1.trans hb)
    clear hb hx
    go_wp2_with fail
    rw [← HZ.out]
    exact ⟨rfl, rfl, HB9.out⟩
  | ok o =>
    rw [hx] at HW5 HZ
    cases o with
    | none =>
      dsimp only at HZ
      refine HW5.out.mono ?_; rintro x w6 ⟨rfl, hst, hrk⟩
      have HL6 := Lib.hid hst
      have HR6 := Lib.hid (HRs.out.trans hrk)
      have HT6 := Lib.hid (hrk.2 _ _ HTs.out (by omega))
      have HU6 := Lib.hid (HUU.out.kp (Kp.rk hrk (by omega)))
      have HO6 : Hid (BytW (bx + 2) (.slice (some ⟨lb, 0, none⟩) 1 1) [2] w6) := Lib.hid (HLL.out.kp (Kp.rk hrk (by omega)))
      have hz6 : bx + 2 ≤ w6.heap.size := heap_lt HT6.out
      obtain ⟨t0, t1, z0, z1⟩ := ref_cells HT6.out
      clear hst hrk hx
      go_wp2_with (at_builtin; refine wpList_pushW rfl _ _ rfl (bx + 2) (.slice (some ⟨lb, 0, none⟩) 1 1) [2] rfl HO6.out (bx + 2) (.slice ua un uc) ws rfl HU6.out (by simp only [List.length_cons, List.length_nil]; omega) hz6 ?_)
      intro v' w9 ho9 hg9
      have hob : ∀ j, Value.ownBlock (.slice (some ⟨lb, 0, none⟩) 1 1) = some j → bx + 2 ≤ j := fun j hj => (HO6.out.1.lt j hj)
      have HL9 := Lib.hid (HL6.out.grown_ hg9 (fun j hj => by have := hob j hj; omega))
      have HR9 := Lib.hid (RK.grown HR6.out hg9 (fun j hj => by have := hob j hj; omega) hpl)
      have hT9 := (hg9.block (bx + 1) (heap_lt HT6.out) (fun e => by have := hob (bx + 1) e.symm; omega)).trans HT6.out
      have HT9 := Lib.hid hT9
      have HO9 := Lib.hid ho9
      obtain ⟨a9, n9, c9, rfl⟩ := ho9.form
      obtain ⟨q0, q1, y0, y1⟩ := ref_cells hT9
      clear ho9 hg9 hT9 t0 t1 z0 z1
      go_wp2_with fail
      obtain ⟨wf, hwf⟩ : ∃ wf, ((w9.setCell ⟨bx + 1, 1, none⟩ (.slice a9 n9 c9)).setCell ⟨bx + 1, 0, none⟩ (.string nb)).setCell ⟨bx + 1, 1, none⟩ (.slice a9 n9 c9) = wf := ⟨_, rfl⟩
      obtain ⟨r1, r2, r3, r4, r5⟩ := ty_fin HL9.out HR9.out HO9.out HT9.out hbx hpb wf hwf
      rw [hwf]
      clear hwf q0 q1 y0 y1
      refine bodyPost_ret (by simp [results, Tryz.results53, go_sem, r4, r5]; try rfl) rfl ?_
      rw [← HZ.out]
      exact ⟨_, by rw [HNB.out], r3, r1, r2⟩
    | some k4 =>
      have hk4 := wrapP_some hx
      dsimp only at HZ
      refine HW5.out.mono ?_; rintro x w6 ⟨rfl, hst, hrk⟩
      have HL6 := Lib.hid hst
      have HR6 := Lib.hid (HRs.out.trans hrk)
      have HT6 := Lib.hid (hrk.2 _ _ HTs.out (by omega))
      have HU6 := Lib.hid (HUU.out.kp (Kp.rk hrk (by omega)))
      have hz6 : bx + 2 ≤ w6.heap.size := heap_lt HT6.out
      obtain ⟨w7, hw7⟩ : ∃ w7, w6.alloc (.cells #[.int .u8 1] 5 (0, 0)) = w7 := ⟨_, rfl⟩
      have hb7 : Below w6.heap.size w6 w7 := by rw [← hw7]; exact (Below.refl _ _).alloc (Nat.le_refl _) _
      have h71 : w7.cell? ⟨w6.heap.size, 0, none⟩ = some (.int .u8 1) := by rw [← hw7]; exact new_cell0 _ _ _
      have HL7 := Lib.hid (HL6.out.below hb7)
      have HR7 := Lib.hid (HR6.out.trans (RK.of_below hb7 HL6.out.lt))
      have HT7 := Lib.hid ((hb7.block _ (heap_lt HT6.out)).trans HT6.out)
      have HU7 := Lib.hid (HU6.out.kp (Kp.below hb7))
      have hz7 : bx + 2 ≤ w7.heap.size := Nat.le_trans hz6 hb7.size
      have HW7 := Lib.hid hw7
      have hl7 : w7.cell? ⟨lb, 0, none⟩ = some (.int .u8 2) := (hb7.cell (p := ⟨lb, 0, none⟩) (lt_of_cell (hl_ w6 hrk))).trans (hl_ w6 hrk)
      have HIN := Lib.hid (insert_one lb w6.heap.size w7 hl7 h71)
      clear hst hrk hx hw7
      go_wp2_with fail
      rw [HW7.out]
      refine HIN.out.mono ?_; rintro x w8 ⟨g8, cap8, rfl, ho8, hg8⟩
      have hb8 : Below w7.heap.size w7 w8 := hg8
      have HL8 := Lib.hid (HL7.out.below hb8)
      have HR8 := Lib.hid (HR7.out.trans (RK.of_below hb8 HL7.out.lt))
      have HT8 := Lib.hid ((hb8.block _ (heap_lt HT7.out)).trans HT7.out)
      have HU8 := Lib.hid (HU7.out.kp (Kp.below hb8))
      have HO8 : Hid (BytW (bx + 2) (.slice (some ⟨g8, 0, none⟩) 2 cap8) [1, 2] w8) := Lib.hid ⟨ho8.less hz7, fun e => by cases e⟩
      have hz8 : bx + 2 ≤ w8.heap.size := Nat.le_trans hz7 hb8.size
      obtain ⟨t0, t1, z0, z1⟩ := ref_cells HT8.out
      clear ho8 hg8 hb8 HIN HW7
      go_wp2_with (at_builtin; refine wpList_pushW rfl _ _ rfl (bx + 2) (.slice (some ⟨g8, 0, none⟩) 2 cap8) [1, 2] rfl HO8.out (bx + 2) (.slice ua un uc) ws rfl HU8.out (by simp only [List.length_cons, List.length_nil]; omega) hz8 ?_)
      intro v' w9 ho9 hg9
      have hob : ∀ j, Value.ownBlock (.slice (some ⟨g8, 0, none⟩) 2 cap8) = some j → bx + 2 ≤ j := fun j hj => (HO8.out.1.lt j hj)
      have HL9 := Lib.hid (HL8.out.grown_ hg9 (fun j hj => by have := hob j hj; omega))
      have HR9 := Lib.hid (RK.grown HR8.out hg9 (fun j hj => by have := hob j hj; omega) hpl)
      have hT9 := (hg9.block (bx + 1) (heap_lt HT8.out) (fun e => by have := hob (bx + 1) e.symm; omega)).trans HT8.out
      have HT9 := Lib.hid hT9
      have HO9 := Lib.hid ho9
      obtain ⟨a9, n9, c9, rfl⟩ := ho9.form
      obtain ⟨q0, q1, y0, y1⟩ := ref_cells hT9
      clear ho9 hg9 hT9 t0 t1 z0 z1
      go_wp2_with fail
      obtain ⟨wf, hwf⟩ : ∃ wf, ((w9.setCell ⟨bx + 1, 1, none⟩ (.slice a9 n9 c9)).setCell ⟨bx + 1, 0, none⟩ (.string nb)).setCell ⟨bx + 1, 1, none⟩ (.slice a9 n9 c9) = wf := ⟨_, rfl⟩
      obtain ⟨r1, r2, r3, r4, r5⟩ := ty_fin HL9.out HR9.out HO9.out HT9.out hbx hpb wf hwf
      rw [hwf]
      clear hwf q0 q1 y0 y1
      refine bodyPost_ret (by simp [results, Tryz.results53, go_sem, r4, r5]; try rfl) rfl ?_
      rw [← HZ.out]
      exact ⟨_, by rw [HNB.out], r3, r1, r2⟩
theorem l_typ_any : ∀ f : Nat, f ≤ 100 → LTypSpec f
  | 0, _ => fun p tb off cap T fx a kk v W hk hf h ha => by omega
  | f + 1, hf100 => fun p tb off cap T fx a kk v W hk hf h ha => by
    have ih := l_typ_any f (by omega)
    unfold typG typH
    cases hw : wrapP T kk a [91] with
    | error e => exact l_typ_err p tb off cap T fx a kk v W hk h ha e (Lib.hid hw)
    | ok o =>
      cases o with
      | none =>
        dsimp only
        cases hn : namP [] T a with
        | error e => exact l_typ_noname p tb off cap T fx a kk v W hk h ha e (Lib.hid hw) hn
        | ok s => exact l_typ_name p tb off cap T fx a kk v W hk h ha s (Lib.hid hw) hn
      | some k1 =>
        obtain ⟨e1, e2, e3⟩ := wrapP_some hw
        dsimp only
        have HREC := fun W' (hW : LS p tb off cap T fx (a + 1) (k1 : Int) v W') => ih p tb off cap T fx (a + 1) k1 v W' (by omega) (by omega) hW (by omega)
        cases hi : typG T f k1 (a + 1) with
        | error e =>
          rw [hi] at HREC
          exact l_typ_inner p tb off cap T fx a kk v W hk h ha k1 e (Lib.hid hw) (Lib.hid HREC)
        | ok y =>
          obtain ⟨k2, a2, nm, ws⟩ := y
          have hon := typG_on T f k1 (a + 1) _ hi (by omega)
          rw [hi] at HREC
          dsimp only at hon ⊢
          cases hm : mrkP T a2 [93] with
          | false => exact l_typ_open p tb off cap T fx a kk v W hk h ha k1 k2 a2 nm ws (Lib.hid hw) (by omega) hm (Lib.hid HREC)
          | true => exact l_typ_list p tb off cap T fx a kk v W hk h ha k1 k2 a2 nm ws (Lib.hid hw) (by omega) (by omega) (by omega) hm (Lib.hid HREC)
end Go.Proofs.YtgaknbnhmoddcaaGreatDoor
namespace Go.Proofs.YtgaknbnhmoddcaaGreatDoor
open Go.RowKit Go.Lib
theorem lcatch_idle_a (q1 q2 q3 : Addr) (w : World) :
    CallsD Tryz.prog 89 #[.pointer (some q1), .pointer (some q2), .pointer (some q3)] .returning w fun e u' w' => e = .returned (.tuple #[]) ∧ u' = .returning ∧ w' = w := by
  refine callsD_of_wpS Tryz.func89 rfl fun c₀ cs hu => ?_
  apply wpS_seq
  apply wpS_region
  simp [wpOpsS, go_sem, recoverD, hu, Tryz.ntmps89, Exit.thenS]
  refine wpS_of_wp ?_
  simp only [List.replicate_succ, List.replicate_zero, Array.replicate, List.setIfInBounds_toArray, List.set_cons_zero, List.set_cons_succ, List.append_toArray, List.cons_append, List.nil_append]
  go_wp2_with fail
  cases c₀
  simp_all [bodyPostS, results, Tryz.results89]
set_option maxRecDepth 100000 in
theorem lcatch_panicking_a (b1 b2 b3 : Nat) (x1 : Value) (x2 x3 : Int) (e : ErrP) (older : List PanicEntry) (w : World) (n12 : b1 < b2) (n23 : b2 < b3) (h1 : w.cell? ⟨b1, 0, none⟩ = some x1) (h2 : w.cell? ⟨b2, 0, none⟩ = some (.int .i64 x2)) (h3 : w.cell? ⟨b3, 0, none⟩ = some (.int .i64 x3)) (z1 : w.frozen? ⟨b1, 0, none⟩ = false) (z2 : w.frozen? ⟨b2, 0, none⟩ = false) (z3 : w.frozen? ⟨b3, 0, none⟩ = false) :
    CallsD Tryz.prog 89 #[.pointer (some ⟨b1, 0, none⟩), .pointer (some ⟨b2, 0, none⟩), .pointer (some ⟨b3, 0, none⟩)] (.panicking ({ v := .iface 143 (.agg #[.int .i64 e.1, .int .i64 e.2]), recovered := false } :: older)) w fun e' u' w' =>
      e' = .returned (.tuple #[]) ∧ u' = .panicking ({ v := .iface 143 (.agg #[.int .i64 e.1, .int .i64 e.2]), recovered := true } :: older) ∧ w'.cell? ⟨b1, 0, none⟩ = some (.slice none 0 0) ∧ w'.cell? ⟨b2, 0, none⟩ = some (.int .i64 e.2) ∧ w'.cell? ⟨b3, 0, none⟩ = some (.int .i64 e.1) ∧ ∀ B, B ≤ b1 → B ≤ w.heap.size → Below B w w' := by
  obtain ⟨e1, e2⟩ := e
  obtain ⟨j2, hj2⟩ : ∃ j2 : Int, (e2 : Int) = j2 := ⟨_, rfl⟩
  simp only [hj2]
  have hta : ∀ w, (Instr.typeAssert (.iface 143 (.agg #[.int .i64 e1, .int .i64 j2])) 20 143 false).run Tryz.prog w = .ok (.agg #[.int .i64 e1, .int .i64 j2]) w := fun w => by kernel_rfl
  have hf0 : ∀ w, (Instr.field 143 (.agg #[.int .i64 e1, .int .i64 j2]) 0).run Tryz.prog w = .ok (.int .i64 e1) w := fun w => by kernel_rfl
  have hf1 : ∀ w, (Instr.field 143 (.agg #[.int .i64 e1, .int .i64 j2]) 1).run Tryz.prog w = .ok (.int .i64 j2) w := fun w => by kernel_rfl
  refine callsD_of_wpS Tryz.func89 rfl fun c₀ cs hu => ?_
  apply wpS_seq
  apply wpS_region
  simp [wpOpsS, go_sem, recoverD, hu, Tryz.ntmps89, Exit.thenS]
  refine wpS_of_wp ?_
  simp only [List.replicate_succ, List.replicate_zero, Array.replicate, List.setIfInBounds_toArray, List.set_cons_zero, List.set_cons_succ, List.append_toArray, List.cons_append, List.nil_append]
  go_wp2_with fail
  have k12 : ¬ b1 = b2 := by omega
  have k13 : ¬ b1 = b3 := by omega
  have k23 : ¬ b2 = b3 := by omega
  have k21 : ¬ b2 = b1 := by omega
  have k31 : ¬ b3 = b1 := by omega
  have k32 : ¬ b3 = b2 := by omega
  have HFIN : Hid (∀ wf, wf = (((w.setCell ⟨b1, 0, none⟩ (.slice none 0 0)).setCell ⟨b2, 0, none⟩ (.int .i64 j2)).setCell ⟨b3, 0, none⟩ (.int .i64 e1)).drew → wf.cell? ⟨b1, 0, none⟩ = some (.slice none 0 0) ∧ wf.cell? ⟨b2, 0, none⟩ = some (.int .i64 j2) ∧ wf.cell? ⟨b3, 0, none⟩ = some (.int .i64 e1) ∧ ∀ B, B ≤ b1 → B ≤ w.heap.size → Below B w wf) := Lib.hid (by
    rintro wf rfl
    have m2 : (w.setCell ⟨b1, 0, none⟩ (.slice none 0 0)).cell? ⟨b2, 0, none⟩ = some (.int .i64 x2) := by
      rw [World.cell?_setCell_other _ _ _ _ (by intro h; injection h with h; omega)]; exact h2
    have m3 : ((w.setCell ⟨b1, 0, none⟩ (.slice none 0 0)).setCell ⟨b2, 0, none⟩ (.int .i64 j2)).cell? ⟨b3, 0, none⟩ = some (.int .i64 x3) := by
      rw [World.cell?_setCell_other _ _ _ _ (by intro h; injection h with h; omega), World.cell?_setCell_other _ _ _ _ (by intro h; injection h with h; omega)]; exact h3
    refine ⟨?_, ?_, ?_, fun B p1 p0 => ?_⟩
    · show (((w.setCell ⟨b1, 0, none⟩ (.slice none 0 0)).setCell ⟨b2, 0, none⟩ (.int .i64 j2)).setCell ⟨b3, 0, none⟩ (.int .i64 e1)).cell? ⟨b1, 0, none⟩ = _
      rw [World.cell?_setCell_other _ _ _ _ (by intro h; injection h with h; omega), World.cell?_setCell_other _ _ _ _ (by intro h; injection h with h; omega)]
      exact World.cell?_setCell_same _ _ _ h1
    · show (((w.setCell ⟨b1, 0, none⟩ (.slice none 0 0)).setCell ⟨b2, 0, none⟩ (.int .i64 j2)).setCell ⟨b3, 0, none⟩ (.int .i64 e1)).cell? ⟨b2, 0, none⟩ = _
      rw [World.cell?_setCell_other _ _ _ _ (by intro h; injection h with h; omega)]
      exact World.cell?_setCell_same _ _ _ m2
    · show (((w.setCell ⟨b1, 0, none⟩ (.slice none 0 0)).setCell ⟨b2, 0, none⟩ (.int .i64 j2)).setCell ⟨b3, 0, none⟩ (.int .i64 e1)).cell? ⟨b3, 0, none⟩ = _
      exact World.cell?_setCell_same _ _ _ m3
    · exact (((((Below.refl B w)).setCell (p := ⟨b1, 0, none⟩) p1 _).setCell (p := ⟨b2, 0, none⟩) (by show B ≤ b2; omega) _).setCell (p := ⟨b3, 0, none⟩) (by show B ≤ b3; omega) _).drew)
  go_region
  clear h1 h2 h3 z1 z2 z3 k12 k13 k23 k21 k31 k32 hta hf0 hf1
  go_wp2_with fail
  cases c₀
  simp only at hu
  subst hu
  simp [bodyPostS, results, Tryz.results89]
  exact HFIN.out _ rfl
set_option maxRecDepth 100000 in
set_option maxHeartbeats 4000000 in
theorem lread_go_a {α : Type} {tb off cap : Nat} {T : List Tok} {fx : Bool} {k : Nat} (w : World) (hr : TokRow tb off T w) (htb : tb < w.heap.size) (hT : T.length ≤ 100000 ∧ ∀ t ∈ T, t.text.length ≤ 100000) (hk : k < T.length)
    (R : Except ErrP (Nat × α)) (G : α → Value → World → Prop) (hG : ∀ y u W W' q, q ≤ w.heap.size + 2 → RK q W W' → G y u W → G y u W')
    (hdo : ∀ W, LS (w.heap.size + 3) tb off cap T fx k 0 (.slice none 0 0) W → Below w.heap.size w W → Calls Tryz.prog 57 #[.pointer (some ⟨w.heap.size + 3, 0, none⟩)] W (DoV (w.heap.size + 3) tb off cap T fx R G W)) :
    Calls Tryz.prog 56 #[.slice (some ⟨tb, off, none⟩) T.length cap, .int .i64 (k : Int), .bool fx, .func (.func 57) #[] #[]] w fun x w' => ReadV R G x w' ∧ Below w.heap.size w w' := by
  have HDO := Lib.hid hdo
  have HG := Lib.hid hG
  have HR := Lib.hid hr
  have hT1 := hT.1
  have HT := Lib.hid hT
  have hT0 : T.length ≤ 9223372036854775807 := by omega
  have hnk : ¬ (T.length : Int) ≤ (k : Int) := by omega
  have hk0 : ¬ (k : Int) < 0 := by omega
  have hmf : ∀ (fn : Fn) (first cap : Array Value) (w : World), (Instr.makeFunc fn first cap).run Tryz.prog w = .ok (.func fn first cap) w := fun _ _ _ _ => rfl
  have hent := enters_of Tryz.func57 (by kernel_rfl) rfl
  clear hdo hG hr hT
  go_enter_defers Tryz.func56, Tryz.ntmps56
  go_wp2_with fail
  obtain ⟨w2, hw2⟩ : ∃ w2, ((((w.alloc (.cells #[.slice none 0 0] 26 (0, 0))).alloc (.cells #[.int .i64 0] 3 (0, 0))).alloc (.cells #[.int .i64 0] 33 (0, 0))).alloc (.cells #[.slice (some ⟨tb, off, none⟩) T.length cap, .int .i64 (k : Int), .bool fx, .int .i64 0, .slice none 0 0] 147 (0, 0))) = w2 := ⟨_, rfl⟩
  have hw2d := hw2
  rw [hw2]
  have ha1 : w2.heap[w.heap.size]? = some (.cells #[.slice none 0 0] 26 (0, 0)) := by rw [← hw2d]; exact heap_old (heap_old (heap_old (heap_new _ _ _ rfl)))
  have ha2 : w2.heap[w.heap.size + 1]? = some (.cells #[.int .i64 0] 3 (0, 0)) := by rw [← hw2d]; exact heap_old (heap_old (heap_new _ _ _ (by simp)))
  have ha3 : w2.heap[w.heap.size + 1 + 1]? = some (.cells #[.int .i64 0] 33 (0, 0)) := by rw [← hw2d]; exact heap_old (heap_new _ _ _ (by simp))
  have hap : w2.heap[w.heap.size + 3]? = some (.cells #[.slice (some ⟨tb, off, none⟩) T.length cap, .int .i64 (k : Int), .bool fx, .int .i64 0, .slice none 0 0] 147 (0, 0)) := by rw [← hw2d]; exact heap_new _ _ _ (by simp)
  have hbw : Below w.heap.size w w2 := by
    rw [← hw2d]
    exact ((((Below.refl _ _).alloc (Nat.le_refl _) _).alloc (by simp) _).alloc (by simp; omega) _).alloc (by simp; omega) _
  have HLS : Hid (LS (w.heap.size + 3) tb off cap T fx k 0 (.slice none 0 0) w2) := Lib.hid ⟨hap, HR.out.below hbw htb, by omega, HT.out, by omega⟩
  have HBW := Lib.hid hbw
  have HA1 := Lib.hid ha1
  have HA2 := Lib.hid ha2
  have HA3 := Lib.hid ha3
  clear ha1 ha2 ha3 hap hbw hw2 hw2d
  refine (HDO.out w2 HLS.out HBW.out).mono ?_; rintro x w3 hx
  have HX := Lib.hid hx
  clear hx
  cases R with
  | error e =>
    obtain ⟨hxe, hb3⟩ : x = .panicked (stopP e) ∧ Below (w.heap.size + 3) w2 w3 := HX.out
    have HZ1 : Hid (w3.heap[w.heap.size]? = some (.cells #[.slice none 0 0] 26 (0, 0))) := Lib.hid ((hb3.block _ (by omega)).trans HA1.out)
    have HZ2 : Hid (w3.heap[w.heap.size + 1]? = some (.cells #[.int .i64 0] 3 (0, 0))) := Lib.hid ((hb3.block _ (by omega)).trans HA2.out)
    have HZ3 : Hid (w3.heap[w.heap.size + 1 + 1]? = some (.cells #[.int .i64 0] 33 (0, 0))) := Lib.hid ((hb3.block _ (by omega)).trans HA3.out)
    have HBZ : Hid (Below w.heap.size w w3) := Lib.hid (HBW.out.trans (hb3.mono (by omega)))
    clear hb3 HX
    subst hxe
    go_wp2_with fail
    refine leaves_cons (f := 89) (args := #[.pointer (some ⟨w.heap.size, 0, none⟩), .pointer (some ⟨w.heap.size + 1, 0, none⟩), .pointer (some ⟨w.heap.size + 1 + 1, 0, none⟩)]) (by simp) (by simp [go_sem]) ?_
    refine (lcatch_panicking_a w.heap.size (w.heap.size + 1) (w.heap.size + 1 + 1) (.slice none 0 0) 0 0 e [] _ (by omega) (by omega) (Lib.cell_of_heap HZ1.out 0) (Lib.cell_of_heap HZ2.out 0) (Lib.cell_of_heap HZ3.out 0) (Lib.frozen_of_heap HZ1.out 0) (Lib.frozen_of_heap HZ2.out 0) (Lib.frozen_of_heap HZ3.out 0)).mono ?_
    rintro x u wf ⟨rfl, rfl, m0, m1, m2, hbf⟩
    have HBF : Hid (Below w.heap.size w wf) := Lib.hid (HBZ.out.trans (hbf _ (Nat.le_refl _) HBZ.out.size))
    clear hbf
    simp [Leaves, settle, results, Tryz.results56, go_sem, m0, m1, m2]
    exact ⟨rfl, HBF.out⟩
  | ok ky =>
    obtain ⟨k', y⟩ := ky
    obtain ⟨av, nv, cv, op', v', hxe, hg, hls, hrk⟩ : ∃ a n c op v, x = .returned (.slice a n c) ∧ G y (.slice a n c) w3 ∧ LS (w.heap.size + 3) tb off cap T fx k' op v w3 ∧ RK (w.heap.size + 3) w2 w3 := HX.out
    have HZ1 : Hid (w3.heap[w.heap.size]? = some (.cells #[.slice none 0 0] 26 (0, 0))) := Lib.hid (hrk.2 _ _ HA1.out (by omega))
    have HZ2 : Hid (w3.heap[w.heap.size + 1]? = some (.cells #[.int .i64 0] 3 (0, 0))) := Lib.hid (hrk.2 _ _ HA2.out (by omega))
    have HZ3 : Hid (w3.heap[w.heap.size + 1 + 1]? = some (.cells #[.int .i64 0] 33 (0, 0))) := Lib.hid (hrk.2 _ _ HA3.out (by omega))
    have HBZ : Hid (Below w.heap.size w w3) := Lib.hid (HBW.out.trans (hrk.1.mono (by omega)))
    have HGG := Lib.hid hg
    have HL3 := Lib.hid hls
    clear hg hls hrk HX
    subst hxe
    have d0 : w3.cell? ⟨w.heap.size, 0, none⟩ = some (.slice none 0 0) := Lib.cell_of_heap HZ1.out 0
    have d1 : w3.cell? ⟨w.heap.size + 1, 0, none⟩ = some (.int .i64 0) := Lib.cell_of_heap HZ2.out 0
    have d2 : w3.cell? ⟨w.heap.size + 1 + 1, 0, none⟩ = some (.int .i64 0) := Lib.cell_of_heap HZ3.out 0
    have z0 : w3.frozen? ⟨w.heap.size, 0, none⟩ = false := Lib.frozen_of_heap HZ1.out 0
    have z1 : w3.frozen? ⟨w.heap.size + 1, 0, none⟩ = false := Lib.frozen_of_heap HZ2.out 0
    have z2 : w3.frozen? ⟨w.heap.size + 1 + 1, 0, none⟩ = false := Lib.frozen_of_heap HZ3.out 0
    obtain ⟨c0, c1, c2, c3, c4⟩ := HL3.out.cells
    go_upto_region 6 with fail
    go_region
    obtain ⟨wa, hwa⟩ : ∃ wa, w3.setCell ⟨w.heap.size, 0, none⟩ (.slice av nv cv) = wa := ⟨_, rfl⟩
    obtain ⟨wb, hwb⟩ : ∃ wb, wa.setCell ⟨w.heap.size, 0, none⟩ (.slice av nv cv) = wb := ⟨_, rfl⟩
    obtain ⟨wc, hwc⟩ : ∃ wc, wb.setCell ⟨w.heap.size + 1, 0, none⟩ (.int .i64 (k' : Int)) = wc := ⟨_, rfl⟩
    obtain ⟨wd, hwd⟩ : ∃ wd, wc.setCell ⟨w.heap.size + 1 + 1, 0, none⟩ (.int .i64 0) = wd := ⟨_, rfl⟩
    obtain ⟨wf, hwf⟩ : ∃ wf, wd.drew = wf := ⟨_, rfl⟩
    rw [hwa, hwb, hwc, hwd, hwf]
    have HF : Hid (Below w.heap.size w wf) := Lib.hid (by
      rw [← hwf, ← hwd, ← hwc, ← hwb, ← hwa]
      exact ((((HBZ.out.setCell (p := ⟨w.heap.size, 0, none⟩) (Nat.le_refl _) _).setCell (p := ⟨w.heap.size, 0, none⟩) (Nat.le_refl _) _).setCell (p := ⟨w.heap.size + 1, 0, none⟩) (by show w.heap.size ≤ w.heap.size + 1; omega) _).setCell (p := ⟨w.heap.size + 1 + 1, 0, none⟩) (by show w.heap.size ≤ w.heap.size + 1 + 1; omega) _).drew)
    have HGF : Hid (G y (.slice av nv cv) wf) := Lib.hid (by
      have g1 := HG.out _ _ _ _ w.heap.size (by omega) (RK.set w.heap.size 0 w3 (.slice av nv cv)) HGG.out
      rw [hwa] at g1
      have g2 := HG.out _ _ _ _ w.heap.size (by omega) (RK.set w.heap.size 0 wa (.slice av nv cv)) g1
      rw [hwb] at g2
      have g3 := HG.out _ _ _ _ (w.heap.size + 1) (by omega) (RK.set (w.heap.size + 1) 0 wb (.int .i64 (k' : Int))) g2
      rw [hwc] at g3
      have g4 := HG.out _ _ _ _ (w.heap.size + 1 + 1) (by omega) (RK.set (w.heap.size + 1 + 1) 0 wc (.int .i64 0)) g3
      rw [hwd] at g4
      have hne : wd.heap.size ≠ 0 := by
        have h1 := heap_lt HZ1.out
        rw [← hwd, ← hwc, ← hwb, ← hwa]
        simp only [World.size_setCell]
        omega
      have g5 := HG.out _ _ wd wf w.heap.size (by omega) ⟨by rw [← hwf]; exact (Below.refl _ _).drew, fun k o hk _ => by rw [← hwf]; exact hk⟩ g4
      exact g5)
    have m0 : wf.cell? ⟨w.heap.size, 0, none⟩ = some (.slice av nv cv) := by
      rw [← hwf]
      show wd.cell? _ = _
      rw [← hwd, World.cell?_setCell_other _ _ _ _ (by intro h; injection h with h; omega), ← hwc, World.cell?_setCell_other _ _ _ _ (by intro h; injection h with h; omega), ← hwb]
      have e1 : wa.cell? ⟨w.heap.size, 0, none⟩ = some (.slice av nv cv) := by rw [← hwa]; exact World.cell?_setCell_same _ _ _ d0
      exact World.cell?_setCell_same _ _ _ e1
    have m1 : wf.cell? ⟨w.heap.size + 1, 0, none⟩ = some (.int .i64 (k' : Int)) := by
      rw [← hwf]
      show wd.cell? _ = _
      have e1 : wb.cell? ⟨w.heap.size + 1, 0, none⟩ = some (.int .i64 0) := by
        rw [← hwb, World.cell?_setCell_other _ _ _ _ (by intro h; injection h with h; omega), ← hwa, World.cell?_setCell_other _ _ _ _ (by intro h; injection h with h; omega)]; exact d1
      rw [← hwd, World.cell?_setCell_other _ _ _ _ (by intro h; injection h with h; omega), ← hwc]
      exact World.cell?_setCell_same _ _ _ e1
    have m2 : wf.cell? ⟨w.heap.size + 1 + 1, 0, none⟩ = some (.int .i64 0) := by
      rw [← hwf]
      show wd.cell? _ = _
      have e1 : wc.cell? ⟨w.heap.size + 1 + 1, 0, none⟩ = some (.int .i64 0) := by
        rw [← hwc, World.cell?_setCell_other _ _ _ _ (by intro h; injection h with h; omega), ← hwb, World.cell?_setCell_other _ _ _ _ (by intro h; injection h with h; omega), ← hwa, World.cell?_setCell_other _ _ _ _ (by intro h; injection h with h; omega)]; exact d2
      rw [← hwd]
      exact World.cell?_setCell_same _ _ _ e1
    clear hwa hwb hwc hwd hwf d0 d1 d2 z0 z1 z2 c0 c1 c2 c3 c4
    go_wp2_with fail
    refine leaves_cons (f := 89) (args := #[.pointer (some ⟨w.heap.size, 0, none⟩), .pointer (some ⟨w.heap.size + 1, 0, none⟩), .pointer (some ⟨w.heap.size + 1 + 1, 0, none⟩)]) (by simp) (by simp [go_sem]) ?_
    refine (lcatch_idle_a ⟨w.heap.size, 0, none⟩ ⟨w.heap.size + 1, 0, none⟩ ⟨w.heap.size + 1 + 1, 0, none⟩ _).mono ?_
    rintro x u wg ⟨rfl, rfl, rfl⟩
    simp [Leaves, settle, results, Tryz.results56, go_sem, m0, m1, m2]
    exact ⟨⟨av, nv, cv, rfl, HGF.out⟩, HF.out⟩
end Go.Proofs.YtgaknbnhmoddcaaGreatDoor
namespace Go.Proofs.YtgaknbnhmoddcaaGreatDoor
open Go.RowKit Go.Lib
theorem lcatch_idle_d (q1 q2 q3 : Addr) (w : World) :
    CallsD Tryz.prog 88 #[.pointer (some q1), .pointer (some q2), .pointer (some q3)] .returning w fun e u' w' => e = .returned (.tuple #[]) ∧ u' = .returning ∧ w' = w := by
  refine callsD_of_wpS Tryz.func88 rfl fun c₀ cs hu => ?_
  apply wpS_seq
  apply wpS_region
  simp [wpOpsS, go_sem, recoverD, hu, Tryz.ntmps88, Exit.thenS]
  refine wpS_of_wp ?_
  simp only [List.replicate_succ, List.replicate_zero, Array.replicate, List.setIfInBounds_toArray, List.set_cons_zero, List.set_cons_succ, List.append_toArray, List.cons_append, List.nil_append]
  go_wp2_with fail
  cases c₀
  simp_all [bodyPostS, results, Tryz.results88]
set_option maxRecDepth 100000 in
theorem lcatch_panicking_d (b1 b2 b3 : Nat) (x1 : Value) (x2 x3 : Int) (e : ErrP) (older : List PanicEntry) (w : World) (n12 : b1 < b2) (n23 : b2 < b3) (h1 : w.cell? ⟨b1, 0, none⟩ = some x1) (h2 : w.cell? ⟨b2, 0, none⟩ = some (.int .i64 x2)) (h3 : w.cell? ⟨b3, 0, none⟩ = some (.int .i64 x3)) (z1 : w.frozen? ⟨b1, 0, none⟩ = false) (z2 : w.frozen? ⟨b2, 0, none⟩ = false) (z3 : w.frozen? ⟨b3, 0, none⟩ = false) :
    CallsD Tryz.prog 88 #[.pointer (some ⟨b1, 0, none⟩), .pointer (some ⟨b2, 0, none⟩), .pointer (some ⟨b3, 0, none⟩)] (.panicking ({ v := .iface 143 (.agg #[.int .i64 e.1, .int .i64 e.2]), recovered := false } :: older)) w fun e' u' w' =>
      e' = .returned (.tuple #[]) ∧ u' = .panicking ({ v := .iface 143 (.agg #[.int .i64 e.1, .int .i64 e.2]), recovered := true } :: older) ∧ w'.cell? ⟨b1, 0, none⟩ = some (.slice none 0 0) ∧ w'.cell? ⟨b2, 0, none⟩ = some (.int .i64 e.2) ∧ w'.cell? ⟨b3, 0, none⟩ = some (.int .i64 e.1) ∧ ∀ B, B ≤ b1 → B ≤ w.heap.size → Below B w w' := by
  obtain ⟨e1, e2⟩ := e
  obtain ⟨j2, hj2⟩ : ∃ j2 : Int, (e2 : Int) = j2 := ⟨_, rfl⟩
  simp only [hj2]
  have hta : ∀ w, (Instr.typeAssert (.iface 143 (.agg #[.int .i64 e1, .int .i64 j2])) 20 143 false).run Tryz.prog w = .ok (.agg #[.int .i64 e1, .int .i64 j2]) w := fun w => by kernel_rfl
  have hf0 : ∀ w, (Instr.field 143 (.agg #[.int .i64 e1, .int .i64 j2]) 0).run Tryz.prog w = .ok (.int .i64 e1) w := fun w => by kernel_rfl
  have hf1 : ∀ w, (Instr.field 143 (.agg #[.int .i64 e1, .int .i64 j2]) 1).run Tryz.prog w = .ok (.int .i64 j2) w := fun w => by kernel_rfl
  refine callsD_of_wpS Tryz.func88 rfl fun c₀ cs hu => ?_
  apply wpS_seq
  apply wpS_region
  simp [wpOpsS, go_sem, recoverD, hu, Tryz.ntmps88, Exit.thenS]
  refine wpS_of_wp ?_
  simp only [List.replicate_succ, List.replicate_zero, Array.replicate, List.setIfInBounds_toArray, List.set_cons_zero, List.set_cons_succ, List.append_toArray, List.cons_append, List.nil_append]
  go_wp2_with fail
  have k12 : ¬ b1 = b2 := by omega
  have k13 : ¬ b1 = b3 := by omega
  have k23 : ¬ b2 = b3 := by omega
  have k21 : ¬ b2 = b1 := by omega
  have k31 : ¬ b3 = b1 := by omega
  have k32 : ¬ b3 = b2 := by omega
  have HFIN : Hid (∀ wf, wf = (((w.setCell ⟨b1, 0, none⟩ (.slice none 0 0)).setCell ⟨b2, 0, none⟩ (.int .i64 j2)).setCell ⟨b3, 0, none⟩ (.int .i64 e1)).drew → wf.cell? ⟨b1, 0, none⟩ = some (.slice none 0 0) ∧ wf.cell? ⟨b2, 0, none⟩ = some (.int .i64 j2) ∧ wf.cell? ⟨b3, 0, none⟩ = some (.int .i64 e1) ∧ ∀ B, B ≤ b1 → B ≤ w.heap.size → Below B w wf) := Lib.hid (by
    rintro wf rfl
    have m2 : (w.setCell ⟨b1, 0, none⟩ (.slice none 0 0)).cell? ⟨b2, 0, none⟩ = some (.int .i64 x2) := by
      rw [World.cell?_setCell_other _ _ _ _ (by intro h; injection h with h; omega)]; exact h2
    have m3 : ((w.setCell ⟨b1, 0, none⟩ (.slice none 0 0)).setCell ⟨b2, 0, none⟩ (.int .i64 j2)).cell? ⟨b3, 0, none⟩ = some (.int .i64 x3) := by
      rw [World.cell?_setCell_other _ _ _ _ (by intro h; injection h with h; omega), World.cell?_setCell_other _ _ _ _ (by intro h; injection h with h; omega)]; exact h3
    refine ⟨?_, ?_, ?_, fun B p1 p0 => ?_⟩
    · show (((w.setCell ⟨b1, 0, none⟩ (.slice none 0 0)).setCell ⟨b2, 0, none⟩ (.int .i64 j2)).setCell ⟨b3, 0, none⟩ (.int .i64 e1)).cell? ⟨b1, 0, none⟩ = _
      rw [World.cell?_setCell_other _ _ _ _ (by intro h; injection h with h; omega), World.cell?_setCell_other _ _ _ _ (by intro h; injection h with h; omega)]
      exact World.cell?_setCell_same _ _ _ h1
    · show (((w.setCell ⟨b1, 0, none⟩ (.slice none 0 0)).setCell ⟨b2, 0, none⟩ (.int .i64 j2)).setCell ⟨b3, 0, none⟩ (.int .i64 e1)).cell? ⟨b2, 0, none⟩ = _
      rw [World.cell?_setCell_other _ _ _ _ (by intro h; injection h with h; omega)]
      exact World.cell?_setCell_same _ _ _ m2
    · show (((w.setCell ⟨b1, 0, none⟩ (.slice none 0 0)).setCell ⟨b2, 0, none⟩ (.int .i64 j2)).setCell ⟨b3, 0, none⟩ (.int .i64 e1)).cell? ⟨b3, 0, none⟩ = _
      exact World.cell?_setCell_same _ _ _ m3
    · exact (((((Below.refl B w)).setCell (p := ⟨b1, 0, none⟩) p1 _).setCell (p := ⟨b2, 0, none⟩) (by show B ≤ b2; omega) _).setCell (p := ⟨b3, 0, none⟩) (by show B ≤ b3; omega) _).drew)
  go_region
  clear h1 h2 h3 z1 z2 z3 k12 k13 k23 k21 k31 k32 hta hf0 hf1
  go_wp2_with fail
  cases c₀
  simp only at hu
  subst hu
  simp [bodyPostS, results, Tryz.results88]
  exact HFIN.out _ rfl
set_option maxRecDepth 100000 in
set_option maxHeartbeats 4000000 in
theorem lread_go_d {α : Type} {tb off cap : Nat} {T : List Tok} {fx : Bool} {k : Nat} (w : World) (hr : TokRow tb off T w) (htb : tb < w.heap.size) (hT : T.length ≤ 100000 ∧ ∀ t ∈ T, t.text.length ≤ 100000) (hk : k < T.length)
    (R : Except ErrP (Nat × α)) (G : α → Value → World → Prop) (hG : ∀ y u W W' q, q ≤ w.heap.size + 2 → RK q W W' → G y u W → G y u W')
    (hdo : ∀ W, LS (w.heap.size + 3) tb off cap T fx k 0 (.slice none 0 0) W → Below w.heap.size w W → Calls Tryz.prog 55 #[.pointer (some ⟨w.heap.size + 3, 0, none⟩)] W (DoV (w.heap.size + 3) tb off cap T fx R G W)) :
    Calls Tryz.prog 54 #[.slice (some ⟨tb, off, none⟩) T.length cap, .int .i64 (k : Int), .bool fx, .func (.func 55) #[] #[]] w fun x w' => ReadV R G x w' ∧ Below w.heap.size w w' := by
  have HDO := Lib.hid hdo
  have HG := Lib.hid hG
  have HR := Lib.hid hr
  have hT1 := hT.1
  have HT := Lib.hid hT
  have hT0 : T.length ≤ 9223372036854775807 := by omega
  have hnk : ¬ (T.length : Int) ≤ (k : Int) := by omega
  have hk0 : ¬ (k : Int) < 0 := by omega
  have hmf : ∀ (fn : Fn) (first cap : Array Value) (w : World), (Instr.makeFunc fn first cap).run Tryz.prog w = .ok (.func fn first cap) w := fun _ _ _ _ => rfl
  have hent := enters_of Tryz.func55 (by kernel_rfl) rfl
  clear hdo hG hr hT
  go_enter_defers Tryz.func54, Tryz.ntmps54
  go_wp2_with fail
  obtain ⟨w2, hw2⟩ : ∃ w2, ((((w.alloc (.cells #[.slice none 0 0] 27 (0, 0))).alloc (.cells #[.int .i64 0] 3 (0, 0))).alloc (.cells #[.int .i64 0] 33 (0, 0))).alloc (.cells #[.slice (some ⟨tb, off, none⟩) T.length cap, .int .i64 (k : Int), .bool fx, .int .i64 0, .slice none 0 0] 147 (0, 0))) = w2 := ⟨_, rfl⟩
  have hw2d := hw2
  rw [hw2]
  have ha1 : w2.heap[w.heap.size]? = some (.cells #[.slice none 0 0] 27 (0, 0)) := by rw [← hw2d]; exact heap_old (heap_old (heap_old (heap_new _ _ _ rfl)))
  have ha2 : w2.heap[w.heap.size + 1]? = some (.cells #[.int .i64 0] 3 (0, 0)) := by rw [← hw2d]; exact heap_old (heap_old (heap_new _ _ _ (by simp)))
  have ha3 : w2.heap[w.heap.size + 1 + 1]? = some (.cells #[.int .i64 0] 33 (0, 0)) := by rw [← hw2d]; exact heap_old (heap_new _ _ _ (by simp))
  have hap : w2.heap[w.heap.size + 3]? = some (.cells #[.slice (some ⟨tb, off, none⟩) T.length cap, .int .i64 (k : Int), .bool fx, .int .i64 0, .slice none 0 0] 147 (0, 0)) := by rw [← hw2d]; exact heap_new _ _ _ (by simp)
  have hbw : Below w.heap.size w w2 := by
    rw [← hw2d]
    exact ((((Below.refl _ _).alloc (Nat.le_refl _) _).alloc (by simp) _).alloc (by simp; omega) _).alloc (by simp; omega) _
  have HLS : Hid (LS (w.heap.size + 3) tb off cap T fx k 0 (.slice none 0 0) w2) := Lib.hid ⟨hap, HR.out.below hbw htb, by omega, HT.out, by omega⟩
  have HBW := Lib.hid hbw
  have HA1 := Lib.hid ha1
  have HA2 := Lib.hid ha2
  have HA3 := Lib.hid ha3
  clear ha1 ha2 ha3 hap hbw hw2 hw2d
  refine (HDO.out w2 HLS.out HBW.out).mono ?_; rintro x w3 hx
  have HX := Lib.hid hx
  clear hx
  cases R with
  | error e =>
    obtain ⟨hxe, hb3⟩ : x = .panicked (stopP e) ∧ Below (w.heap.size + 3) w2 w3 := HX.out
    have HZ1 : Hid (w3.heap[w.heap.size]? = some (.cells #[.slice none 0 0] 27 (0, 0))) := Lib.hid ((hb3.block _ (by omega)).trans HA1.out)
    have HZ2 : Hid (w3.heap[w.heap.size + 1]? = some (.cells #[.int .i64 0] 3 (0, 0))) := Lib.hid ((hb3.block _ (by omega)).trans HA2.out)
    have HZ3 : Hid (w3.heap[w.heap.size + 1 + 1]? = some (.cells #[.int .i64 0] 33 (0, 0))) := Lib.hid ((hb3.block _ (by omega)).trans HA3.out)
    have HBZ : Hid (Below w.heap.size w w3) := Lib.hid (HBW.out.trans (hb3.mono (by omega)))
    clear hb3 HX
    subst hxe
    go_wp2_with fail
    refine leaves_cons (f := 88) (args := #[.pointer (some ⟨w.heap.size, 0, none⟩), .pointer (some ⟨w.heap.size + 1, 0, none⟩), .pointer (some ⟨w.heap.size + 1 + 1, 0, none⟩)]) (by simp) (by simp [go_sem]) ?_
    refine (lcatch_panicking_d w.heap.size (w.heap.size + 1) (w.heap.size + 1 + 1) (.slice none 0 0) 0 0 e [] _ (by omega) (by omega) (Lib.cell_of_heap HZ1.out 0) (Lib.cell_of_heap HZ2.out 0) (Lib.cell_of_heap HZ3.out 0) (Lib.frozen_of_heap HZ1.out 0) (Lib.frozen_of_heap HZ2.out 0) (Lib.frozen_of_heap HZ3.out 0)).mono ?_
    rintro x u wf ⟨rfl, rfl, m0, m1, m2, hbf⟩
    have HBF : Hid (Below w.heap.size w wf) := Lib.hid (HBZ.out.trans (hbf _ (Nat.le_refl _) HBZ.out.size))
    clear hbf
    simp [Leaves, settle, results, Tryz.results54, go_sem, m0, m1, m2]
    exact ⟨rfl, HBF.out⟩
  | ok ky =>
    obtain ⟨k', y⟩ := ky
    obtain ⟨av, nv, cv, op', v', hxe, hg, hls, hrk⟩ : ∃ a n c op v, x = .returned (.slice a n c) ∧ G y (.slice a n c) w3 ∧ LS (w.heap.size + 3) tb off cap T fx k' op v w3 ∧ RK (w.heap.size + 3) w2 w3 := HX.out
    have HZ1 : Hid (w3.heap[w.heap.size]? = some (.cells #[.slice none 0 0] 27 (0, 0))) := Lib.hid (hrk.2 _ _ HA1.out (by omega))
    have HZ2 : Hid (w3.heap[w.heap.size + 1]? = some (.cells #[.int .i64 0] 3 (0, 0))) := Lib.hid (hrk.2 _ _ HA2.out (by omega))
    have HZ3 : Hid (w3.heap[w.heap.size + 1 + 1]? = some (.cells #[.int .i64 0] 33 (0, 0))) := Lib.hid (hrk.2 _ _ HA3.out (by omega))
    have HBZ : Hid (Below w.heap.size w w3) := Lib.hid (HBW.out.trans (hrk.1.mono (by omega)))
    have HGG := Lib.hid hg
    have HL3 := Lib.hid hls
    clear hg hls hrk HX
    subst hxe
    have d0 : w3.cell? ⟨w.heap.size, 0, none⟩ = some (.slice none 0 0) := Lib.cell_of_heap HZ1.out 0
    have d1 : w3.cell? ⟨w.heap.size + 1, 0, none⟩ = some (.int .i64 0) := Lib.cell_of_heap HZ2.out 0
    have d2 : w3.cell? ⟨w.heap.size + 1 + 1, 0, none⟩ = some (.int .i64 0) := Lib.cell_of_heap HZ3.out 0
    have z0 : w3.frozen? ⟨w.heap.size, 0, none⟩ = false := Lib.frozen_of_heap HZ1.out 0
    have z1 : w3.frozen? ⟨w.heap.size + 1, 0, none⟩ = false := Lib.frozen_of_heap HZ2.out 0
    have z2 : w3.frozen? ⟨w.heap.size + 1 + 1, 0, none⟩ = false := Lib.frozen_of_heap HZ3.out 0
    obtain ⟨c0, c1, c2, c3, c4⟩ := HL3.out.cells
    go_upto_region 6 with fail
    go_region
    obtain ⟨wa, hwa⟩ : ∃ wa, w3.setCell ⟨w.heap.size, 0, none⟩ (.slice av nv cv) = wa := ⟨_, rfl⟩
    obtain ⟨wb, hwb⟩ : ∃ wb, wa.setCell ⟨w.heap.size, 0, none⟩ (.slice av nv cv) = wb := ⟨_, rfl⟩
    obtain ⟨wc, hwc⟩ : ∃ wc, wb.setCell ⟨w.heap.size + 1, 0, none⟩ (.int .i64 (k' : Int)) = wc := ⟨_, rfl⟩
    obtain ⟨wd, hwd⟩ : ∃ wd, wc.setCell ⟨w.heap.size + 1 + 1, 0, none⟩ (.int .i64 0) = wd := ⟨_, rfl⟩
    obtain ⟨wf, hwf⟩ : ∃ wf, wd.drew = wf := ⟨_, rfl⟩
    rw [hwa, hwb, hwc, hwd, hwf]
    have HF : Hid (Below w.heap.size w wf) := Lib.hid (by
      rw [← hwf, ← hwd, ← hwc, ← hwb, ← hwa]
      exact ((((HBZ.out.setCell (p := ⟨w.heap.size, 0, none⟩) (Nat.le_refl _) _).setCell (p := ⟨w.heap.size, 0, none⟩) (Nat.le_refl _) _).setCell (p := ⟨w.heap.size + 1, 0, none⟩) (by show w.heap.size ≤ w.heap.size + 1; omega) _).setCell (p := ⟨w.heap.size + 1 + 1, 0, none⟩) (by show w.heap.size ≤ w.heap.size + 1 + 1; omega) _).drew)
    have HGF : Hid (G y (.slice av nv cv) wf) := Lib.hid (by
      have g1 := HG.out _ _ _ _ w.heap.size (by omega) (RK.set w.heap.size 0 w3 (.slice av nv cv)) HGG.out
      rw [hwa] at g1
      have g2 := HG.out _ _ _ _ w.heap.size (by omega) (RK.set w.heap.size 0 wa (.slice av nv cv)) g1
      rw [hwb] at g2
      have g3 := HG.out _ _ _ _ (w.heap.size + 1) (by omega) (RK.set (w.heap.size + 1) 0 wb (.int .i64 (k' : Int))) g2
      rw [hwc] at g3
      have g4 := HG.out _ _ _ _ (w.heap.size + 1 + 1) (by omega) (RK.set (w.heap.size + 1 + 1) 0 wc (.int .i64 0)) g3
      rw [hwd] at g4
      have hne : wd.heap.size ≠ 0 := by
        have h1 := heap_lt HZ1.out
        rw [← hwd, ← hwc, ← hwb, ← hwa]
        simp only [World.size_setCell]
        omega
      have g5 := HG.out _ _ wd wf w.heap.size (by omega) ⟨by rw [← hwf]; exact (Below.refl _ _).drew, fun k o hk _ => by rw [← hwf]; exact hk⟩ g4
      exact g5)
    have m0 : wf.cell? ⟨w.heap.size, 0, none⟩ = some (.slice av nv cv) := by
      rw [← hwf]
      show wd.cell? _ = _
      rw [← hwd, World.cell?_setCell_other _ _ _ _ (by intro h; injection h with h; omega), ← hwc, World.cell?_setCell_other _ _ _ _ (by intro h; injection h with h; omega), ← hwb]
      have e1 : wa.cell? ⟨w.heap.size, 0, none⟩ = some (.slice av nv cv) := by rw [← hwa]; exact World.cell?_setCell_same _ _ _ d0
      exact World.cell?_setCell_same _ _ _ e1
    have m1 : wf.cell? ⟨w.heap.size + 1, 0, none⟩ = some (.int .i64 (k' : Int)) := by
      rw [← hwf]
      show wd.cell? _ = _
      have e1 : wb.cell? ⟨w.heap.size + 1, 0, none⟩ = some (.int .i64 0) := by
        rw [← hwb, World.cell?_setCell_other _ _ _ _ (by intro h; injection h with h; omega), ← hwa, World.cell?_setCell_other _ _ _ _ (by intro h; injection h with h; omega)]; exact d1
      rw [← hwd, World.cell?_setCell_other _ _ _ _ (by intro h; injection h with h; omega), ← hwc]
      exact World.cell?_setCell_same _ _ _ e1
    have m2 : wf.cell? ⟨w.heap.size + 1 + 1, 0, none⟩ = some (.int .i64 0) := by
      rw [← hwf]
      show wd.cell? _ = _
      have e1 : wc.cell? ⟨w.heap.size + 1 + 1, 0, none⟩ = some (.int .i64 0) := by
        rw [← hwc, World.cell?_setCell_other _ _ _ _ (by intro h; injection h with h; omega), ← hwb, World.cell?_setCell_other _ _ _ _ (by intro h; injection h with h; omega), ← hwa, World.cell?_setCell_other _ _ _ _ (by intro h; injection h with h; omega)]; exact d2
      rw [← hwd]
      exact World.cell?_setCell_same _ _ _ e1
    clear hwa hwb hwc hwd hwf d0 d1 d2 z0 z1 z2 c0 c1 c2 c3 c4
    go_wp2_with fail
    refine leaves_cons (f := 88) (args := #[.pointer (some ⟨w.heap.size, 0, none⟩), .pointer (some ⟨w.heap.size + 1, 0, none⟩), .pointer (some ⟨w.heap.size + 1 + 1, 0, none⟩)]) (by simp) (by simp [go_sem]) ?_
    refine (lcatch_idle_d ⟨w.heap.size, 0, none⟩ ⟨w.heap.size + 1, 0, none⟩ ⟨w.heap.size + 1 + 1, 0, none⟩ _).mono ?_
    rintro x u wg ⟨rfl, rfl, rfl⟩
    simp [Leaves, settle, results, Tryz.results54, go_sem, m0, m1, m2]
    exact ⟨⟨av, nv, cv, rfl, HGF.out⟩, HF.out⟩
end Go.Proofs.YtgaknbnhmoddcaaGreatDoor
namespace Go.Proofs.YtgaknbnhmoddcaaGreatDoor
open Go.RowKit Go.Lib
theorem lcatch_idle_t (q1 q2 q3 : Addr) (w : World) :
    CallsD Tryz.prog 80 #[.pointer (some q1), .pointer (some q2), .pointer (some q3)] .returning w fun e u' w' => e = .returned (.tuple #[]) ∧ u' = .returning ∧ w' = w := by
  refine callsD_of_wpS Tryz.func80 rfl fun c₀ cs hu => ?_
  apply wpS_seq
  apply wpS_region
  simp [wpOpsS, go_sem, recoverD, hu, Tryz.ntmps80, Exit.thenS]
  refine wpS_of_wp ?_
  simp only [List.replicate_succ, List.replicate_zero, Array.replicate, List.setIfInBounds_toArray, List.set_cons_zero, List.set_cons_succ, List.append_toArray, List.cons_append, List.nil_append]
  go_wp2_with fail
  cases c₀
  simp_all [bodyPostS, results, Tryz.results80]
set_option maxRecDepth 100000 in
set_option maxHeartbeats 1000000 in
theorem lcatch_panicking_t (b1 b2 b3 : Nat) (x1 y1 : Value) (x2 x3 : Int) (e : ErrP) (older : List PanicEntry) (w : World) (n12 : b1 < b2) (n23 : b2 < b3) (h1 : w.heap[b1]? = some (.cells #[x1, y1] 25 (0, 0))) (h2 : w.cell? ⟨b2, 0, none⟩ = some (.int .i64 x2)) (h3 : w.cell? ⟨b3, 0, none⟩ = some (.int .i64 x3)) (z2 : w.frozen? ⟨b2, 0, none⟩ = false) (z3 : w.frozen? ⟨b3, 0, none⟩ = false) :
    CallsD Tryz.prog 80 #[.pointer (some ⟨b1, 0, none⟩), .pointer (some ⟨b2, 0, none⟩), .pointer (some ⟨b3, 0, none⟩)] (.panicking ({ v := .iface 143 (.agg #[.int .i64 e.1, .int .i64 e.2]), recovered := false } :: older)) w fun e' u' w' =>
      e' = .returned (.tuple #[]) ∧ u' = .panicking ({ v := .iface 143 (.agg #[.int .i64 e.1, .int .i64 e.2]), recovered := true } :: older) ∧ w'.cell? ⟨b1, 0, none⟩ = some (.string ⟨#[]⟩) ∧ w'.cell? ⟨b1, 1, none⟩ = some (.slice none 0 0) ∧ w'.cell? ⟨b2, 0, none⟩ = some (.int .i64 e.2) ∧ w'.cell? ⟨b3, 0, none⟩ = some (.int .i64 e.1) ∧ ∀ B, B ≤ b1 → B ≤ w.heap.size → Below B w w' := by
  obtain ⟨e1, e2⟩ := e
  obtain ⟨j2, hj2⟩ : ∃ j2 : Int, (e2 : Int) = j2 := ⟨_, rfl⟩
  simp only [hj2]
  have hta : ∀ w, (Instr.typeAssert (.iface 143 (.agg #[.int .i64 e1, .int .i64 j2])) 20 143 false).run Tryz.prog w = .ok (.agg #[.int .i64 e1, .int .i64 j2]) w := fun w => by kernel_rfl
  have hf0 : ∀ w, (Instr.field 143 (.agg #[.int .i64 e1, .int .i64 j2]) 0).run Tryz.prog w = .ok (.int .i64 e1) w := fun w => by kernel_rfl
  have hf1 : ∀ w, (Instr.field 143 (.agg #[.int .i64 e1, .int .i64 j2]) 1).run Tryz.prog w = .ok (.int .i64 j2) w := fun w => by kernel_rfl
  refine callsD_of_wpS Tryz.func80 rfl fun c₀ cs hu => ?_
  apply wpS_seq
  apply wpS_region
  simp [wpOpsS, go_sem, recoverD, hu, Tryz.ntmps80, Exit.thenS]
  refine wpS_of_wp ?_
  simp only [List.replicate_succ, List.replicate_zero, Array.replicate, List.setIfInBounds_toArray, List.set_cons_zero, List.set_cons_succ, List.append_toArray, List.cons_append, List.nil_append]
  have k12 : ¬ b1 = b2 := by omega
  have k13 : ¬ b1 = b3 := by omega
  have k23 : ¬ b2 = b3 := by omega
  have k21 : ¬ b2 = b1 := by omega
  have k31 : ¬ b3 = b1 := by omega
  have k32 : ¬ b3 = b2 := by omega
  go_wp2_with fail
  obtain ⟨w1, hw1⟩ : ∃ w1, w.alloc (.cells #[.string ⟨#[]⟩, .slice none 0 0] 25 (0, 0)) = w1 := ⟨_, rfl⟩
  have h11 : w1.heap[b1]? = some (.cells #[x1, y1] 25 (0, 0)) := by rw [← hw1]; exact heap_old h1
  have h21 : w1.cell? ⟨b2, 0, none⟩ = some (.int .i64 x2) := by rw [← hw1, World.cell?_alloc_lt _ _ _ (lt_of_cell h2)]; exact h2
  have h31 : w1.cell? ⟨b3, 0, none⟩ = some (.int .i64 x3) := by rw [← hw1, World.cell?_alloc_lt _ _ _ (lt_of_cell h3)]; exact h3
  have z21 : w1.frozen? ⟨b2, 0, none⟩ = false := by rw [← hw1]; exact (((Below.refl w.heap.size w).alloc (Nat.le_refl _) _).frozen (lt_of_cell h2)).trans z2
  have z31 : w1.frozen? ⟨b3, 0, none⟩ = false := by rw [← hw1]; exact (((Below.refl w.heap.size w).alloc (Nat.le_refl _) _).frozen (lt_of_cell h3)).trans z3
  have hb1 : ∀ B, B ≤ w.heap.size → Below B w w1 := fun B hB => by rw [← hw1]; exact (Below.refl B w).alloc hB _
  have c0 : w1.cell? ⟨w.heap.size, 0, none⟩ = some (.string ⟨#[]⟩) := by rw [← hw1]; exact Lib.cell_of_heap (heap_new _ _ _ rfl) 0
  have c1 : w1.cell? ⟨w.heap.size, 1, none⟩ = some (.slice none 0 0) := by rw [← hw1]; exact Lib.cell_of_heap (heap_new _ _ _ rfl) 1
  have hn1 : ¬ b1 = w.heap.size := by have := heap_lt h1; omega
  have hn2 : ¬ w.heap.size = b1 := by omega
  obtain ⟨p0, p1, z0, z1⟩ := ref_cells h11
  rw [hw1]
  have HFIN : Hid (∀ wf, wf = ((((w1.setCell ⟨b1, 0, none⟩ (.string ⟨#[]⟩)).setCell ⟨b1, 1, none⟩ (.slice none 0 0)).setCell ⟨b2, 0, none⟩ (.int .i64 j2)).setCell ⟨b3, 0, none⟩ (.int .i64 e1)).drew → wf.cell? ⟨b1, 0, none⟩ = some (.string ⟨#[]⟩) ∧ wf.cell? ⟨b1, 1, none⟩ = some (.slice none 0 0) ∧ wf.cell? ⟨b2, 0, none⟩ = some (.int .i64 j2) ∧ wf.cell? ⟨b3, 0, none⟩ = some (.int .i64 e1) ∧ ∀ B, B ≤ b1 → B ≤ w.heap.size → Below B w wf) := Lib.hid (by
    rintro wf rfl
    have g1 : ((w1.setCell ⟨b1, 0, none⟩ (.string ⟨#[]⟩)).setCell ⟨b1, 1, none⟩ (.slice none 0 0)).heap[b1]? = some (.cells #[.string ⟨#[]⟩, .slice none 0 0] 25 (0, 0)) := pset (pset h11 _ rfl) _ rfl
    have g3 : ((((w1.setCell ⟨b1, 0, none⟩ (.string ⟨#[]⟩)).setCell ⟨b1, 1, none⟩ (.slice none 0 0)).setCell ⟨b2, 0, none⟩ (.int .i64 j2)).setCell ⟨b3, 0, none⟩ (.int .i64 e1)).heap[b1]? = some (.cells #[.string ⟨#[]⟩, .slice none 0 0] 25 (0, 0)) := by
      rw [Below.heap_setCell _ _ _ _ (by show b1 ≠ b3; omega), Below.heap_setCell _ _ _ _ (by show b1 ≠ b2; omega)]; exact g1
    obtain ⟨r0, r1, _, _⟩ := ref_cells g3
    have m2 : ((w1.setCell ⟨b1, 0, none⟩ (.string ⟨#[]⟩)).setCell ⟨b1, 1, none⟩ (.slice none 0 0)).cell? ⟨b2, 0, none⟩ = some (.int .i64 x2) := by
      rw [World.cell?_setCell_other _ _ _ _ (by intro h; injection h with h; omega), World.cell?_setCell_other _ _ _ _ (by intro h; injection h with h; omega)]; exact h21
    have m3 : (((w1.setCell ⟨b1, 0, none⟩ (.string ⟨#[]⟩)).setCell ⟨b1, 1, none⟩ (.slice none 0 0)).setCell ⟨b2, 0, none⟩ (.int .i64 j2)).cell? ⟨b3, 0, none⟩ = some (.int .i64 x3) := by
      rw [World.cell?_setCell_other _ _ _ _ (by intro h; injection h with h; omega), World.cell?_setCell_other _ _ _ _ (by intro h; injection h with h; omega), World.cell?_setCell_other _ _ _ _ (by intro h; injection h with h; omega)]; exact h31
    refine ⟨r0, r1, ?_, ?_, fun B q1 q0 => ?_⟩
    · show ((((w1.setCell ⟨b1, 0, none⟩ (.string ⟨#[]⟩)).setCell ⟨b1, 1, none⟩ (.slice none 0 0)).setCell ⟨b2, 0, none⟩ (.int .i64 j2)).setCell ⟨b3, 0, none⟩ (.int .i64 e1)).cell? ⟨b2, 0, none⟩ = _
      rw [World.cell?_setCell_other _ _ _ _ (by intro h; injection h with h; omega)]
      exact World.cell?_setCell_same _ _ _ m2
    · show ((((w1.setCell ⟨b1, 0, none⟩ (.string ⟨#[]⟩)).setCell ⟨b1, 1, none⟩ (.slice none 0 0)).setCell ⟨b2, 0, none⟩ (.int .i64 j2)).setCell ⟨b3, 0, none⟩ (.int .i64 e1)).cell? ⟨b3, 0, none⟩ = _
      exact World.cell?_setCell_same _ _ _ m3
    · exact (((((hb1 B q0).setCell (p := ⟨b1, 0, none⟩) q1 _).setCell (p := ⟨b1, 1, none⟩) q1 _).setCell (p := ⟨b2, 0, none⟩) (by show B ≤ b2; omega) _).setCell (p := ⟨b3, 0, none⟩) (by show B ≤ b3; omega) _).drew)
  clear hw1
  go_region
  clear h1 h2 h3 z0 z1 z2 z3 p0 p1 h11 h21 h31 z21 z31 c0 c1 k12 k13 k23 k21 k31 k32 hta hf0 hf1
  go_wp2_with fail
  cases c₀
  simp only at hu
  subst hu
  simp [bodyPostS, results, Tryz.results80]
  exact HFIN.out _ rfl
/-- What is read, as a type. -/
def ReadT (B : Nat) (R : Except ErrP TypP) (x : Ending) (W' : World) : Prop := match R with
  | .error e => x = .returned (.tuple #[.agg #[.string ⟨#[]⟩, .slice none 0 0], .int .i64 e.2, .int .i64 e.1])
  | .ok (_, a2, nm, ws) => ∃ u, x = .returned (.tuple #[.agg #[.string ⟨nm.toArray⟩, u], .int .i64 a2, .int .i64 0]) ∧ BytW B u ws W'
set_option maxRecDepth 100000 in
theorem lread_bad_t (a : Option Addr) (n cap : Nat) (at_ : Int) (fx : Bool) (fv : Value) (hn : n ≤ 1000000) (ha : at_ < 0 ∨ (n : Int) ≤ at_) (w : World) :
    Calls Tryz.prog 52 #[.slice a n cap, .int .i64 at_, .bool fx, fv] w fun x w' => x = .returned (.tuple #[.agg #[.string ⟨#[]⟩, .slice none 0 0], .int .i64 0, .int .i64 2]) ∧ Below w.heap.size w w' := by
  by_cases h0 : at_ < 0
  · go_enter_defers Tryz.func52, Tryz.ntmps52
    go_wp2_with fail
    obtain ⟨wf, hwf⟩ : ∃ wf, (((w.alloc (.cells #[.string ⟨#[]⟩, .slice none 0 0] 25 (0, 0))).alloc (.cells #[.int .i64 0] 3 (0, 0))).alloc (.cells #[.int .i64 2] 33 (0, 0))) = wf := ⟨_, rfl⟩
    have hh : wf.heap[w.heap.size]? = some (.cells #[.string ⟨#[]⟩, .slice none 0 0] 25 (0, 0)) := by rw [← hwf]; exact heap_old (heap_old (heap_new _ _ _ rfl))
    obtain ⟨d0, d0', _, _⟩ := ref_cells hh
    have d1 : wf.cell? ⟨w.heap.size + 1, 0, none⟩ = some (.int .i64 0) := by rw [← hwf]; exact Lib.cell_of_heap (heap_old (heap_new _ _ _ (by simp))) 0
    have d2 : wf.cell? ⟨w.heap.size + 1 + 1, 0, none⟩ = some (.int .i64 2) := by rw [← hwf]; exact Lib.cell_of_heap (heap_new _ _ _ (by simp)) 0
    have HF : Hid (Below w.heap.size w wf) := Lib.hid (by rw [← hwf]; exact (((Below.refl _ _).alloc (Nat.le_refl _) _).alloc (by simp) _).alloc (by simp; omega) _)
    rw [hwf]
    simp [bodyPostD, Leaves, settle, results, Tryz.results52, go_sem, d0, d0', d1, d2]
    exact HF.out
  · have h1 : (n : Int) ≤ at_ := by omega
    go_enter_defers Tryz.func52, Tryz.ntmps52
    go_wp2_with fail
    obtain ⟨wf, hwf⟩ : ∃ wf, (((w.alloc (.cells #[.string ⟨#[]⟩, .slice none 0 0] 25 (0, 0))).alloc (.cells #[.int .i64 0] 3 (0, 0))).alloc (.cells #[.int .i64 2] 33 (0, 0))) = wf := ⟨_, rfl⟩
    have hh : wf.heap[w.heap.size]? = some (.cells #[.string ⟨#[]⟩, .slice none 0 0] 25 (0, 0)) := by rw [← hwf]; exact heap_old (heap_old (heap_new _ _ _ rfl))
    obtain ⟨d0, d0', _, _⟩ := ref_cells hh
    have d1 : wf.cell? ⟨w.heap.size + 1, 0, none⟩ = some (.int .i64 0) := by rw [← hwf]; exact Lib.cell_of_heap (heap_old (heap_new _ _ _ (by simp))) 0
    have d2 : wf.cell? ⟨w.heap.size + 1 + 1, 0, none⟩ = some (.int .i64 2) := by rw [← hwf]; exact Lib.cell_of_heap (heap_new _ _ _ (by simp)) 0
    have HF : Hid (Below w.heap.size w wf) := Lib.hid (by rw [← hwf]; exact (((Below.refl _ _).alloc (Nat.le_refl _) _).alloc (by simp) _).alloc (by simp; omega) _)
    rw [hwf]
    simp [bodyPostD, Leaves, settle, results, Tryz.results52, go_sem, d0, d0', d1, d2]
    exact HF.out
set_option maxRecDepth 100000 in
set_option maxHeartbeats 4000000 in
theorem lread_go_t {tb off cap : Nat} {T : List Tok} {fx : Bool} {k : Nat} (w : World) (hr : TokRow tb off T w) (htb : tb < w.heap.size) (hT : T.length ≤ 100000 ∧ ∀ t ∈ T, t.text.length ≤ 100000) (hk : k < T.length) :
    Calls Tryz.prog 52 #[.slice (some ⟨tb, off, none⟩) T.length cap, .int .i64 (k : Int), .bool fx, .func (.func 53) #[] #[]] w fun x w' => ReadT w.heap.size (typG T 10 0 k) x w' ∧ Below w.heap.size w w' := by
  have HDO := Lib.hid (fun W (hW : LS (w.heap.size + 3) tb off cap T fx k ((0 : Nat) : Int) (.slice none 0 0) W) => l_typ_any 10 (by decide) (w.heap.size + 3) tb off cap T fx k 0 (.slice none 0 0) W (by decide) (by decide) hW (by omega))
  have HR := Lib.hid hr
  have hT1 := hT.1
  have HT := Lib.hid hT
  have hT0 : T.length ≤ 9223372036854775807 := by omega
  have hnk : ¬ (T.length : Int) ≤ (k : Int) := by omega
  have hk0 : ¬ (k : Int) < 0 := by omega
  have hmf : ∀ (fn : Fn) (first cap : Array Value) (w : World), (Instr.makeFunc fn first cap).run Tryz.prog w = .ok (.func fn first cap) w := fun _ _ _ _ => rfl
  have hent := enters_of Tryz.func53 (by kernel_rfl) rfl
  generalize typG T 10 0 k = RR at HDO ⊢
  clear hr hT
  go_enter_defers Tryz.func52, Tryz.ntmps52
  go_wp2_with fail
  obtain ⟨w2, hw2⟩ : ∃ w2, ((((w.alloc (.cells #[.string ⟨#[]⟩, .slice none 0 0] 25 (0, 0))).alloc (.cells #[.int .i64 0] 3 (0, 0))).alloc (.cells #[.int .i64 0] 33 (0, 0))).alloc (.cells #[.slice (some ⟨tb, off, none⟩) T.length cap, .int .i64 (k : Int), .bool fx, .int .i64 0, .slice none 0 0] 147 (0, 0))) = w2 := ⟨_, rfl⟩
  have hw2d := hw2
  rw [hw2]
  have ha1 : w2.heap[w.heap.size]? = some (.cells #[.string ⟨#[]⟩, .slice none 0 0] 25 (0, 0)) := by rw [← hw2d]; exact heap_old (heap_old (heap_old (heap_new _ _ _ rfl)))
  have ha2 : w2.heap[w.heap.size + 1]? = some (.cells #[.int .i64 0] 3 (0, 0)) := by rw [← hw2d]; exact heap_old (heap_old (heap_new _ _ _ (by simp)))
  have ha3 : w2.heap[w.heap.size + 1 + 1]? = some (.cells #[.int .i64 0] 33 (0, 0)) := by rw [← hw2d]; exact heap_old (heap_new _ _ _ (by simp))
  have hap : w2.heap[w.heap.size + 3]? = some (.cells #[.slice (some ⟨tb, off, none⟩) T.length cap, .int .i64 (k : Int), .bool fx, .int .i64 0, .slice none 0 0] 147 (0, 0)) := by rw [← hw2d]; exact heap_new _ _ _ (by simp)
  have hbw : Below w.heap.size w w2 := by
    rw [← hw2d]
    exact ((((Below.refl _ _).alloc (Nat.le_refl _) _).alloc (by simp) _).alloc (by simp; omega) _).alloc (by simp; omega) _
  have HLS : Hid (LS (w.heap.size + 3) tb off cap T fx k ((0 : Nat) : Int) (.slice none 0 0) w2) := Lib.hid ⟨hap, HR.out.below hbw htb, by omega, HT.out, by omega⟩
  have HBW := Lib.hid hbw
  have HA1 := Lib.hid ha1
  have HA2 := Lib.hid ha2
  have HA3 := Lib.hid ha3
  clear ha1 ha2 ha3 hap hbw hw2 hw2d
  refine (HDO.out w2 HLS.out).mono ?_; rintro x w3 hx
  have HX := Lib.hid hx
  clear hx
  cases RR with
  | error e =>
    obtain ⟨hxe, hb3⟩ : x = .panicked (stopP e) ∧ Below (w.heap.size + 3) w2 w3 := HX.out
    have HZ1 := Lib.hid ((hb3.block _ (by omega)).trans HA1.out)
    have HZ2 := Lib.hid ((hb3.block _ (by omega)).trans HA2.out)
    have HZ3 := Lib.hid ((hb3.block _ (by omega)).trans HA3.out)
    have HBZ : Hid (Below w.heap.size w w3) := Lib.hid (HBW.out.trans (hb3.mono (by omega)))
    clear hb3 HX
    subst hxe
    go_wp2_with fail
    refine leaves_cons (f := 80) (args := #[.pointer (some ⟨w.heap.size, 0, none⟩), .pointer (some ⟨w.heap.size + 1, 0, none⟩), .pointer (some ⟨w.heap.size + 1 + 1, 0, none⟩)]) (by simp) (by simp [go_sem]) ?_
    refine (lcatch_panicking_t w.heap.size (w.heap.size + 1) (w.heap.size + 1 + 1) _ _ 0 0 e [] _ (by omega) (by omega) HZ1.out (Lib.cell_of_heap HZ2.out 0) (Lib.cell_of_heap HZ3.out 0) (Lib.frozen_of_heap HZ2.out 0) (Lib.frozen_of_heap HZ3.out 0)).mono ?_
    rintro x u wf ⟨rfl, rfl, m0, m0', m1, m2, hbf⟩
    have HBF : Hid (Below w.heap.size w wf) := Lib.hid (HBZ.out.trans (hbf _ (Nat.le_refl _) HBZ.out.size))
    clear hbf
    simp [Leaves, settle, results, Tryz.results52, go_sem, m0, m0', m1, m2]
    exact ⟨rfl, HBF.out⟩
  | ok y =>
    obtain ⟨k2, a2, nm, ws⟩ := y
    obtain ⟨u, hxe, hu, hls, hrk⟩ : ∃ u, x = .returned (.agg #[.string ⟨nm.toArray⟩, u]) ∧ BytW w2.heap.size u ws w3 ∧ LS (w.heap.size + 3) tb off cap T fx a2 (k2 : Int) (.slice none 0 0) w3 ∧ RK (w.heap.size + 3) w2 w3 := HX.out
    obtain ⟨ua, un, uc, rfl⟩ := hu.form
    obtain ⟨nb, hnb⟩ : ∃ nb : ByteArray, (⟨nm.toArray⟩ : ByteArray) = nb := ⟨_, rfl⟩
    have HNB := Lib.hid hnb
    rw [hnb] at hxe
    have HZ1 := Lib.hid (hrk.2 _ _ HA1.out (by omega))
    have HZ2 := Lib.hid (hrk.2 _ _ HA2.out (by omega))
    have HZ3 := Lib.hid (hrk.2 _ _ HA3.out (by omega))
    have HBZ : Hid (Below w.heap.size w w3) := Lib.hid (HBW.out.trans (hrk.1.mono (by omega)))
    have hz2 : w.heap.size + 3 < w2.heap.size := HLS.out.lt
    have HUU := Lib.hid hu
    have HL3 := Lib.hid hls
    clear hu hls hrk HX hnb
    subst hxe
    obtain ⟨d0, d0', z0, z0'⟩ := ref_cells HZ1.out
    have d1 : w3.cell? ⟨w.heap.size + 1, 0, none⟩ = some (.int .i64 0) := Lib.cell_of_heap HZ2.out 0
    have d2 : w3.cell? ⟨w.heap.size + 1 + 1, 0, none⟩ = some (.int .i64 0) := Lib.cell_of_heap HZ3.out 0
    have z1 : w3.frozen? ⟨w.heap.size + 1, 0, none⟩ = false := Lib.frozen_of_heap HZ2.out 0
    have z2 : w3.frozen? ⟨w.heap.size + 1 + 1, 0, none⟩ = false := Lib.frozen_of_heap HZ3.out 0
    obtain ⟨c0, c1, c2, c3, c4⟩ := HL3.out.cells
    go_upto_region 6 with fail
    go_region
    obtain ⟨wb, hwb⟩ : ∃ wb, (((w3.setCell ⟨w.heap.size, 0, none⟩ (.string nb)).setCell ⟨w.heap.size, 1, none⟩ (.slice ua un uc)).setCell ⟨w.heap.size, 0, none⟩ (.string nb)).setCell ⟨w.heap.size, 1, none⟩ (.slice ua un uc) = wb := ⟨_, rfl⟩
    obtain ⟨wf, hwf⟩ : ∃ wf, ((wb.setCell ⟨w.heap.size + 1, 0, none⟩ (.int .i64 (a2 : Int))).setCell ⟨w.heap.size + 1 + 1, 0, none⟩ (.int .i64 0)).drew = wf := ⟨_, rfl⟩
    have hb1 : wb.heap[w.heap.size]? = some (.cells #[.string nb, .slice ua un uc] 25 (0, 0)) := by rw [← hwb]; exact pset (pset (pset (pset HZ1.out _ rfl) _ rfl) _ rfl) _ rfl
    have hko : ∀ (W0 : World) (i : Nat) (u0 : Value) (j : Nat), j ≠ w.heap.size → (W0.setCell ⟨w.heap.size, i, none⟩ u0).heap[j]? = W0.heap[j]? := fun W0 i u0 j hj => Below.heap_setCell _ _ _ _ hj
    have hb2 : wb.heap[w.heap.size + 1]? = some (.cells #[.int .i64 0] 3 (0, 0)) := by rw [← hwb, hko _ _ _ _ (by omega), hko _ _ _ _ (by omega), hko _ _ _ _ (by omega), hko _ _ _ _ (by omega)]; exact HZ2.out
    have hb3 : wb.heap[w.heap.size + 1 + 1]? = some (.cells #[.int .i64 0] 33 (0, 0)) := by rw [← hwb, hko _ _ _ _ (by omega), hko _ _ _ _ (by omega), hko _ _ _ _ (by omega), hko _ _ _ _ (by omega)]; exact HZ3.out
    have hf1 : wf.heap[w.heap.size]? = some (.cells #[.string nb, .slice ua un uc] 25 (0, 0)) := by
      rw [← hwf]
      show ((wb.setCell ⟨w.heap.size + 1, 0, none⟩ (.int .i64 (a2 : Int))).setCell ⟨w.heap.size + 1 + 1, 0, none⟩ (.int .i64 0)).heap[w.heap.size]? = _
      rw [Below.heap_setCell _ _ _ _ (by show w.heap.size ≠ w.heap.size + 1 + 1; omega), Below.heap_setCell _ _ _ _ (by show w.heap.size ≠ w.heap.size + 1; omega)]
      exact hb1
    have m1 : wf.cell? ⟨w.heap.size + 1, 0, none⟩ = some (.int .i64 (a2 : Int)) := by
      have : wf.heap[w.heap.size + 1]? = some (.cells #[.int .i64 (a2 : Int)] 3 (0, 0)) := by
        rw [← hwf]
        show ((wb.setCell ⟨w.heap.size + 1, 0, none⟩ (.int .i64 (a2 : Int))).setCell ⟨w.heap.size + 1 + 1, 0, none⟩ (.int .i64 0)).heap[w.heap.size + 1]? = _
        rw [Below.heap_setCell _ _ _ _ (by show w.heap.size + 1 ≠ w.heap.size + 1 + 1; omega)]
        exact pset hb2 _ rfl
      rw [Lib.cell_of_heap this]; rfl
    have m2 : wf.cell? ⟨w.heap.size + 1 + 1, 0, none⟩ = some (.int .i64 0) := by
      have : wf.heap[w.heap.size + 1 + 1]? = some (.cells #[.int .i64 0] 33 (0, 0)) := by
        rw [← hwf]
        show ((wb.setCell ⟨w.heap.size + 1, 0, none⟩ (.int .i64 (a2 : Int))).setCell ⟨w.heap.size + 1 + 1, 0, none⟩ (.int .i64 0)).heap[w.heap.size + 1 + 1]? = _
        exact pset (A := #[.int .i64 0]) (by rw [Below.heap_setCell _ _ _ _ (by show w.heap.size + 1 + 1 ≠ w.heap.size + 1; omega)]; exact hb3) _ rfl
      rw [Lib.cell_of_heap this]; rfl
    have HF : Hid (Below w.heap.size w wf) := Lib.hid (by
      rw [← hwf, ← hwb]
      exact ((((((HBZ.out.setCell (p := ⟨w.heap.size, 0, none⟩) (Nat.le_refl _) _).setCell (p := ⟨w.heap.size, 1, none⟩) (Nat.le_refl _) _).setCell (p := ⟨w.heap.size, 0, none⟩) (Nat.le_refl _) _).setCell (p := ⟨w.heap.size, 1, none⟩) (Nat.le_refl _) _).setCell (p := ⟨w.heap.size + 1, 0, none⟩) (by show w.heap.size ≤ w.heap.size + 1; omega) _).setCell (p := ⟨w.heap.size + 1 + 1, 0, none⟩) (by show w.heap.size ≤ w.heap.size + 1 + 1; omega) _).drew)
    have HUF : Hid (BytW w.heap.size (.slice ua un uc) ws wf) := Lib.hid (by
      have key : ∀ (W0 : World) (q i : Nat) (u0 : Value), q ≤ w.heap.size + 2 → BytW w2.heap.size (.slice ua un uc) ws W0 → BytW w2.heap.size (.slice ua un uc) ws (W0.setCell ⟨q, i, none⟩ u0) := fun W0 q i u0 hq h => h.kp (Kp.rk (RK.set q i W0 u0) (by omega))
      rw [← hwf, ← hwb]
      exact ((key _ _ _ _ (by omega) (key _ _ _ _ (by omega) (key _ _ _ _ (by omega) (key _ _ _ _ (by omega) (key _ _ _ _ (by omega) (key _ _ _ _ (by omega) HUU.out)))))).kp (Kp.below ((Below.refl _ _).drew))).less (by omega))
    obtain ⟨m0, m0', _, _⟩ := ref_cells hf1
    rw [hwb, hwf]
    clear hwb hwf hb1 hb2 hb3 hko hf1 d0 d0' d1 d2 z0 z0' z1 z2 c0 c1 c2 c3 c4
    go_wp2_with fail
    refine leaves_cons (f := 80) (args := #[.pointer (some ⟨w.heap.size, 0, none⟩), .pointer (some ⟨w.heap.size + 1, 0, none⟩), .pointer (some ⟨w.heap.size + 1 + 1, 0, none⟩)]) (by simp) (by simp [go_sem]) ?_
    refine (lcatch_idle_t ⟨w.heap.size, 0, none⟩ ⟨w.heap.size + 1, 0, none⟩ ⟨w.heap.size + 1 + 1, 0, none⟩ _).mono ?_
    rintro x u wg ⟨rfl, rfl, rfl⟩
    simp [Leaves, settle, results, Tryz.results52, go_sem, m0, m0', m1, m2]
    exact ⟨⟨_, by rw [HNB.out], HUF.out⟩, HF.out⟩
end Go.Proofs.YtgaknbnhmoddcaaGreatDoor
namespace Go.Proofs.YtgaknbnhmoddcaaGreatDoor
open Go.RowKit Go.Lib
/-- What Arguments tells, in a row that the call made. -/
def ArgG (B : Nat) (out : List (List UInt8 × List Cel)) (u : Value) (W : World) : Prop := out.length ≤ 100000 ∧ OwnA B u out W
theorem rargs_read {tb off cap : Nat} {T : List Tok} (fx : Bool) {k : Nat} (w : World) (hr : TokRow tb off T w) (htb : tb < w.heap.size) (hT : T.length ≤ 100000 ∧ ∀ t ∈ T, t.text.length ≤ 100000) (hk : k < T.length) (hE : Env w) :
    Calls Tryz.prog 56 #[.slice (some ⟨tb, off, none⟩) T.length cap, .int .i64 (k : Int), .bool fx, .func (.func 57) #[] #[]] w fun x w' => ReadV (argsP fx T k) (ArgG (w.heap.size + 4)) x w' ∧ Below w.heap.size w w' := by
  refine lread_go_a w hr htb hT hk (argsP fx T k) (ArgG (w.heap.size + 4)) (fun y u W W' q hq hk h => ⟨h.1, OwnA.kp h.2 (Kp.rk hk (by omega))⟩) fun W hS hb => ?_
  refine (l_args W hS (by omega) (fun W' h' => hE.below (hb.trans (h'.mono (by omega))) (Nat.le_refl _))).mono ?_
  intro x W' h
  have hlt := hS.lt
  exact h.to fun y u hy => ⟨hy.1, hy.2.less (by omega)⟩
set_option maxRecDepth 100000 in
theorem args_ok {tb off cap : Nat} {T : List Tok} (fx : Bool) {k : Nat} (w : World) (hr : TokRow tb off T w) (htb : tb < w.heap.size) (hT : T.length ≤ 100000 ∧ ∀ t ∈ T, t.text.length ≤ 100000) (hk : k < T.length) (hE : Env w) :
    Calls Tryz.prog 24 #[.slice (some ⟨tb, off, none⟩) T.length cap, .int .i64 (k : Int), .bool fx] w fun x w' => ReadV (argsP fx T k) (ArgG (w.heap.size + 4)) x w' ∧ Below w.heap.size w w' := by
  have HR := Lib.hid (rargs_read (cap := cap) fx w hr htb hT hk hE)
  generalize argsP fx T k = R at HR ⊢
  clear hr htb hT hk hE
  go_enter Tryz.func24, Tryz.ntmps24
  go_wp2_with fail
  refine HR.out.mono ?_; rintro x w1 ⟨hx, hb⟩
  have HB := Lib.hid hb
  cases R with
  | error e =>
    have hx2 : x = .returned (.tuple #[.slice none 0 0, .int .i64 e.2, .int .i64 e.1]) := hx
    clear hx hb
    subst hx2
    go_wp2_with fail
    go_returns
    exact ⟨rfl, HB.out⟩
  | ok y =>
    obtain ⟨k', out⟩ := y
    obtain ⟨a, n, c, hx2, hg⟩ : ∃ a n c, x = .returned (.tuple #[.slice a n c, .int .i64 k', .int .i64 0]) ∧ ArgG (w.heap.size + 4) out (.slice a n c) w1 := hx
    have HG := Lib.hid hg
    clear hb hg
    subst hx2
    go_wp2_with fail
    go_returns
    exact ⟨⟨a, n, c, rfl, HG.out⟩, HB.out⟩
/-- What Directives tells, in a row that the call made. -/
def DirG (B : Nat) (out : List (List UInt8 × List (List UInt8 × List Cel))) (u : Value) (W : World) : Prop := out.length ≤ 100000 ∧ OwnD B u out W
theorem rdirs_read {tb off cap : Nat} {T : List Tok} (fx : Bool) {k : Nat} (w : World) (hr : TokRow tb off T w) (htb : tb < w.heap.size) (hT : T.length ≤ 100000 ∧ ∀ t ∈ T, t.text.length ≤ 100000) (hk : k < T.length) (hE : Env w) :
    Calls Tryz.prog 54 #[.slice (some ⟨tb, off, none⟩) T.length cap, .int .i64 (k : Int), .bool fx, .func (.func 55) #[] #[]] w fun x w' => ReadV (dirsP fx T k) (DirG (w.heap.size + 4)) x w' ∧ Below w.heap.size w w' := by
  refine lread_go_d w hr htb hT hk (dirsP fx T k) (DirG (w.heap.size + 4)) (fun y u W W' q hq hk h => ⟨h.1, OwnD.kp h.2 (Kp.rk hk (by omega))⟩) fun W hS hb => ?_
  refine (l_dirs W hS (by omega) (fun W' h' => hE.below (hb.trans (h'.mono (by omega))) (Nat.le_refl _))).mono ?_
  intro x W' h
  have hlt := hS.lt
  exact h.to fun y u hy => ⟨hy.1, hy.2.less (by omega)⟩
set_option maxRecDepth 100000 in
theorem dirs_ok {tb off cap : Nat} {T : List Tok} (fx : Bool) {k : Nat} (w : World) (hr : TokRow tb off T w) (htb : tb < w.heap.size) (hT : T.length ≤ 100000 ∧ ∀ t ∈ T, t.text.length ≤ 100000) (hk : k < T.length) (hE : Env w) :
    Calls Tryz.prog 23 #[.slice (some ⟨tb, off, none⟩) T.length cap, .int .i64 (k : Int), .bool fx] w fun x w' => ReadV (dirsP fx T k) (DirG (w.heap.size + 4)) x w' ∧ Below w.heap.size w w' := by
  have HR := Lib.hid (rdirs_read (cap := cap) fx w hr htb hT hk hE)
  generalize dirsP fx T k = R at HR ⊢
  clear hr htb hT hk hE
  go_enter Tryz.func23, Tryz.ntmps23
  go_wp2_with fail
  refine HR.out.mono ?_; rintro x w1 ⟨hx, hb⟩
  have HB := Lib.hid hb
  cases R with
  | error e =>
    have hx2 : x = .returned (.tuple #[.slice none 0 0, .int .i64 e.2, .int .i64 e.1]) := hx
    clear hx hb
    subst hx2
    go_wp2_with fail
    go_returns
    exact ⟨rfl, HB.out⟩
  | ok y =>
    obtain ⟨k', out⟩ := y
    obtain ⟨a, n, c, hx2, hg⟩ : ∃ a n c, x = .returned (.tuple #[.slice a n c, .int .i64 k', .int .i64 0]) ∧ DirG (w.heap.size + 4) out (.slice a n c) w1 := hx
    have HG := Lib.hid hg
    clear hb hg
    subst hx2
    go_wp2_with fail
    go_returns
    exact ⟨⟨a, n, c, rfl, HG.out⟩, HB.out⟩
set_option maxRecDepth 100000 in
theorem type_ok {tb off cap : Nat} {T : List Tok} {k : Nat} (w : World) (hr : TokRow tb off T w) (htb : tb < w.heap.size) (hT : T.length ≤ 100000 ∧ ∀ t ∈ T, t.text.length ≤ 100000) (hk : k < T.length) :
    Calls Tryz.prog 22 #[.slice (some ⟨tb, off, none⟩) T.length cap, .int .i64 (k : Int)] w fun x w' => ReadT w.heap.size (typG T 10 0 k) x w' ∧ Below w.heap.size w w' := by
  have HR : Hid (∀ W, Below w.heap.size w W → Calls Tryz.prog 52 #[.slice (some ⟨tb, off, none⟩) T.length cap, .int .i64 (k : Int), .bool true, .func (.func 53) #[] #[]] W fun x w' => ReadT W.heap.size (typG T 10 0 k) x w' ∧ Below W.heap.size W w') := Lib.hid fun W hW => by
    have hz := hW.size
    exact lread_go_t (cap := cap) W (hr.below hW htb) (by omega) hT hk
  generalize typG T 10 0 k = R at HR ⊢
  clear hr htb hT hk
  go_enter Tryz.func22, Tryz.ntmps22
  go_wp2_with fail
  obtain ⟨w0, hw0⟩ : ∃ w0, w.alloc (.cells #[.string ⟨#[]⟩, .slice none 0 0] 25 (0, 0)) = w0 := ⟨_, rfl⟩
  have HZ0 : Hid (w0.heap[w.heap.size]? = some (.cells #[.string ⟨#[]⟩, .slice none 0 0] 25 (0, 0))) := Lib.hid (by rw [← hw0]; exact heap_new _ _ _ rfl)
  have HB0 : Hid (Below w.heap.size w w0) := Lib.hid (by rw [← hw0]; exact (Below.refl _ _).alloc (Nat.le_refl _) _)
  rw [hw0]
  clear hw0
  refine (HR.out w0 HB0.out).mono ?_; rintro x w1 ⟨hx, hb⟩
  have hz0 := HB0.out.size
  have hlt0 := heap_lt HZ0.out
  have hlt1 := hb.size
  have HB1 : Hid (Below w.heap.size w w1) := Lib.hid (HB0.out.trans (hb.mono hz0))
  have HZ1 : Hid (w1.heap[w.heap.size]? = some (.cells #[.string ⟨#[]⟩, .slice none 0 0] 25 (0, 0))) := Lib.hid ((hb.block _ hlt0).trans HZ0.out)
  clear hb
  obtain ⟨d0, d1, z0, z1⟩ := ref_cells HZ1.out
  have hlt2 : w.heap.size < w1.heap.size := by omega
  have hlt3 : w.heap.size < w0.heap.size := hlt0
  clear hlt1 hz0 hlt0
  have key : ∀ (n : ByteArray) (u : Value) (W : World), W.heap[w.heap.size]? = some (.cells #[.string n, u] 25 (0, 0)) → W.cell? ⟨w.heap.size, 0, none⟩ = some (.string n) ∧ W.cell? ⟨w.heap.size, 1, none⟩ = some u := fun n u W h => ⟨Lib.cell_of_heap h 0, Lib.cell_of_heap h 1⟩
  have KEY := Lib.hid key
  clear key
  cases R with
  | error e =>
    have hx2 : x = .returned (.tuple #[.agg #[.string ⟨#[]⟩, .slice none 0 0], .int .i64 e.2, .int .i64 e.1]) := hx
    clear hx
    subst hx2
    go_wp2_with fail
    obtain ⟨wf, hwf⟩ : ∃ wf, (w1.setCell ⟨w.heap.size, 0, none⟩ (.string ⟨#[]⟩)).setCell ⟨w.heap.size, 1, none⟩ (.slice none 0 0) = wf := ⟨_, rfl⟩
    have hh : wf.heap[w.heap.size]? = some (.cells #[.string ⟨#[]⟩, .slice none 0 0] 25 (0, 0)) := by rw [← hwf]; exact pset (pset HZ1.out _ rfl) _ rfl
    have HF : Hid (Below w.heap.size w wf) := Lib.hid (by rw [← hwf]; exact (HB1.out.setCell (p := ⟨w.heap.size, 0, none⟩) (Nat.le_refl _) _).setCell (p := ⟨w.heap.size, 1, none⟩) (Nat.le_refl _) _)
    obtain ⟨m0, m1⟩ := KEY.out _ _ _ hh
    try rw [hwf]
    clear d0 d1 z0 z1 hh
    refine bodyPost_ret (by simp [results, Tryz.results22, go_sem, m0, m1]; try rfl) rfl ?_
    exact ⟨rfl, HF.out⟩
  | ok y =>
    obtain ⟨k2, a2, nm, ws⟩ := y
    obtain ⟨u, hx2, hu⟩ : ∃ u, x = .returned (.tuple #[.agg #[.string ⟨nm.toArray⟩, u], .int .i64 a2, .int .i64 0]) ∧ BytW w0.heap.size u ws w1 := hx
    obtain ⟨ua, un, uc, rfl⟩ := hu.form
    have HU := Lib.hid hu
    clear hu
    subst hx2
    obtain ⟨nb, hnb⟩ : ∃ nb : ByteArray, nb = ⟨nm.toArray⟩ := ⟨_, rfl⟩
    have HNB := Lib.hid hnb
    rw [← hnb]
    clear hnb
    go_wp2_with fail
    obtain ⟨wf, hwf⟩ : ∃ wf, (w1.setCell ⟨w.heap.size, 0, none⟩ (.string nb)).setCell ⟨w.heap.size, 1, none⟩ (.slice ua un uc) = wf := ⟨_, rfl⟩
    have hh : wf.heap[w.heap.size]? = some (.cells #[.string nb, .slice ua un uc] 25 (0, 0)) := by rw [← hwf]; exact pset (pset HZ1.out _ rfl) _ rfl
    have HF : Hid (Below w.heap.size w wf) := Lib.hid (by rw [← hwf]; exact (HB1.out.setCell (p := ⟨w.heap.size, 0, none⟩) (Nat.le_refl _) _).setCell (p := ⟨w.heap.size, 1, none⟩) (Nat.le_refl _) _)
    have HUF : Hid (BytW w.heap.size (.slice ua un uc) ws wf) := Lib.hid (by
      rw [← hwf]
      exact ((HU.out.kp (Kp.rk (RK.set w.heap.size 0 w1 (.string nb)) hlt3)).kp (Kp.rk (RK.set w.heap.size 1 _ (.slice ua un uc)) hlt3)).less (by omega))
    obtain ⟨m0, m1⟩ := KEY.out _ _ _ hh
    try rw [hwf]
    clear d0 d1 z0 z1 hh
    refine bodyPost_ret (by simp [results, Tryz.results22, go_sem, m0, m1]; try rfl) rfl ?_
    exact ⟨⟨_, by rw [HNB.out], HUF.out⟩, HF.out⟩
end Go.Proofs.YtgaknbnhmoddcaaGreatDoor
namespace Go.Proofs.YtgaknbnhmoddcaaGreatDoor
open Go.RowKit Go.Lib
set_option maxRecDepth 100000 in
theorem type_arg (a : Option Addr) (n cap : Nat) (at_ : Int) (hn : n ≤ 1000000) (ha : at_ < 0 ∨ (n : Int) ≤ at_) (w : World) :
    Calls Tryz.prog 22 #[.slice a n cap, .int .i64 at_] w fun x w' => x = .returned (.tuple #[.agg #[.string ⟨#[]⟩, .slice none 0 0], .int .i64 0, .int .i64 2]) ∧ Below w.heap.size w w' := by
  have HR : Hid (∀ W, Below w.heap.size w W → Calls Tryz.prog 52 #[.slice a n cap, .int .i64 at_, .bool true, .func (.func 53) #[] #[]] W fun x w' => x = .returned (.tuple #[.agg #[.string ⟨#[]⟩, .slice none 0 0], .int .i64 0, .int .i64 2]) ∧ Below W.heap.size W w') := Lib.hid fun W hW => lread_bad_t a n cap at_ true _ hn ha W
  go_enter Tryz.func22, Tryz.ntmps22
  go_wp2_with fail
  obtain ⟨w0, hw0⟩ : ∃ w0, w.alloc (.cells #[.string ⟨#[]⟩, .slice none 0 0] 25 (0, 0)) = w0 := ⟨_, rfl⟩
  have HZ0 : Hid (w0.heap[w.heap.size]? = some (.cells #[.string ⟨#[]⟩, .slice none 0 0] 25 (0, 0))) := Lib.hid (by rw [← hw0]; exact heap_new _ _ _ rfl)
  have HB0 : Hid (Below w.heap.size w w0) := Lib.hid (by rw [← hw0]; exact (Below.refl _ _).alloc (Nat.le_refl _) _)
  rw [hw0]
  clear hw0
  refine (HR.out w0 HB0.out).mono ?_; rintro x w1 ⟨hx, hb⟩
  have hz0 := HB0.out.size
  have hlt0 := heap_lt HZ0.out
  have hlt1 := hb.size
  have HB1 : Hid (Below w.heap.size w w1) := Lib.hid (HB0.out.trans (hb.mono hz0))
  have HZ1 : Hid (w1.heap[w.heap.size]? = some (.cells #[.string ⟨#[]⟩, .slice none 0 0] 25 (0, 0))) := Lib.hid ((hb.block _ hlt0).trans HZ0.out)
  clear hb
  obtain ⟨d0, d1, z0, z1⟩ := ref_cells HZ1.out
  have hlt2 : w.heap.size < w1.heap.size := by omega
  have hlt3 : w.heap.size < w0.heap.size := hlt0
  clear hlt1 hz0 hlt0
  have key : ∀ (n : ByteArray) (u : Value) (W : World), W.heap[w.heap.size]? = some (.cells #[.string n, u] 25 (0, 0)) → W.cell? ⟨w.heap.size, 0, none⟩ = some (.string n) ∧ W.cell? ⟨w.heap.size, 1, none⟩ = some u := fun n u W h => ⟨Lib.cell_of_heap h 0, Lib.cell_of_heap h 1⟩
  have KEY := Lib.hid key
  clear key
  have hx2 : x = .returned (.tuple #[.agg #[.string ⟨#[]⟩, .slice none 0 0], .int .i64 0, .int .i64 2]) := hx
  clear hx
  subst hx2
  go_wp2_with fail
  obtain ⟨wf, hwf⟩ : ∃ wf, (w1.setCell ⟨w.heap.size, 0, none⟩ (.string ⟨#[]⟩)).setCell ⟨w.heap.size, 1, none⟩ (.slice none 0 0) = wf := ⟨_, rfl⟩
  have hh : wf.heap[w.heap.size]? = some (.cells #[.string ⟨#[]⟩, .slice none 0 0] 25 (0, 0)) := by rw [← hwf]; exact pset (pset HZ1.out _ rfl) _ rfl
  have HF : Hid (Below w.heap.size w wf) := Lib.hid (by rw [← hwf]; exact (HB1.out.setCell (p := ⟨w.heap.size, 0, none⟩) (Nat.le_refl _) _).setCell (p := ⟨w.heap.size, 1, none⟩) (Nat.le_refl _) _)
  obtain ⟨m0, m1⟩ := KEY.out _ _ _ hh
  try rw [hwf]
  clear d0 d1 z0 z1 hh
  refine bodyPost_ret (by simp [results, Tryz.results22, go_sem, m0, m1]; try rfl) rfl ?_
  exact ⟨rfl, HF.out⟩
theorem OwnT.row {B : Nat} {u : Value} {T : List Tok} {W : World} (ho : OwnT B u T W) (h0 : 0 < T.length) : ∃ g cap, u = .slice (some ⟨g, 0, none⟩) T.length cap ∧ TokRow g 0 T W ∧ g < W.heap.size := by
  obtain ⟨g, n, cap, rfl, rfl, hB, hc⟩ := ho.formU h0
  refine ⟨g, cap, rfl, ?_, ?_⟩
  · rcases ho.sl with ⟨ua, uc, hu2, hL, _⟩ | ⟨b2, off, cap2, hu2, hr⟩
    · rw [hL] at h0; simp at h0
    · injection hu2 with e1 e2 e3
      injection e1 with e1
      injection e1 with e1 e2
      subst e1; subst e2
      exact hr
  · rcases ho.2 with ⟨e1, _⟩ | ⟨g2, cap2, cur, e1, _, hg, _⟩
    · cases e1
    · injection e1 with e1
      injection e1 with e1
      injection e1 with e1
      subst e1
      exact heap_lt hg
theorem OwnT.empty {B : Nat} {u : Value} {T : List Tok} {W : World} (ho : OwnT B u T W) (h0 : ¬ 0 < T.length) : ∃ a c, u = .slice a 0 c := by
  have : T.length = 0 := by omega
  rcases ho.2 with ⟨e1, _⟩ | ⟨g, cap, cur, e1, _⟩
  · exact ⟨_, _, e1⟩
  · exact ⟨_, _, by rw [e1, this]⟩
/-- A value. -/
theorem value_rd (T : List Tok) (u : Value) (B : Nat) (W : World) (ho : OwnT B u T W) (hT : T.length ≤ 100000 ∧ ∀ t ∈ T, t.text.length ≤ 100000) (hE : Env W) :
    Calls Tryz.prog 25 #[u, .int .i64 0, .bool false] W fun x w' => (∃ va vn vc k f, x = .returned (.tuple #[.slice va vn vc, .int .i64 k, .int .i64 f]) ∧ ∀ m V, 0 < T.length → litP false T 0 = .ok (m, V) → f = 0 ∧ k = (m : Int) ∧ CelSl (.slice va vn vc) V w') ∧ Below W.heap.size W w' := by
  by_cases h0 : 0 < T.length
  · obtain ⟨g, cap, rfl, hr, hg⟩ := ho.row h0
    refine (value_ok (cap := cap) (k := 0) false W hr hg hT h0 hE).mono ?_
    rintro x w' ⟨h1, h2⟩
    refine ⟨?_, h2⟩
    cases hp : litP false T 0 with
    | error e => rw [hp] at h1; exact ⟨_, _, _, _, _, h1, fun m V _ h => by cases h⟩
    | ok y =>
      obtain ⟨k', out⟩ := y
      rw [hp] at h1
      obtain ⟨a, n, c, h3, h4⟩ := h1
      exact ⟨_, _, _, _, _, h3, fun m V _ h => by injection h with h; injection h with e1 e2; subst e1; subst e2; exact ⟨rfl, rfl, h4.2.sl⟩⟩
  · obtain ⟨a, c, rfl⟩ := ho.empty h0
    refine (value_arg a 0 c 0 false (by omega) (by omega) W).mono ?_
    rintro x w' ⟨rfl, h2⟩
    exact ⟨⟨_, _, _, _, _, rfl, fun m V h => absurd h h0⟩, h2⟩
/-- A type. -/
theorem type_rd (T : List Tok) (u : Value) (B : Nat) (W : World) (ho : OwnT B u T W) (hT : T.length ≤ 100000 ∧ ∀ t ∈ T, t.text.length ≤ 100000) :
    Calls Tryz.prog 22 #[u, .int .i64 0] W fun x w' => (∃ s va vn vc k f, x = .returned (.tuple #[.agg #[.string s, .slice va vn vc], .int .i64 k, .int .i64 f]) ∧ ∀ q m nm ws, 0 < T.length → typG T 10 0 0 = .ok (q, m, nm, ws) → f = 0 ∧ k = (m : Int) ∧ s = ⟨nm.toArray⟩ ∧ Own W.heap.size (.slice va vn vc) ws w') ∧ Below W.heap.size W w' := by
  by_cases h0 : 0 < T.length
  · obtain ⟨g, cap, rfl, hr, hg⟩ := ho.row h0
    refine (type_ok (cap := cap) (k := 0) W hr hg hT h0).mono ?_
    rintro x w' ⟨h1, h2⟩
    refine ⟨?_, h2⟩
    cases hp : typG T 10 0 0 with
    | error e => rw [hp] at h1; exact ⟨_, _, _, _, _, _, h1, fun q m nm ws _ h => by cases h⟩
    | ok y =>
      obtain ⟨k2, a2, nm, ws⟩ := y
      rw [hp] at h1
      obtain ⟨u, h3, h4⟩ := h1
      obtain ⟨ua, un, uc, rfl⟩ := h4.form
      exact ⟨_, _, _, _, _, _, h3, fun q m nm' ws' _ h => by injection h with h; injection h with e1 e2; injection e2 with e2 e3; injection e3 with e3 e4; subst e2; subst e3; subst e4; exact ⟨rfl, rfl, rfl, h4.1⟩⟩
  · obtain ⟨a, c, rfl⟩ := ho.empty h0
    refine (type_arg a 0 c 0 (by omega) (by omega) W).mono ?_
    rintro x w' ⟨rfl, h2⟩
    exact ⟨⟨_, _, _, _, _, _, rfl, fun q m nm ws h => absurd h h0⟩, h2⟩
/-- Arguments. -/
theorem args_rd (T : List Tok) (u : Value) (B : Nat) (W : World) (ho : OwnT B u T W) (hT : T.length ≤ 100000 ∧ ∀ t ∈ T, t.text.length ≤ 100000) (h0 : 0 < T.length) (hE : Env W) :
    Calls Tryz.prog 24 #[u, .int .i64 0, .bool false] W fun x w' => (∃ va vn vc k f, x = .returned (.tuple #[.slice va vn vc, .int .i64 k, .int .i64 f]) ∧ ∀ m V, argsP false T 0 = .ok (m, V) → f = 0 ∧ k = (m : Int) ∧ ArgSl (.slice va vn vc) V w') ∧ Below W.heap.size W w' := by
  obtain ⟨g, cap, rfl, hr, hg⟩ := ho.row h0
  refine (args_ok (cap := cap) (k := 0) false W hr hg hT h0 hE).mono ?_
  rintro x w' ⟨h1, h2⟩
  refine ⟨?_, h2⟩
  cases hp : argsP false T 0 with
  | error e => rw [hp] at h1; exact ⟨_, _, _, _, _, h1, fun m V h => by cases h⟩
  | ok y =>
    obtain ⟨k', out⟩ := y
    rw [hp] at h1
    obtain ⟨a, n, c, h3, h4⟩ := h1
    exact ⟨_, _, _, _, _, h3, fun m V h => by injection h with h; injection h with e1 e2; subst e1; subst e2; exact ⟨rfl, rfl, OwnA.sl h4.2⟩⟩
/-- Directives. -/
theorem dirs_rd (T : List Tok) (u : Value) (B : Nat) (W : World) (ho : OwnT B u T W) (hT : T.length ≤ 100000 ∧ ∀ t ∈ T, t.text.length ≤ 100000) (h0 : 0 < T.length) (hE : Env W) :
    Calls Tryz.prog 23 #[u, .int .i64 0, .bool false] W fun x w' => (∃ va vn vc k f, x = .returned (.tuple #[.slice va vn vc, .int .i64 k, .int .i64 f]) ∧ ∀ m V, dirsP false T 0 = .ok (m, V) → f = 0 ∧ k = (m : Int) ∧ DirSl (.slice va vn vc) V w') ∧ Below W.heap.size W w' := by
  obtain ⟨g, cap, rfl, hr, hg⟩ := ho.row h0
  refine (dirs_ok (cap := cap) (k := 0) false W hr hg hT h0 hE).mono ?_
  rintro x w' ⟨h1, h2⟩
  refine ⟨?_, h2⟩
  cases hp : dirsP false T 0 with
  | error e => rw [hp] at h1; exact ⟨_, _, _, _, _, h1, fun m V h => by cases h⟩
  | ok y =>
    obtain ⟨k', out⟩ := y
    rw [hp] at h1
    obtain ⟨a, n, c, h3, h4⟩ := h1
    exact ⟨_, _, _, _, _, h3, fun m V h => by injection h with h; injection h with e1 e2; subst e1; subst e2; exact ⟨rfl, rfl, OwnD.sl h4.2⟩⟩
end Go.Proofs.YtgaknbnhmoddcaaGreatDoor
namespace Go.Proofs.YtgaknbnhmoddcaaGreatDoor
open Go.RowKit Go.Shelf
attribute [local go_sem] Oper.semAt_some
def wo (x : UInt8) : List Tok := if x = 2 then [mkT [91]] else []
theorem wo_bits (bs : List Bool) : (bs.map wz).flatMap wo = bs.flatMap wop := by
  induction bs with
  | nil => rfl
  | cons b r ih =>
    rw [List.map_cons, List.flatMap_cons, List.flatMap_cons, ih]
    cases b <;> rfl
theorem postM_ret {F : Fence} {n : Nat} {P : Program} {fn : Func} {R : Ending → World → Prop} {a : Act} {w : World} {v : Value} (hr : (results fn a.tmps).run P w = .ok v w) (hd : a.defers = []) (h : R (.returned v) w) : bodyPostM F n P fn R .ret a w := by
  show LeavesInM F n P fn a.tmps R a.defers .returning w
  rw [hd]
  exact ⟨v, hr, h⟩
theorem OwnT.kept {B : Nat} {v : Value} {L : List Tok} {W W' : World} {row : Option Nat} (h : OwnT B v L W) (hg : W.grownBy W' row) (hr : ∀ r, row = some r → ∃ o : Obj, W.heap[r]? = some o ∧ o.isCells = false) : OwnT B v L W' := by
  obtain ⟨h1, h2⟩ := h
  refine ⟨h1, ?_⟩
  rcases h2 with h2 | ⟨g, cap, cur, hv, hB, hg', hrest⟩
  · exact Or.inl h2
  · exact Or.inr ⟨g, cap, cur, hv, hB, (grownBy_keeps_cells hg hr hg' rfl).trans hg', hrest⟩
theorem PutS.kept {p : Nat} {v : Value} {L : List Tok} {W W' : World} {row : Option Nat} (h : PutS p v L W) (hg : W.grownBy W' row) (hr : ∀ r, row = some r → ∃ o : Obj, W.heap[r]? = some o ∧ o.isCells = false) : PutS p v L W' :=
  ⟨(grownBy_keeps_cells hg hr h.1 rfl).trans h.1, h.2.kept hg hr⟩
/-- A range over a function of two loop variables, whose body goes on. -/
theorem rangeF2 {P : Program} {g : Operand} {p1 p2 ps : Tmp} {assign body : Code} {Q : Exit → Act → World → Prop} {a : Act} {w : World} {gf : Nat} {lb : Array Value} (hg : a.eval g = .func (.func gf) #[] lb) (eg : ∀ args w, (callFunc gf args).run P w = .ok (.enter gf args) w)
    {p : Nat} {S Sp : List (Nat × Bool) → Prop} {N : Nat} {w0 : World} (hseq : SeqStopsK Fence.wide (3 - 1) P gf lb (fun x : Nat × Bool => #[Value.int .i64 (x.1 : Int), Value.int .u8 ((wz x.2).toNat : Int)]) (KC p) S Sp N w0) (hb0 : Below w0.heap.size w0 w)
    (I : List (Nat × Bool) → World → Prop) (hI : OwnFrom w.heap.size I) (h0 : I [] w)
    (hassign : ∀ (l : Nat) (x : Nat × Bool) (W : World) (K : Act → World → Prop), K { tmps := ((a.tmps.setIfInBounds p1 (Value.int .i64 (x.1 : Int))).setIfInBounds p2 (Value.int .u8 ((wz x.2).toNat : Int))).setIfInBounds ps (Value.int .u8 ((wz x.2).toNat : Int)), defers := [] } W →
      assign.wpIn (Fence.wide.inRound l) (3 - 1 - 1) P (Exit.then K (fun _ _ _ => False)) { tmps := (a.tmps.setIfInBounds p1 (Value.int .i64 (x.1 : Int))).setIfInBounds p2 (Value.int .u8 ((wz x.2).toNat : Int)), defers := [] } W)
    (hbody : ∀ (l : Nat) (pre : List (Nat × Bool)) (x : Nat × Bool) (W : World), I pre W → pre.length < N → body.wpIn (Fence.wide.inRound l) (3 - 1 - 1) P (ownPostG w.heap.size (KC p) I (fun _ _ _ => False) (pre ++ [x]) W) { tmps := ((a.tmps.setIfInBounds p1 (Value.int .i64 (x.1 : Int))).setIfInBounds p2 (Value.int .u8 ((wz x.2).toNat : Int))).setIfInBounds ps (Value.int .u8 ((wz x.2).toNat : Int)), defers := [] } W)
    (hdone : ∀ (D : Nat) (xs : List (Nat × Bool)) (W : World), w.heap.size ≤ D → S xs → I xs W → W.heap[D]? = some (.deferred (some [])) → Q .normal { a with defers := { target := .collected D, args := #[] } :: a.defers } W) :
    (Code.rangeFunc g #[p1, p2] assign body).wp P Q a w := by
  refine wpIn_wide.1 (wpIn_rangeFunc_ownG (F := Fence.wide) (n := 3) rfl (by decide) hg trivial eg hseq (fun h k => KC.trans h k) (fun W l o o' _ h ho _ => KC.book W l o o' h ho) hb0 (fun _ => rfl) I (fun _ _ _ => False) hI (fun _ _ _ _ _ hs _ _ => hs) h0
    (fun x => { tmps := ((a.tmps.setIfInBounds p1 (Value.int .i64 (x.1 : Int))).setIfInBounds p2 (Value.int .u8 ((wz x.2).toNat : Int))).setIfInBounds ps (Value.int .u8 ((wz x.2).toNat : Int)), defers := [] }) ?_ ?_ ?_ ?_)
  · intro l x W K hK
    simpa using hassign l x W K hK
  · intro l pre x W hi hp
    exact hbody l pre x W hi hp
  · exact hdone
  · intro D c pre W _ _ h _
    exact h.elim
theorem typB_step {lst x : UInt8} {r : List UInt8} : typB lst (x :: r) = ((x == 1 || x == 2) && !(x == 1 && lst == 1) && typB x r) := rfl
set_option maxRecDepth 100000 in
set_option maxHeartbeats 8000000 in
theorem tt_go (nm : ByteArray) (hnm : nameB nm.data.toList = true) (hnz : nm.size ≤ 1000000) (ws : List UInt8) (hl : ws.length ≤ 8) (a : Option Addr) (c : Nat) (w : World) (hu : BSl (.slice a ws.length c) ws w) :
    Calls Tryz.prog 13 #[.agg #[.string nm, .slice a ws.length c]] w fun e w' => (∃ v, e = .returned (.tuple #[v, .int .i64 (ttE nm.data.toList ws)]) ∧ OwnT w.heap.size v (ttL nm.data.toList ws) w') ∧ Below w.heap.size w w' := by
  obtain ⟨ZE, hZE⟩ : ∃ ZE, ttE nm.data.toList ws = ZE := ⟨_, rfl⟩
  obtain ⟨ZL, hZL⟩ : ∃ ZL, ttL nm.data.toList ws = ZL := ⟨_, rfl⟩
  obtain ⟨Z, hZ⟩ : ∃ Z, typB 2 ws = Z := ⟨_, rfl⟩
  have htt : ttB nm.data.toList ws = Z := by unfold ttB; rw [hnm, hZ, decide_eq_true hl]; simp
  rw [hZE, hZL]
  have HQ : Hid (Z = true → ZE = 0 ∧ typK nm.data.toList ws = ZL) := Lib.hid fun h => by
    unfold ttE at hZE; unfold ttL at hZL; rw [htt, h] at hZE hZL; exact ⟨hZE.symm, hZL⟩
  have HNO : Hid (Z = false → ZE = 8 ∧ ZL = []) := Lib.hid fun h => by
    unfold ttE at hZE; unfold ttL at hZL; rw [htt, h] at hZE hZL; exact ⟨hZE.symm, hZL.symm⟩
  have HRW : Hid (0 < ws.length → ∃ b off, a = some ⟨b, off, none⟩ ∧ b < w.heap.size ∧ BRow b off ws w) := Lib.hid fun h => by
    rcases hu with ⟨a2, c2, e, rfl⟩ | ⟨b, off, cap, e, h2, h3⟩
    · simp at h
    · injection e with e1 e2 e3
      exact ⟨b, off, e1, lt_of_cell (h2 0 h3), h2⟩
  have HNM : Hid (∀ W, Calls Tryz.prog 38 #[.string nm] W fun e w' => e = .returned (.bool true) ∧ W = w') := Lib.hid fun W => by
    have := lname_any nm hnz W
    rw [hnm] at this
    exact this
  have HT0 : Hid (typB 2 (ws.drop 0) = Z) := Lib.hid hZ
  have HO0 : Hid (([] : List Tok) = (ws.take 0).flatMap wo) := Lib.hid rfl
  obtain ⟨n, hn⟩ : ∃ n, ws.length = n := ⟨_, rfl⟩
  have HN := Lib.hid hn
  rw [hn]
  rw [hn] at hl
  have hl8 : ¬ (8 : Int) < (n : Int) := by omega
  clear hZE hZL hZ htt hu hnm hnz hn
  refine (callsIn_wide (n := 3)).1 ?_
  refine callsIn_of_wp_marks Tryz.func13 rfl trivial ?_ rfl
  simp only [Tryz.ntmps13, List.size_toArray, List.length_cons, List.length_nil, Nat.reduceAdd, Nat.reduceSub, Array.replicate_succ, Array.replicate_zero, List.push_toArray, List.append_toArray, List.nil_append, List.cons_append]
  refine wpIn_wide.2 ?_
  go_upto_region 1 with fail
  obtain ⟨w1, hw1⟩ : ∃ w1, w.alloc (.cells #[.string nm, .slice a n c] 25 (0, 0)) = w1 := ⟨_, rfl⟩
  have hb1 : Below w.heap.size w w1 := by rw [← hw1]; exact (Below.refl _ _).alloc (Nat.le_refl _) _
  have hz1 : w1.heap.size = w.heap.size + 1 := by rw [← hw1]; simp
  have k1 : w1.heap[w.heap.size]? = some (.cells #[.string nm, .slice a n c] 25 (0, 0)) := by rw [← hw1]; exact heap_new _ _ _ rfl
  obtain ⟨d0, d1, _, _⟩ := ref_cells k1
  rw [hw1]
  go_wp2_with fail
  refine (HNM.out w1).mono ?_; rintro e w2 ⟨rfl, rfl⟩
  go_upto_region 4 with fail
  obtain ⟨w2, hw2⟩ : ∃ w2, (w1.alloc (.cells #[.slice none 0 0] 78)).alloc (.cells #[.pointer (some ⟨w.heap.size + 1, 0, none⟩)] 76) = w2 := ⟨_, rfl⟩
  have HB2 : Hid (Below w.heap.size w w2) := Lib.hid (by rw [← hw2]; exact (hb1.alloc (by omega) _).alloc (by simp; omega) _)
  have HP2 : Hid (PutS (w.heap.size + 1) (.slice none 0 0) [] w2) := Lib.hid ⟨by rw [← hw2]; exact heap_old (heap_new _ _ _ (by omega)), OwnT.nil _ _⟩
  have HX2 : Hid (w2.heap[w.heap.size]? = some (.cells #[.string nm, .slice a n c] 25 (0, 0)) ∧ w2.heap[w.heap.size + 1 + 1]? = some (.cells #[.pointer (some ⟨w.heap.size + 1, 0, none⟩)] 76 (0, 0))) := Lib.hid ⟨by rw [← hw2]; exact heap_old (heap_old k1), by rw [← hw2]; exact heap_new _ _ _ (by simp; omega)⟩
  rw [hw2]
  clear hw1 hw2 hb1 hz1 k1 d0 d1
  obtain ⟨d0, d1, _, _⟩ := ref_cells HX2.out.1
  go_wp2_with fail
  go_loopg [5, 25] n (fun gk lv iv wr => ∃ (i : Nat) (lst : UInt8) (li : Int) (L1 : List Tok) (pv : Value), lv = .int .u8 li ∧ iv = .int .i64 (i : Int) ∧ (gk + i ≤ n ∧ n ≤ gk + i) ∧ Hid ((lst.toNat : Int) = li) ∧ Hid (PutS (w.heap.size + 1) pv L1 wr) ∧ Hid (Below w.heap.size w wr) ∧ Hid (wr.heap[w.heap.size]? = some (.cells #[.string nm, .slice a n c] 25 (0, 0)) ∧ wr.heap[w.heap.size + 1 + 1]? = some (.cells #[.pointer (some ⟨w.heap.size + 1, 0, none⟩)] 76 (0, 0))) ∧ Hid (typB lst (ws.drop i) = Z) ∧ Hid (L1 = (ws.take i).flatMap wo))
  case atStart => exact ⟨0, 2, 2, [], _, rfl, by go_num, ⟨by omega, by omega⟩, Lib.hid rfl, HP2, HB2, HX2, HT0, HO0⟩
  case round =>
    clear HP2 HB2 HX2 HO0 d0 d1
    rename World => wr
    obtain ⟨i, lst, li, L1, pv, rfl, rfl, ⟨hj, hj'⟩, HLI, HP, HB, HX, HTB, HL1⟩ := hrel
    have hLL : L1.length ≤ 8 := by
      rw [HL1.out]
      have key : ∀ l : List UInt8, (l.flatMap wo).length ≤ l.length := by
        intro l
        induction l with
        | nil => simp
        | cons x r ih =>
          rw [List.flatMap_cons, List.length_append, List.length_cons]
          have : (wo x).length ≤ 1 := by unfold wo; split <;> simp
          omega
      have := key (ws.take i)
      have h2 : (ws.take i).length ≤ ws.length := by rw [List.length_take]; omega
      have := HN.out
      omega
    by_cases hg0 : gk = 0
    · subst hg0
      have hin : i = n := by omega
      subst hin
      have hlt : ¬ (i : Int) < (i : Int) := by omega
      have hz : Z = true := by
        have := HTB.out
        rw [List.drop_of_length_le (by have := HN.out; omega)] at this
        exact this.symm
      obtain ⟨hZE, hZL⟩ := HQ.out hz
      obtain ⟨bs, hbs⟩ := typB_bits ws 2 (by have := HT0.out; rw [List.drop_zero, hz] at this; exact this)
      have hbl : i = bs.length := by have := HN.out; rw [hbs, List.length_map] at this; exact this.symm
      have HLF : Hid (ZE = 0 ∧ ZL = (L1 ++ [⟨1, nm.data.toList, 0⟩]) ++ bs.reverse.map wmk) := Lib.hid ⟨hZE, by
        rw [← hZL, HL1.out, List.take_of_length_le (by have := HN.out; omega), hbs, typK_bits, wo_bits]
        simp [nmT]⟩
      have HAO : Hid (0 < i → ∃ b off, a = some ⟨b, off, none⟩ ∧ b < w.heap.size ∧ ∀ j, j < i → w.cell? ⟨b, off + j, none⟩ = some (.int .u8 ((wz (bs[j]?.getD false)).toNat : Int))) := Lib.hid fun h => by
        obtain ⟨b, off, h1, h2, h3⟩ := HRW.out (by have := HN.out; omega)
        refine ⟨b, off, h1, h2, fun j hj => ?_⟩
        have hjw : j < ws.length := by have := HN.out; omega
        rw [h3 j hjw]
        have : ws[j] = wz (bs[j]?.getD false) := by
          have hjb : j < bs.length := by omega
          subst hbs
          simp [hjb]
        rw [this]
      have HBL := Lib.hid hbl
      clear hj hj' hz hZE hZL hbs hbl HRW HQ HNO HT0 HTB HL1
      obtain ⟨d0, d1, _, _⟩ := ref_cells HX.out.1
      have c4 : wr.cell? ⟨w.heap.size + 1 + 1, 0, none⟩ = some (.pointer (some ⟨w.heap.size + 1, 0, none⟩)) := by rw [Lib.cell_of_heap HX.out.2]; rfl
      have hzr := HB.out.size
      have hqr := HP.out.lt
      have hb4 : Below wr.heap.size wr (wr.alloc (.cells #[.string nm] 9 (0, 0))) := (Below.refl _ _).alloc (Nat.le_refl _) _
      have HP4 := Lib.hid (HP.out.below hb4)
      have HB4 := Lib.hid (HB.out.trans (hb4.mono hzr))
      have HX4 := Lib.hid (And.intro ((hb4.block _ (heap_lt HX.out.1)).trans HX.out.1) ((hb4.block _ (heap_lt HX.out.2)).trans HX.out.2))
      have hne4 : wr.heap.size ≠ w.heap.size + 1 := by omega
      clear hb4
      go_wp2_with fail
      refine (put_add (w.heap.size + 1) pv L1 1 1 rfl nm _ 1 _ HP4.out (new_cell0 _ _ _) hne4 (by omega)).mono ?_; rintro e w5 ⟨rfl, ⟨pv5, hx1⟩, hx2⟩
      have HP5 : Hid (PutS (w.heap.size + 1) pv5 (L1 ++ [⟨1, nm.data.toList, 0⟩]) w5) := Lib.hid hx1
      have HB5 : Hid (Below w.heap.size w w5) := Lib.hid (HB4.out.trans (hx2.1.mono (by omega)))
      have HX5 := Lib.hid (And.intro (hx2.2 _ _ HX4.out.1 (by omega)) (hx2.2 _ _ HX4.out.2 (by omega)))
      clear hx1 hx2 HP4 HB4 HX4 hne4 d0 d1 c4 hzr hqr HP HB HX
      obtain ⟨d0, d1, _, _⟩ := ref_cells HX5.out.1
      go_wp2_with fail
      refine (backward_c a i c w5).mono ?_; rintro e w6 ⟨rfl, hw6⟩
      have hb6 : Below w5.heap.size w5 w6 := by rw [hw6]; exact (Below.refl _ _).alloc (Nat.le_refl _) _
      have HBS : Hid (w6.cell? ⟨w5.heap.size, 0, none⟩ = some (.slice a i c)) := Lib.hid (by rw [hw6]; exact new_cell0 _ _ _)
      have HB6 : Hid (Below w.heap.size w w6) := Lib.hid (HB5.out.trans (hb6.mono HB5.out.size))
      have HP6 := Lib.hid (HP5.out.below hb6)
      have HX6 := Lib.hid ((hb6.block _ (heap_lt HX5.out.2)).trans HX5.out.2)
      have hqr := HP5.out.lt
      have hzr := HB5.out.size
      have hz56 := hb6.size
      clear hw6 hb6
      go_wp2_with fail
      have hz6 := HB6.out.size
      have hiz : i ≤ 1000000 := by omega
      have hne6 : w5.heap.size ≠ w.heap.size + 1 := by omega
      have hlen5 : (L1 ++ [(Tok.mk 1 nm.data.toList 0)]).length ≤ 9 := by simp; omega
      generalize L1 ++ [(Tok.mk 1 nm.data.toList 0)] = L5 at *
      refine rangeF2 (gf := 74) (lb := #[.pointer (some ⟨w5.heap.size, 0, none⟩)]) (ps := 9) (p := w.heap.size + 1) rfl (enters_of Tryz.func74 (by kernel_rfl) rfl)
        (back_stops Fence.wide (3 - 1) trivial rfl (by decide) w5.heap.size (w.heap.size + 1) a i c bs HBL.out hiz hne6 w6 HBS.out (fun h => by
          obtain ⟨b, off, h1, h2, h3⟩ := HAO.out h
          exact ⟨b, off, h1, by omega, fun j hj => (HB6.out.cell (p := ⟨b, off + j, none⟩) h2).trans (h3 j hj)⟩)) (Below.refl _ _)
        (fun pre W => (∃ v, PutS (w.heap.size + 1) v (L5 ++ pre.map (fun x => wmk x.2)) W) ∧ W.heap[w.heap.size + 1 + 1]? = some (.cells #[.pointer (some ⟨w.heap.size + 1, 0, none⟩)] 76 (0, 0)) ∧ Below w.heap.size w W)
        (fun s A B row hs hg hr => ⟨by obtain ⟨v, hv⟩ := hs.1; exact ⟨v, hv.kept hg (fun r e => (hr r e).2)⟩, (grownBy_keeps_cells hg (fun r e => (hr r e).2) hs.2.1 rfl).trans hs.2.1, (ownFrom_below (β := List (Nat × Bool)) (Nat.le_refl _) hz6) s A B row hs.2.2 hg hr⟩)
        ⟨⟨pv5, by simpa using HP6.out⟩, HX6.out, HB6.out⟩ ?assign ?body ?done
      case assign =>
        intro l x W K hK
        simp only [List.setIfInBounds_toArray, List.set_cons_zero, List.set_cons_succ] at hK ⊢
        gi_wp2
        exact hK
      case body =>
        rintro l pre ⟨q, bb⟩ W ⟨⟨v, hP⟩, hc4, hB⟩ hpl
        have HA : ∀ s : ByteArray, Hid (∀ (X : World) (lb cl : Nat), Below W.heap.size W X → X.cell? ⟨lb, 0, none⟩ = some (.string s) → W.heap.size ≤ lb → Calls Tryz.prog 39 #[.pointer (some ⟨w.heap.size + 1, 0, none⟩), .int .u8 4, .slice (some ⟨lb, 0, none⟩) 1 cl] X fun e w' => e = .returned (.tuple #[]) ∧ (∃ v', PutS (w.heap.size + 1) v' ((L5 ++ pre.map (fun x => wmk x.2)) ++ [⟨4, s.data.toList, 0⟩]) w') ∧ RK (w.heap.size + 1) W w') := fun s => Lib.hid fun X lb cl hX hl hlb => by
          have hq := hP.lt
          refine (put_add (w.heap.size + 1) v _ 4 4 rfl s lb cl X (hP.below hX) hl (by omega) (by rw [List.length_append, List.length_map]; omega)).mono ?_
          rintro e w' ⟨rfl, h1, h2⟩
          exact ⟨rfl, h1, (RK.of_below hX hq).trans h2⟩
        have HF : Hid (∀ w' : World, (∃ v', PutS (w.heap.size + 1) v' ((L5 ++ pre.map (fun x => wmk x.2)) ++ [wmk bb]) w') → RK (w.heap.size + 1) W w' → ownPostG w6.heap.size (KC (w.heap.size + 1)) (fun pre W => (∃ v, PutS (w.heap.size + 1) v (L5 ++ pre.map (fun x => wmk x.2)) W) ∧ W.heap[w.heap.size + 1 + 1]? = some (.cells #[.pointer (some ⟨w.heap.size + 1, 0, none⟩)] 76 (0, 0)) ∧ Below w.heap.size w W) (fun _ _ _ => False) (pre ++ [(q, bb)]) W .normal { tmps := #[], defers := [] } w') := Lib.hid fun w' h1 h2 => by
          refine ⟨⟨h2.1.size, fun k o hk ho hc => h2.2 k o ho (by omega)⟩, KC.of_rk h2, ?_, h2.2 _ _ hc4 (by omega), hB.trans (h2.1.mono (by omega))⟩
          · obtain ⟨v', h⟩ := h1
            exact ⟨v', by simpa using h⟩
        have c4 : W.cell? ⟨w.heap.size + 1 + 1, 0, none⟩ = some (.pointer (some ⟨w.heap.size + 1, 0, none⟩)) := by rw [Lib.cell_of_heap hc4]; rfl
        have hlt4 : w.heap.size + 1 + 1 < W.heap.size := heap_lt hc4
        have c4a : ∀ o, (W.alloc o).cell? ⟨w.heap.size + 1 + 1, 0, none⟩ = some (.pointer (some ⟨w.heap.size + 1, 0, none⟩)) := fun o => by
          rw [World.cell?_alloc_lt _ _ _ (by exact hlt4)]; exact c4
        simp only [List.setIfInBounds_toArray, List.set_cons_zero, List.set_cons_succ]
        have hd : 1 ≤ 3 - 1 - 1 := by decide
        have hmx : Tryz.prog.follows .mixedOrders = true := by kernel_rfl
        cases bb
        · have e1 : ((wz false).toNat : Int) = 1 := rfl
          simp only [e1]
          have HB := HA ⟨#[33]⟩
          have ix := fun w : World => (show (Instr.index 86 (.agg #[.string ⟨#[]⟩, .string ⟨#[33]⟩, .string ⟨#[93]⟩]) (.int .u8 1)).run Tryz.prog w = .ok (.string ⟨#[33]⟩) w by kernel_rfl)
          clear HA hP hc4 hB
          gi_wp2
          gi_region_with_o (refine ⟨trivial, ?_⟩; gi_at_call 39; refine (CallsIn.inRound l (callsIn_wide.2 (HB.out _ _ _ (below_dN 1 ((Below.refl _ _).alloc (Nat.le_refl _) _)) (new_cell0 _ _ _) (Nat.le_refl _)))).mono ?_; rintro e w7 ⟨rfl, h1, h2⟩)
          all_goals gi_wp2
          all_goals exact HF.out _ h1 h2
        · have e1 : ((wz true).toNat : Int) = 2 := rfl
          simp only [e1]
          have HB := HA ⟨#[93]⟩
          have ix := fun w : World => (show (Instr.index 86 (.agg #[.string ⟨#[]⟩, .string ⟨#[33]⟩, .string ⟨#[93]⟩]) (.int .u8 2)).run Tryz.prog w = .ok (.string ⟨#[93]⟩) w by kernel_rfl)
          clear HA hP hc4 hB
          gi_wp2
          gi_region_with_o (refine ⟨trivial, ?_⟩; gi_at_call 39; refine (CallsIn.inRound l (callsIn_wide.2 (HB.out _ _ _ (below_dN 1 ((Below.refl _ _).alloc (Nat.le_refl _) _)) (new_cell0 _ _ _) (Nat.le_refl _)))).mono ?_; rintro e w7 ⟨rfl, h1, h2⟩)
          all_goals gi_wp2
          all_goals exact HF.out _ h1 h2
      case done =>
        rintro D xs W hD rfl ⟨⟨v, hP⟩, hc4, hB⟩ hKD
        obtain ⟨a3, n3, c3, rfl⟩ := hP.2.slf
        have c4 : W.cell? ⟨w.heap.size + 1 + 1, 0, none⟩ = some (.pointer (some ⟨w.heap.size + 1, 0, none⟩)) := by rw [Lib.cell_of_heap hc4]; rfl
        have c5 := hP.cell
        have HPD := Lib.hid hP
        have HBD := Lib.hid hB
        have HBK := Lib.hid (bk_all bs)
        clear hP hB hc4
        go_wp2_with fail
        refine ⟨by simp, .inl ⟨_, _, rfl, run_takeDeferred hKD, ?_⟩⟩
        refine ⟨_, results_tmp2 rfl _ _ _, ⟨.slice a3 n3 c3, by rw [HLF.out.1]; rfl, ?_⟩, ?_⟩
        · rw [HLF.out.2]
          have h := (HPD.out.2.kept (grownBy_putObj' W D (.deferred none)) (fun r e => by cases e; exact ⟨_, hKD, rfl⟩)).lessU (B' := w.heap.size) (by omega)
          have e : (bk bs i).map (fun x => wmk x.2) = bs.reverse.map wmk := by
            rw [← HBK.out, HBL.out, List.map_map]; rfl
          rw [e] at h
          exact h
        · exact HBD.out.trans (belowK_b (w := w6) hz6 W D _ _ hD hKD rfl rfl)
    · obtain ⟨g1, rfl⟩ : ∃ g1, gk = g1 + 1 := ⟨gk - 1, by omega⟩
      have hil : i < ws.length := by have := HN.out; omega
      obtain ⟨b, off, rfl, hbw, hrow⟩ := HRW.out (by omega)
      have hx := (HB.out.cell (p := ⟨b, off + i, none⟩) hbw).trans (hrow i hil)
      have htb := HTB.out
      have hli := HLI.out
      rw [List.drop_eq_getElem_cons hil, typB_step] at htb
      have hl1 : L1 ++ wo (ws[i]'hil) = (ws.take (i + 1)).flatMap wo := by
        rw [List.take_succ_eq_append_getElem hil, List.flatMap_append, ← HL1.out]; simp
      generalize ws[i]'hil = x at hx htb hl1
      obtain ⟨xi, hxi⟩ : ∃ xi : Int, (x.toNat : Int) = xi := ⟨_, rfl⟩
      rw [hxi] at hx
      have i1 : (i : Int).toNat = i := by omega
      have i2 : (0 : Int) ≤ (i : Int) := by omega
      have i3 : (i : Int) < (n : Int) := by omega
      have i4 : IntKind.i64.wrap ((i : Int) + 1) = ((i + 1 : Nat) : Int) := by rw [IntWalk.i64_in _ (by omega)]; omega
      have HJJ := Lib.hid (And.intro hj hj')
      have c4 : wr.cell? ⟨w.heap.size + 1 + 1, 0, none⟩ = some (.pointer (some ⟨w.heap.size + 1, 0, none⟩)) := by rw [Lib.cell_of_heap HX.out.2]; rfl
      have hzr := HB.out.size
      have hqr := HP.out.lt
      clear hg0 hj hj' hrow hbw hil HRW HTB HL1 HLI
      by_cases hx2 : x = 2
      · subst hx2
        have hx3 : xi = 2 := by rw [← hxi]; rfl
        subst hx3
        have HTN : Hid (typB 2 (ws.drop (i + 1)) = Z) := Lib.hid (by rw [← htb]; rfl)
        have HLN : Hid (L1 ++ [⟨4, (⟨#[91]⟩ : ByteArray).data.toList, 0⟩] = (ws.take (i + 1)).flatMap wo) := Lib.hid hl1
        have hb4 : Below wr.heap.size wr (wr.alloc (.cells #[.string ⟨#[91]⟩] 9 (0, 0))) := (Below.refl _ _).alloc (Nat.le_refl _) _
        have HP4 := Lib.hid (HP.out.below hb4)
        have HB4 := Lib.hid (HB.out.trans (hb4.mono hzr))
        have HX4 := Lib.hid (And.intro ((hb4.block _ (heap_lt HX.out.1)).trans HX.out.1) ((hb4.block _ (heap_lt HX.out.2)).trans HX.out.2))
        have hne4 : wr.heap.size ≠ w.heap.size + 1 := by omega
        clear hb4 htb hl1 hxi hli
        go_wp2_with fail
        refine (put_add (w.heap.size + 1) pv L1 4 4 rfl ⟨#[91]⟩ _ 1 _ HP4.out (new_cell0 _ _ _) hne4 (by omega)).mono ?_; rintro e w5 ⟨rfl, ⟨pv5, hx1⟩, hx2⟩
        have HP5 := Lib.hid hx1
        have HB5 : Hid (Below w.heap.size w w5) := Lib.hid (HB4.out.trans (hx2.1.mono (by omega)))
        have HX5 := Lib.hid (And.intro (hx2.2 _ _ HX4.out.1 (by omega)) (hx2.2 _ _ HX4.out.2 (by omega)))
        clear hx1 hx2 HP4 HB4 HX4 hne4 c4
        go_wp2_with fail
        obtain ⟨hj, hj'⟩ := HJJ.out
        go_roundg g1
        case measure => omega
        case rel => exact ⟨i + 1, 2, 2, _, pv5, rfl, by first | rfl | go_num, ⟨by omega, by omega⟩, Lib.hid rfl, HP5, HB5, HX5, HTN, HLN⟩
      · by_cases hx1 : x = 1
        · subst hx1
          have hx3 : xi = 1 := by rw [← hxi]; rfl
          subst hx3
          by_cases hls : lst = 1
          · subst hls
            have hl3 : li = 1 := by rw [← hli]; rfl
            subst hl3
            have HF : Hid (ZE = 8 ∧ ZL = []) := Lib.hid (HNO.out (by rw [← htb]; rfl))
            clear htb hl1 hxi hli
            go_wp2_with fail
            (try simp only [Exit.inBlock, Exit.then])
            refine postM_ret (results_tmp2 rfl _ _ _) rfl ?_
            exact ⟨⟨.slice none 0 0, by rw [HF.out.1]; rfl, by rw [HF.out.2]; exact OwnT.nil _ _⟩, HB.out⟩
          · have hl3 : ¬ li = 1 := fun h => hls (UInt8.toNat_inj.1 (by have : ((1 : UInt8).toNat : Int) = 1 := rfl; omega))
            have hl4 : (li == 1) = false := by simpa using hl3
            have hlb : (lst == 1) = false := by simpa using hls
            have HTN : Hid (typB 1 (ws.drop (i + 1)) = Z) := Lib.hid (by rw [← htb, hlb]; rfl)
            have HLN : Hid (L1 = (ws.take (i + 1)).flatMap wo) := Lib.hid (by rw [← hl1]; simp [wo])
            clear htb hl1 hxi hli hls hlb
            go_wp2_with fail
            obtain ⟨hj, hj'⟩ := HJJ.out
            go_roundg g1
            case measure => omega
            case rel => exact ⟨i + 1, 1, 1, _, pv, rfl, by first | rfl | go_num, ⟨by omega, by omega⟩, Lib.hid rfl, HP, HB, HX, HTN, HLN⟩
        · have h1 : ¬ xi = 1 := fun h => hx1 (UInt8.toNat_inj.1 (by have : ((1 : UInt8).toNat : Int) = 1 := rfl; omega))
          have h2 : ¬ xi = 2 := fun h => hx2 (UInt8.toNat_inj.1 (by have : ((2 : UInt8).toNat : Int) = 2 := rfl; omega))
          have h1b : (xi == 1) = false := by simpa using h1
          have h2b : (xi == 2) = false := by simpa using h2
          have HF : Hid (ZE = 8 ∧ ZL = []) := Lib.hid (HNO.out (by
            rw [← htb, (by simpa using hx1 : (x == 1) = false), (by simpa using hx2 : (x == 2) = false)]; rfl))
          clear htb hl1 hxi hli hx1 hx2
          go_wp2_with fail
          (try simp only [Exit.inBlock, Exit.then])
          refine postM_ret (results_tmp2 rfl _ _ _) rfl ?_
          exact ⟨⟨.slice none 0 0, by rw [HF.out.1]; rfl, by rw [HF.out.2]; exact OwnT.nil _ _⟩, HB.out⟩
set_option maxRecDepth 100000 in
theorem tt_name (nm : ByteArray) (u : Value) (w : World) (HNM : Hid (∀ W, Calls Tryz.prog 38 #[.string nm] W fun e w' => e = .returned (.bool false) ∧ W = w')) :
    Calls Tryz.prog 13 #[.agg #[.string nm, u]] w fun e w' => e = .returned (.tuple #[.slice none 0 0, .int .i64 8]) ∧ Below w.heap.size w w' := by
  have HB : Hid (Below w.heap.size w (w.alloc (.cells #[.string nm, u] 25 (0, 0)))) := Lib.hid ((Below.refl _ _).alloc (Nat.le_refl _) _)
  refine (callsIn_wide (n := 3)).1 ?_
  refine callsIn_of_wp_marks Tryz.func13 rfl trivial ?_ rfl
  simp only [Tryz.ntmps13, List.size_toArray, List.length_cons, List.length_nil, Nat.reduceAdd, Nat.reduceSub, Array.replicate_succ, Array.replicate_zero, List.push_toArray, List.append_toArray, List.nil_append, List.cons_append]
  refine wpIn_wide.2 ?_
  go_wp2_with fail
  refine (HNM.out _).mono ?_; rintro e w2 ⟨rfl, rfl⟩
  go_wp2_with fail
  (try simp only [Exit.inBlock, Exit.then])
  refine postM_ret (results_tmp2 rfl _ _ _) rfl ?_
  exact ⟨rfl, HB.out⟩
set_option maxRecDepth 100000 in
theorem tt_long (nm : ByteArray) (a : Option Addr) (n c : Nat) (hn : (8 : Int) < (n : Int)) (w : World) (HNM : Hid (∀ W, Calls Tryz.prog 38 #[.string nm] W fun e w' => e = .returned (.bool true) ∧ W = w')) :
    Calls Tryz.prog 13 #[.agg #[.string nm, .slice a n c]] w fun e w' => e = .returned (.tuple #[.slice none 0 0, .int .i64 8]) ∧ Below w.heap.size w w' := by
  have HB : Hid (Below w.heap.size w (w.alloc (.cells #[.string nm, .slice a n c] 25 (0, 0)))) := Lib.hid ((Below.refl _ _).alloc (Nat.le_refl _) _)
  refine (callsIn_wide (n := 3)).1 ?_
  refine callsIn_of_wp_marks Tryz.func13 rfl trivial ?_ rfl
  simp only [Tryz.ntmps13, List.size_toArray, List.length_cons, List.length_nil, Nat.reduceAdd, Nat.reduceSub, Array.replicate_succ, Array.replicate_zero, List.push_toArray, List.append_toArray, List.nil_append, List.cons_append]
  refine wpIn_wide.2 ?_
  go_wp2_with fail
  refine (HNM.out _).mono ?_; rintro e w2 ⟨rfl, rfl⟩
  go_wp2_with fail
  (try simp only [Exit.inBlock, Exit.then])
  refine postM_ret (results_tmp2 rfl _ _ _) rfl ?_
  exact ⟨rfl, HB.out⟩
theorem tt_any (nm : ByteArray) (ws : List UInt8) (u : Value) (w : World) (hu : BSl u ws w) (hn : nm.size ≤ 1000000) (hw : ws.length ≤ 1000000) :
    Calls Tryz.prog 13 #[.agg #[.string nm, u]] w fun e w' => (∃ v, e = .returned (.tuple #[v, .int .i64 (ttE nm.data.toList ws)]) ∧ OwnT w.heap.size v (ttL nm.data.toList ws) w') ∧ Below w.heap.size w w' := by
  obtain ⟨a, c, rfl⟩ := hu.form
  have no : ttB nm.data.toList ws = false → ∀ e w', (e = Ending.returned (.tuple #[.slice none 0 0, .int .i64 8]) ∧ Below w.heap.size w w') → (∃ v, e = .returned (.tuple #[v, .int .i64 (ttE nm.data.toList ws)]) ∧ OwnT w.heap.size v (ttL nm.data.toList ws) w') ∧ Below w.heap.size w w' := by
    rintro h e w' ⟨rfl, hb⟩
    unfold ttE ttL
    rw [h]
    exact ⟨⟨_, rfl, OwnT.nil _ _⟩, hb⟩
  cases hnb : nameB nm.data.toList with
  | false =>
    refine (tt_name nm _ w (Lib.hid fun W => ?_)).mono (no (by unfold ttB; rw [hnb]; rfl))
    have := lname_any nm hn W
    rw [hnb] at this
    exact this
  | true =>
    by_cases hl : ws.length ≤ 8
    · exact tt_go nm hnb hn ws hl a c w hu
    · refine (tt_long nm a _ c (by omega) w (Lib.hid fun W => ?_)).mono (no (by unfold ttB; rw [hnb, decide_eq_false hl]; rfl))
      have := lname_any nm hn W
      rw [hnb] at this
      exact this
end Go.Proofs.YtgaknbnhmoddcaaGreatDoor
namespace Go.Proofs.YtgaknbnhmoddcaaGreatDoor
open Go.RowKit Go.Lib
set_option maxRecDepth 100000 in
theorem sametype_row (s : ByteArray) (ua va : Option Addr) (un uc vn vc : Nat) (ws : List UInt8) (B : Nat) (w : World) (h1 : Own B (.slice ua un uc) ws w) (h2 : BSl (.slice va vn vc) ws w) :
    Calls Tryz.prog 27 #[.agg #[.string s, .slice ua un uc], .agg #[.string s, .slice va vn vc]] w fun e w' => e = .returned (.bool true) ∧ Below w.heap.size w w' := by
  have H1 : Hid (∀ W, Below w.heap.size w W → (convert 23 9 (.slice ua un uc)).run Tryz.prog W = .ok (.string ⟨ws.toArray⟩) W) := Lib.hid fun W hW => run_convert_own (h1.below hW)
  have H2 : Hid (∀ W, Below w.heap.size w W → (convert 23 9 (.slice va vn vc)).run Tryz.prog W = .ok (.string ⟨ws.toArray⟩) W) := Lib.hid fun W hW => (h2.below hW).convert
  have hss : (s.toList == s.toList) = true := by simp
  obtain ⟨sb, hsb⟩ : ∃ sb : ByteArray, sb = ⟨ws.toArray⟩ := ⟨_, rfl⟩
  have hbb : (sb.toList == sb.toList) = true := by simp
  rw [← hsb] at H1 H2
  clear h1 h2 hsb
  go_enter Tryz.func27, Tryz.ntmps27
  go_upto_region 1 with fail
  obtain ⟨w2, hw2⟩ : ∃ w2, (w.alloc (.cells #[.string s, .slice ua un uc] 25 (0, 0))).alloc (.cells #[.string s, .slice va vn vc] 25 (0, 0)) = w2 := ⟨_, rfl⟩
  have HB2 : Hid (Below w.heap.size w w2) := Lib.hid (by rw [← hw2]; exact ((Below.refl _ _).alloc (Nat.le_refl _) _).alloc (by simp) _)
  have k1 : w2.heap[w.heap.size]? = some (.cells #[.string s, .slice ua un uc] 25 (0, 0)) := by rw [← hw2]; exact heap_old (heap_new _ _ _ rfl)
  have k2 : w2.heap[w.heap.size + 1]? = some (.cells #[.string s, .slice va vn vc] 25 (0, 0)) := by rw [← hw2]; exact heap_new _ _ _ (by simp)
  obtain ⟨d0, d1, _, _⟩ := ref_cells k1
  obtain ⟨d2, d3, _, _⟩ := ref_cells k2
  have C1 := H1.out w2 HB2.out
  have C2 := H2.out w2 HB2.out
  have C3 := H1.out w2.drew HB2.out.drew
  have C4 := H2.out w2.drew HB2.out.drew
  try rw [hw2]
  clear hw2 k1 k2
  go_wp2_with fail
  go_ret
  exact ⟨rfl, HB2.out⟩
end Go.Proofs.YtgaknbnhmoddcaaGreatDoor
namespace Go.Proofs.YtgaknbnhmoddcaaGreatDoor
open Go.RowKit
set_option maxRecDepth 100000 in
set_option maxHeartbeats 4000000 in
theorem sameargs_row (L : List (List UInt8 × List Cel)) (b1 o1 c1 b2 o2 c2 : Nat) (hl : L.length ≤ 100000) (w : World) (h1 : XRow CelSl b1 o1 L w) (h2 : XRow CelSl b2 o2 L w)
    (hin : ∀ (i : Nat) (h : i < L.length) (u v : Value) (W : World), CelSl u L[i].2 W → CelSl v L[i].2 W → Calls Tryz.prog 20 #[u, v] W fun e w' => e = .returned (.bool true) ∧ Below W.heap.size W w') :
    Calls Tryz.prog 33 #[.slice (some ⟨b1, o1, none⟩) L.length c1, .slice (some ⟨b2, o2, none⟩) L.length c2] w fun e w' => e = .returned (.bool true) ∧ Below w.heap.size w w' := by
  have HA := Lib.hid h1
  have HB := Lib.hid h2
  have HIN := Lib.hid hin
  obtain ⟨n, hn⟩ : ∃ n, L.length = n := ⟨_, rfl⟩
  have HN := Lib.hid hn
  rw [hn]
  rw [hn] at hl
  clear h1 h2 hin hn
  go_enter Tryz.func33, Tryz.ntmps33
  go_wp2_with fail
  go_loopg [5] (n + 1) (fun gk iv wr => ∃ i : Nat, iv = .int .i64 (i : Int) ∧ gk + i ≤ n + 1 ∧ n + 1 ≤ gk + i ∧ i ≤ n ∧ Hid (Below w.heap.size w wr))
  case atStart => exact ⟨0, by go_num, by omega, by omega, by omega, Lib.hid (Below.refl _ _)⟩
  case round =>
    rename World => wr
    obtain ⟨i, rfl, hg1, hg2, hi, HBW⟩ := hrel
    obtain ⟨g, rfl⟩ : ∃ g, gk = g + 1 := ⟨gk - 1, by omega⟩
    have HGG := Lib.hid (And.intro hg1 hg2)
    clear hg1 hg2
    by_cases hin : i < n
    · have hil : i < L.length := by have := HN.out; omega
      obtain ⟨r0, ya, yn, yc, r1, hy⟩ := (XRow.below HA.out (fun _ _ h => CelSl.below h HBW.out) HBW.out) i hil
      obtain ⟨q0, za, zn, zc, q1, hz⟩ := (XRow.below HB.out (fun _ _ h => CelSl.below h HBW.out) HBW.out) i hil
      have HC : Hid (∀ W, Below wr.heap.size wr W → Calls Tryz.prog 20 #[.slice ya yn yc, .slice za zn zc] W fun e w' => e = .returned (.bool true) ∧ Below W.heap.size W w') := Lib.hid fun W hW => HIN.out i hil _ _ W (CelSl.below hy hW) (CelSl.below hz hW)
      clear hy hz
      have hi1 : (i : Int).toNat = i := by omega
      have hi2 : (0 : Int) ≤ (i : Int) := by omega
      have hi3 : (i : Int) < (n : Int) := by omega
      have hi4 : IntKind.i64.wrap ((i : Int) + 1) = ((i + 1 : Nat) : Int) := by rw [IntWalk.i64_in _ (by omega)]; omega
      generalize (⟨(L[i]'hil).1.toArray⟩ : ByteArray) = x at r0 q0
      clear hil
      have MK : Hid (∀ W, Below wr.heap.size wr W → W.cell? ⟨b1, o1 + i * 2, none⟩ = some (.string x) ∧ W.cell? ⟨b1, o1 + i * 2 + 1, none⟩ = some (.slice ya yn yc) ∧ W.cell? ⟨b2, o2 + i * 2, none⟩ = some (.string x) ∧ W.cell? ⟨b2, o2 + i * 2 + 1, none⟩ = some (.slice za zn zc) ∧ Below wr.heap.size wr W) := Lib.hid fun W hW => ⟨(hW.cell (p := ⟨b1, _, none⟩) (lt_of_cell r0)).trans r0, (hW.cell (p := ⟨b1, _, none⟩) (lt_of_cell r0)).trans r1, (hW.cell (p := ⟨b2, _, none⟩) (lt_of_cell q0)).trans q0, (hW.cell (p := ⟨b2, _, none⟩) (lt_of_cell q0)).trans q1, hW⟩
      go_wp2_with fail
      refine wp_region_held_drew (S := fun W => W.cell? ⟨b1, o1 + i * 2, none⟩ = some (.string x) ∧ W.cell? ⟨b1, o1 + i * 2 + 1, none⟩ = some (.slice ya yn yc) ∧ W.cell? ⟨b2, o2 + i * 2, none⟩ = some (.string x) ∧ W.cell? ⟨b2, o2 + i * 2 + 1, none⟩ = some (.slice za zn zc) ∧ Below wr.heap.size wr W) (by kernel_rfl) (MK.out _ ⟨rfl, rfl, rfl, Nat.le_refl _, fun _ _ => rfl⟩) (fun hHeld => ?_)
      refine tky 0 (some 17) (v := ?_) rfl (by kernel_rfl) (by kernel_rfl) (by kernel_rfl) (fun _ _ _ h => h) ?_ hHeld ?_
      rotate_left
      focus (intro w hSw; (try dsimp only at hSw); go_simp; (try with_reducible rfl); done)
      go_frame
      refine tky 1 (some 18) (v := ?_) rfl (by kernel_rfl) (by kernel_rfl) (by kernel_rfl) (fun _ _ _ h => h) ?_ hHeld ?_
      rotate_left
      focus (intro w hSw; (try dsimp only at hSw); go_simp; (try with_reducible rfl); done)
      go_frame
      refine tky 2 (some 19) (v := ?_) rfl (by kernel_rfl) (by kernel_rfl) (by kernel_rfl) (fun _ _ _ h => h) ?_ hHeld ?_
      rotate_left
      focus (intro w hSw; (try dsimp only at hSw); go_simp; (try with_reducible rfl); done)
      go_frame
      refine tky 3 (some 20) (v := ?_) rfl (by kernel_rfl) (by kernel_rfl) (by kernel_rfl) (fun _ _ _ h => h) ?_ hHeld ?_
      rotate_left
      focus (intro w hSw; (try dsimp only at hSw); go_simp; (try with_reducible rfl); done)
      go_frame
      refine tky 4 (some 21) (v := ?_) rfl (by kernel_rfl) (by kernel_rfl) (by kernel_rfl) (fun _ _ _ h => h) ?_ hHeld ?_
      rotate_left
      focus (intro w hSw; (try dsimp only at hSw); go_simp; (try with_reducible rfl); done)
      go_frame
      refine tky 5 (some 22) (v := ?_) rfl (by kernel_rfl) (by kernel_rfl) (by kernel_rfl) (fun _ _ _ h => h) ?_ hHeld ?_
      rotate_left
      focus (intro w hSw; (try dsimp only at hSw); go_simp; (try with_reducible rfl); done)
      go_frame
      refine tky 6 (some 23) (v := ?_) rfl (by kernel_rfl) (by kernel_rfl) (by kernel_rfl) (fun _ _ _ h => h) ?_ hHeld ?_
      rotate_left
      focus (intro w hSw; (try dsimp only at hSw); go_simp; (try with_reducible rfl); done)
      go_frame
      refine tky 7 (some 24) (v := ?_) rfl (by kernel_rfl) (by kernel_rfl) (by kernel_rfl) (fun _ _ _ h => h) ?_ hHeld ?_
      rotate_left
      focus (intro w hSw; (try dsimp only at hSw); go_simp; (try with_reducible rfl); done)
      go_frame
      refine tky 8 (some 25) (v := ?_) rfl (by kernel_rfl) (by kernel_rfl) (by kernel_rfl) (fun _ _ _ h => h) ?_ hHeld ?_
      rotate_left
      focus (intro w hSw; (try dsimp only at hSw); go_simp; (try with_reducible rfl); done)
      go_frame
      refine tky 9 (some 26) (v := ?_) rfl (by kernel_rfl) (by kernel_rfl) (by kernel_rfl) (fun _ _ _ h => h) ?_ hHeld ?_
      rotate_left
      focus (intro w hSw; (try dsimp only at hSw); go_simp; (try with_reducible rfl); done)
      go_frame
      refine tky 10 (some 27) (v := ?_) rfl (by kernel_rfl) (by kernel_rfl) (by kernel_rfl) (fun _ _ _ h => h) ?_ hHeld ?_
      rotate_left
      focus (intro w hSw; (try dsimp only at hSw); go_simp; (try with_reducible rfl); done)
      go_frame
      refine tky 11 (some 28) (v := ?_) rfl (by kernel_rfl) (by kernel_rfl) (by kernel_rfl) (fun _ _ _ h => h) ?_ hHeld ?_
      rotate_left
      focus (intro w hSw; (try dsimp only at hSw); go_simp; (try with_reducible rfl); done)
      go_frame
      refine tky 12 (some 29) (v := ?_) rfl (by kernel_rfl) (by kernel_rfl) (by kernel_rfl) (fun _ _ _ h => h) ?_ hHeld ?_
      rotate_left
      focus (intro w hSw; (try dsimp only at hSw); go_simp; (try with_reducible rfl); done)
      go_frame
      refine tky 13 (some 30) (v := ?_) rfl (by kernel_rfl) (by kernel_rfl) (by kernel_rfl) (fun _ _ _ h => h) ?_ hHeld ?_
      rotate_left
      focus (intro w hSw; (try dsimp only at hSw); go_simp; (try with_reducible rfl); done)
      go_frame
      refine tky 14 (some 31) (v := ?_) rfl (by kernel_rfl) (by kernel_rfl) (by kernel_rfl) (fun _ _ _ h => h) ?_ hHeld ?_
      rotate_left
      focus (intro w hSw; (try dsimp only at hSw); go_simp; (try with_reducible rfl); done)
      go_frame
      refine tky 15 (some 32) (v := ?_) rfl (by kernel_rfl) (by kernel_rfl) (by kernel_rfl) (fun _ _ _ h => h) ?_ hHeld ?_
      rotate_left
      focus (intro w hSw; (try dsimp only at hSw); go_simp; (try with_reducible rfl); done)
      go_frame
      refine tky 16 (some 33) (v := ?_) rfl (by kernel_rfl) (by kernel_rfl) (by kernel_rfl) (fun _ _ _ h => h) ?_ hHeld ?_
      rotate_left
      focus (intro w hSw; (try dsimp only at hSw); go_simp; (try with_reducible rfl); done)
      go_frame
      refine tky 17 (some 34) (v := ?_) rfl (by kernel_rfl) (by kernel_rfl) (by kernel_rfl) (fun _ _ _ h => h) ?_ hHeld ?_
      rotate_left
      focus (intro w hSw; (try dsimp only at hSw); go_simp; (try with_reducible rfl); done)
      go_frame
      refine tky 18 (some 35) (v := ?_) rfl (by kernel_rfl) (by kernel_rfl) (by kernel_rfl) (fun _ _ _ h => h) ?_ hHeld ?_
      rotate_left
      focus (intro w hSw; (try dsimp only at hSw); go_simp; (try with_reducible rfl); done)
      go_frame
      refine tky 19 (some 36) (v := ?_) rfl (by kernel_rfl) (by kernel_rfl) (by kernel_rfl) (fun _ _ _ h => h) ?_ hHeld ?_
      rotate_left
      focus (intro w hSw; (try dsimp only at hSw); go_simp; (try with_reducible rfl); done)
      go_frame
      refine tky 20 (some 37) (v := ?_) rfl (by kernel_rfl) (by kernel_rfl) (by kernel_rfl) (fun _ _ _ h => h) ?_ hHeld ?_
      rotate_left
      focus (intro w hSw; (try dsimp only at hSw); go_simp; (try with_reducible rfl); done)
      go_frame
      refine tky 21 (some 38) (v := ?_) rfl (by kernel_rfl) (by kernel_rfl) (by kernel_rfl) (fun _ _ _ h => h) ?_ hHeld ?_
      rotate_left
      focus (intro w hSw; (try dsimp only at hSw); go_simp; (try with_reducible rfl); done)
      go_frame
      refine rcons 22 rfl (by kernel_rfl) (fun K hK => ?_)
      go_simp
      refine (HC.out _ hHeld.2.2.2.2).mono ?_; rintro e w5 ⟨rfl, hb⟩
      (try dsimp only)
      refine hK.out _ _ (MK.out _ (hHeld.2.2.2.2.trans (hb.mono hHeld.2.2.2.2.size))) (fun hHeld2 => ?_)
      clear hK K hHeld
      have hHeld := hHeld2
      clear hHeld2
      (try go_frame)
      refine tky 23 (some 40) (v := ?_) rfl (by kernel_rfl) (by kernel_rfl) (by kernel_rfl) (fun _ _ _ h => h) ?_ hHeld ?_
      rotate_left
      focus (intro w hSw; (try dsimp only at hSw); go_simp; (try with_reducible rfl); done)
      go_frame
      refine tky 24 (some 41) (v := ?_) rfl (by kernel_rfl) (by kernel_rfl) (by kernel_rfl) (fun _ _ _ h => h) ?_ hHeld ?_
      rotate_left
      focus (intro w hSw; (try dsimp only at hSw); go_simp; (try with_reducible rfl); done)
      go_frame
      refine wpAnyH_done (by kernel_rfl) ?_ _
      have HB2 : Hid (Below w.heap.size w w5) := Lib.hid (HBW.out.trans (hHeld.2.2.2.2.mono HBW.out.size))
      clear r0 r1 q0 q1 hHeld hb
      obtain ⟨hg1, hg2⟩ := HGG.out
      go_wp2_with fail
      go_roundg g
      case measure => omega
      case rel => exact ⟨i + 1, rfl, by omega, by omega, by omega, HB2⟩
    · have hin2 : i = n := by omega
      subst hin2
      clear hin
      go_wp2_with fail
      go_ret
      exact ⟨ret_b (by simp), HBW.out⟩
theorem sameargs_none (a v : Option Addr) (c1 c2 : Nat) (w : World) :
    Calls Tryz.prog 33 #[.slice a 0 c1, .slice v 0 c2] w fun e w' => e = .returned (.bool true) ∧ Below w.heap.size w w' := by
  go_enter Tryz.func33, Tryz.ntmps33
  go_wp2_with fail
  refine wp_loop_rounds 1 ?_; rw [rounds_succ]
  go_wp2_with fail
  go_ret
  exact ⟨rfl, Below.refl _ _⟩
theorem sameargs_any (L : List (List UInt8 × List Cel)) (u v : Value) (hl : L.length ≤ 100000) (w : World) (h1 : XSl CelSl u L w) (h2 : XSl CelSl v L w)
    (hin : ∀ (i : Nat) (h : i < L.length) (u v : Value) (W : World), CelSl u L[i].2 W → CelSl v L[i].2 W → Calls Tryz.prog 20 #[u, v] W fun e w' => e = .returned (.bool true) ∧ Below W.heap.size W w') :
    Calls Tryz.prog 33 #[u, v] w fun e w' => e = .returned (.bool true) ∧ Below w.heap.size w w' := by
  rcases h1 with ⟨a1, c1, rfl, rfl⟩ | ⟨b1, o1, c1, rfl, h1, p1⟩
  · rcases h2 with ⟨a2, c2, rfl, _⟩ | ⟨b2, o2, c2, rfl, h2, p2⟩
    · exact sameargs_none a1 a2 c1 c2 w
    · simp at p2
  · rcases h2 with ⟨a2, c2, rfl, rfl⟩ | ⟨b2, o2, c2, rfl, h2, p2⟩
    · simp at p1
    · exact sameargs_row L b1 o1 c1 b2 o2 c2 hl w h1 h2 hin
set_option maxRecDepth 100000 in
set_option maxHeartbeats 4000000 in
theorem samedirs_row (L : List (List UInt8 × List (List UInt8 × List Cel))) (b1 o1 c1 b2 o2 c2 : Nat) (hl : L.length ≤ 100000) (w : World) (h1 : XRow ArgSl b1 o1 L w) (h2 : XRow ArgSl b2 o2 L w)
    (hin : ∀ (i : Nat) (h : i < L.length) (u v : Value) (W : World), ArgSl u L[i].2 W → ArgSl v L[i].2 W → Calls Tryz.prog 33 #[u, v] W fun e w' => e = .returned (.bool true) ∧ Below W.heap.size W w') :
    Calls Tryz.prog 28 #[.slice (some ⟨b1, o1, none⟩) L.length c1, .slice (some ⟨b2, o2, none⟩) L.length c2] w fun e w' => e = .returned (.bool true) ∧ Below w.heap.size w w' := by
  have HA := Lib.hid h1
  have HB := Lib.hid h2
  have HIN := Lib.hid hin
  obtain ⟨n, hn⟩ : ∃ n, L.length = n := ⟨_, rfl⟩
  have HN := Lib.hid hn
  rw [hn]
  rw [hn] at hl
  clear h1 h2 hin hn
  go_enter Tryz.func28, Tryz.ntmps28
  go_wp2_with fail
  go_loopg [5] (n + 1) (fun gk iv wr => ∃ i : Nat, iv = .int .i64 (i : Int) ∧ gk + i ≤ n + 1 ∧ n + 1 ≤ gk + i ∧ i ≤ n ∧ Hid (Below w.heap.size w wr))
  case atStart => exact ⟨0, by go_num, by omega, by omega, by omega, Lib.hid (Below.refl _ _)⟩
  case round =>
    rename World => wr
    obtain ⟨i, rfl, hg1, hg2, hi, HBW⟩ := hrel
    obtain ⟨g, rfl⟩ : ∃ g, gk = g + 1 := ⟨gk - 1, by omega⟩
    have HGG := Lib.hid (And.intro hg1 hg2)
    clear hg1 hg2
    by_cases hin : i < n
    · have hil : i < L.length := by have := HN.out; omega
      obtain ⟨r0, ya, yn, yc, r1, hy⟩ := (XRow.below HA.out (fun _ _ h => ArgSl.below h HBW.out) HBW.out) i hil
      obtain ⟨q0, za, zn, zc, q1, hz⟩ := (XRow.below HB.out (fun _ _ h => ArgSl.below h HBW.out) HBW.out) i hil
      have HC : Hid (∀ W, Below wr.heap.size wr W → Calls Tryz.prog 33 #[.slice ya yn yc, .slice za zn zc] W fun e w' => e = .returned (.bool true) ∧ Below W.heap.size W w') := Lib.hid fun W hW => HIN.out i hil _ _ W (ArgSl.below hy hW) (ArgSl.below hz hW)
      clear hy hz
      have hi1 : (i : Int).toNat = i := by omega
      have hi2 : (0 : Int) ≤ (i : Int) := by omega
      have hi3 : (i : Int) < (n : Int) := by omega
      have hi4 : IntKind.i64.wrap ((i : Int) + 1) = ((i + 1 : Nat) : Int) := by rw [IntWalk.i64_in _ (by omega)]; omega
      generalize (⟨(L[i]'hil).1.toArray⟩ : ByteArray) = x at r0 q0
      clear hil
      have MK : Hid (∀ W, Below wr.heap.size wr W → W.cell? ⟨b1, o1 + i * 2, none⟩ = some (.string x) ∧ W.cell? ⟨b1, o1 + i * 2 + 1, none⟩ = some (.slice ya yn yc) ∧ W.cell? ⟨b2, o2 + i * 2, none⟩ = some (.string x) ∧ W.cell? ⟨b2, o2 + i * 2 + 1, none⟩ = some (.slice za zn zc) ∧ Below wr.heap.size wr W) := Lib.hid fun W hW => ⟨(hW.cell (p := ⟨b1, _, none⟩) (lt_of_cell r0)).trans r0, (hW.cell (p := ⟨b1, _, none⟩) (lt_of_cell r0)).trans r1, (hW.cell (p := ⟨b2, _, none⟩) (lt_of_cell q0)).trans q0, (hW.cell (p := ⟨b2, _, none⟩) (lt_of_cell q0)).trans q1, hW⟩
      go_wp2_with fail
      refine wp_region_held_drew (S := fun W => W.cell? ⟨b1, o1 + i * 2, none⟩ = some (.string x) ∧ W.cell? ⟨b1, o1 + i * 2 + 1, none⟩ = some (.slice ya yn yc) ∧ W.cell? ⟨b2, o2 + i * 2, none⟩ = some (.string x) ∧ W.cell? ⟨b2, o2 + i * 2 + 1, none⟩ = some (.slice za zn zc) ∧ Below wr.heap.size wr W) (by kernel_rfl) (MK.out _ ⟨rfl, rfl, rfl, Nat.le_refl _, fun _ _ => rfl⟩) (fun hHeld => ?_)
      refine tky 0 (some 17) (v := ?_) rfl (by kernel_rfl) (by kernel_rfl) (by kernel_rfl) (fun _ _ _ h => h) ?_ hHeld ?_
      rotate_left
      focus (intro w hSw; (try dsimp only at hSw); go_simp; (try with_reducible rfl); done)
      go_frame
      refine tky 1 (some 18) (v := ?_) rfl (by kernel_rfl) (by kernel_rfl) (by kernel_rfl) (fun _ _ _ h => h) ?_ hHeld ?_
      rotate_left
      focus (intro w hSw; (try dsimp only at hSw); go_simp; (try with_reducible rfl); done)
      go_frame
      refine tky 2 (some 19) (v := ?_) rfl (by kernel_rfl) (by kernel_rfl) (by kernel_rfl) (fun _ _ _ h => h) ?_ hHeld ?_
      rotate_left
      focus (intro w hSw; (try dsimp only at hSw); go_simp; (try with_reducible rfl); done)
      go_frame
      refine tky 3 (some 20) (v := ?_) rfl (by kernel_rfl) (by kernel_rfl) (by kernel_rfl) (fun _ _ _ h => h) ?_ hHeld ?_
      rotate_left
      focus (intro w hSw; (try dsimp only at hSw); go_simp; (try with_reducible rfl); done)
      go_frame
      refine tky 4 (some 21) (v := ?_) rfl (by kernel_rfl) (by kernel_rfl) (by kernel_rfl) (fun _ _ _ h => h) ?_ hHeld ?_
      rotate_left
      focus (intro w hSw; (try dsimp only at hSw); go_simp; (try with_reducible rfl); done)
      go_frame
      refine tky 5 (some 22) (v := ?_) rfl (by kernel_rfl) (by kernel_rfl) (by kernel_rfl) (fun _ _ _ h => h) ?_ hHeld ?_
      rotate_left
      focus (intro w hSw; (try dsimp only at hSw); go_simp; (try with_reducible rfl); done)
      go_frame
      refine tky 6 (some 23) (v := ?_) rfl (by kernel_rfl) (by kernel_rfl) (by kernel_rfl) (fun _ _ _ h => h) ?_ hHeld ?_
      rotate_left
      focus (intro w hSw; (try dsimp only at hSw); go_simp; (try with_reducible rfl); done)
      go_frame
      refine tky 7 (some 24) (v := ?_) rfl (by kernel_rfl) (by kernel_rfl) (by kernel_rfl) (fun _ _ _ h => h) ?_ hHeld ?_
      rotate_left
      focus (intro w hSw; (try dsimp only at hSw); go_simp; (try with_reducible rfl); done)
      go_frame
      refine tky 8 (some 25) (v := ?_) rfl (by kernel_rfl) (by kernel_rfl) (by kernel_rfl) (fun _ _ _ h => h) ?_ hHeld ?_
      rotate_left
      focus (intro w hSw; (try dsimp only at hSw); go_simp; (try with_reducible rfl); done)
      go_frame
      refine tky 9 (some 26) (v := ?_) rfl (by kernel_rfl) (by kernel_rfl) (by kernel_rfl) (fun _ _ _ h => h) ?_ hHeld ?_
      rotate_left
      focus (intro w hSw; (try dsimp only at hSw); go_simp; (try with_reducible rfl); done)
      go_frame
      refine tky 10 (some 27) (v := ?_) rfl (by kernel_rfl) (by kernel_rfl) (by kernel_rfl) (fun _ _ _ h => h) ?_ hHeld ?_
      rotate_left
      focus (intro w hSw; (try dsimp only at hSw); go_simp; (try with_reducible rfl); done)
      go_frame
      refine tky 11 (some 28) (v := ?_) rfl (by kernel_rfl) (by kernel_rfl) (by kernel_rfl) (fun _ _ _ h => h) ?_ hHeld ?_
      rotate_left
      focus (intro w hSw; (try dsimp only at hSw); go_simp; (try with_reducible rfl); done)
      go_frame
      refine tky 12 (some 29) (v := ?_) rfl (by kernel_rfl) (by kernel_rfl) (by kernel_rfl) (fun _ _ _ h => h) ?_ hHeld ?_
      rotate_left
      focus (intro w hSw; (try dsimp only at hSw); go_simp; (try with_reducible rfl); done)
      go_frame
      refine tky 13 (some 30) (v := ?_) rfl (by kernel_rfl) (by kernel_rfl) (by kernel_rfl) (fun _ _ _ h => h) ?_ hHeld ?_
      rotate_left
      focus (intro w hSw; (try dsimp only at hSw); go_simp; (try with_reducible rfl); done)
      go_frame
      refine tky 14 (some 31) (v := ?_) rfl (by kernel_rfl) (by kernel_rfl) (by kernel_rfl) (fun _ _ _ h => h) ?_ hHeld ?_
      rotate_left
      focus (intro w hSw; (try dsimp only at hSw); go_simp; (try with_reducible rfl); done)
      go_frame
      refine tky 15 (some 32) (v := ?_) rfl (by kernel_rfl) (by kernel_rfl) (by kernel_rfl) (fun _ _ _ h => h) ?_ hHeld ?_
      rotate_left
      focus (intro w hSw; (try dsimp only at hSw); go_simp; (try with_reducible rfl); done)
      go_frame
      refine tky 16 (some 33) (v := ?_) rfl (by kernel_rfl) (by kernel_rfl) (by kernel_rfl) (fun _ _ _ h => h) ?_ hHeld ?_
      rotate_left
      focus (intro w hSw; (try dsimp only at hSw); go_simp; (try with_reducible rfl); done)
      go_frame
      refine tky 17 (some 34) (v := ?_) rfl (by kernel_rfl) (by kernel_rfl) (by kernel_rfl) (fun _ _ _ h => h) ?_ hHeld ?_
      rotate_left
      focus (intro w hSw; (try dsimp only at hSw); go_simp; (try with_reducible rfl); done)
      go_frame
      refine tky 18 (some 35) (v := ?_) rfl (by kernel_rfl) (by kernel_rfl) (by kernel_rfl) (fun _ _ _ h => h) ?_ hHeld ?_
      rotate_left
      focus (intro w hSw; (try dsimp only at hSw); go_simp; (try with_reducible rfl); done)
      go_frame
      refine tky 19 (some 36) (v := ?_) rfl (by kernel_rfl) (by kernel_rfl) (by kernel_rfl) (fun _ _ _ h => h) ?_ hHeld ?_
      rotate_left
      focus (intro w hSw; (try dsimp only at hSw); go_simp; (try with_reducible rfl); done)
      go_frame
      refine tky 20 (some 37) (v := ?_) rfl (by kernel_rfl) (by kernel_rfl) (by kernel_rfl) (fun _ _ _ h => h) ?_ hHeld ?_
      rotate_left
      focus (intro w hSw; (try dsimp only at hSw); go_simp; (try with_reducible rfl); done)
      go_frame
      refine tky 21 (some 38) (v := ?_) rfl (by kernel_rfl) (by kernel_rfl) (by kernel_rfl) (fun _ _ _ h => h) ?_ hHeld ?_
      rotate_left
      focus (intro w hSw; (try dsimp only at hSw); go_simp; (try with_reducible rfl); done)
      go_frame
      refine rcons 22 rfl (by kernel_rfl) (fun K hK => ?_)
      go_simp
      refine (HC.out _ hHeld.2.2.2.2).mono ?_; rintro e w5 ⟨rfl, hb⟩
      (try dsimp only)
      refine hK.out _ _ (MK.out _ (hHeld.2.2.2.2.trans (hb.mono hHeld.2.2.2.2.size))) (fun hHeld2 => ?_)
      clear hK K hHeld
      have hHeld := hHeld2
      clear hHeld2
      (try go_frame)
      refine tky 23 (some 40) (v := ?_) rfl (by kernel_rfl) (by kernel_rfl) (by kernel_rfl) (fun _ _ _ h => h) ?_ hHeld ?_
      rotate_left
      focus (intro w hSw; (try dsimp only at hSw); go_simp; (try with_reducible rfl); done)
      go_frame
      refine tky 24 (some 41) (v := ?_) rfl (by kernel_rfl) (by kernel_rfl) (by kernel_rfl) (fun _ _ _ h => h) ?_ hHeld ?_
      rotate_left
      focus (intro w hSw; (try dsimp only at hSw); go_simp; (try with_reducible rfl); done)
      go_frame
      refine wpAnyH_done (by kernel_rfl) ?_ _
      have HB2 : Hid (Below w.heap.size w w5) := Lib.hid (HBW.out.trans (hHeld.2.2.2.2.mono HBW.out.size))
      clear r0 r1 q0 q1 hHeld hb
      obtain ⟨hg1, hg2⟩ := HGG.out
      go_wp2_with fail
      go_roundg g
      case measure => omega
      case rel => exact ⟨i + 1, rfl, by omega, by omega, by omega, HB2⟩
    · have hin2 : i = n := by omega
      subst hin2
      clear hin
      go_wp2_with fail
      go_ret
      exact ⟨ret_b (by simp), HBW.out⟩
theorem samedirs_none (a v : Option Addr) (c1 c2 : Nat) (w : World) :
    Calls Tryz.prog 28 #[.slice a 0 c1, .slice v 0 c2] w fun e w' => e = .returned (.bool true) ∧ Below w.heap.size w w' := by
  go_enter Tryz.func28, Tryz.ntmps28
  go_wp2_with fail
  refine wp_loop_rounds 1 ?_; rw [rounds_succ]
  go_wp2_with fail
  go_ret
  exact ⟨rfl, Below.refl _ _⟩
theorem samedirs_any (L : List (List UInt8 × List (List UInt8 × List Cel))) (u v : Value) (hl : L.length ≤ 100000) (w : World) (h1 : XSl ArgSl u L w) (h2 : XSl ArgSl v L w)
    (hin : ∀ (i : Nat) (h : i < L.length) (u v : Value) (W : World), ArgSl u L[i].2 W → ArgSl v L[i].2 W → Calls Tryz.prog 33 #[u, v] W fun e w' => e = .returned (.bool true) ∧ Below W.heap.size W w') :
    Calls Tryz.prog 28 #[u, v] w fun e w' => e = .returned (.bool true) ∧ Below w.heap.size w w' := by
  rcases h1 with ⟨a1, c1, rfl, rfl⟩ | ⟨b1, o1, c1, rfl, h1, p1⟩
  · rcases h2 with ⟨a2, c2, rfl, _⟩ | ⟨b2, o2, c2, rfl, h2, p2⟩
    · exact samedirs_none a1 a2 c1 c2 w
    · simp at p2
  · rcases h2 with ⟨a2, c2, rfl, rfl⟩ | ⟨b2, o2, c2, rfl, h2, p2⟩
    · simp at p1
    · exact samedirs_row L b1 o1 c1 b2 o2 c2 hl w h1 h2 hin
theorem sameargs_self (L : List (List UInt8 × List Cel)) (hl : L.length ≤ 100000) (hc : ∀ (i : Nat) (h : i < L.length), L[i].2.length ≤ 100000) (u v : Value) (w : World) (h1 : ArgSl u L w) (h2 : ArgSl v L w) :
    Calls Tryz.prog 33 #[u, v] w fun e w' => e = .returned (.bool true) ∧ Below w.heap.size w w' := by
  refine sameargs_any L u v hl w h1 h2 fun i hi u v W hu hv => ?_
  have := rsame03_any L[i].2 L[i].2 u v (hc i hi) (hc i hi) W hu hv
  rw [(sameV_iff _ _).2 rfl] at this
  exact this
theorem samedirs_self (L : List (List UInt8 × List (List UInt8 × List Cel))) (hl : L.length ≤ 100000) (hc : ∀ (i : Nat) (h : i < L.length), L[i].2.length ≤ 100000 ∧ ∀ (j : Nat) (h : j < L[i].2.length), L[i].2[j].2.length ≤ 100000) (u v : Value) (w : World) (h1 : DirSl u L w) (h2 : DirSl v L w) :
    Calls Tryz.prog 28 #[u, v] w fun e w' => e = .returned (.bool true) ∧ Below w.heap.size w w' :=
  samedirs_any L u v hl w h1 h2 fun i hi u v W hu hv => sameargs_self L[i].2 (hc i hi).1 (hc i hi).2 u v W hu hv
end Go.Proofs.YtgaknbnhmoddcaaGreatDoor
namespace Go.Proofs.YtgaknbnhmoddcaaGreatDoor
open Go.RowKit
set_option maxRecDepth 100000 in
set_option maxHeartbeats 4000000 in
theorem lb_great (nm : ByteArray) (ta : Option Addr) (tn tc : Nat) (vu au du mu : Value) (w : World) (g1 g2 g3 g4 : Bool) (hgr : (g1 || decide ((300 : Int) < (nm.size : Int)) || decide ((20 : Int) < (tn : Int)) || g2 || g3 || g4) = true)
    (H0 : Hid (∀ W, Below w.heap.size w W → Calls Tryz.prog 29 #[] W fun e w' => e = .returned (.bool true) ∧ Below W.heap.size W w'))
    (HG1 : Hid (∀ W, Below w.heap.size w W → Calls Tryz.prog 7 #[vu, .int .i64 100] W fun e w' => e = .returned (.bool g1) ∧ W = w'))
    (HG2 : Hid (∀ W, Below w.heap.size w W → Calls Tryz.prog 8 #[au] W fun e w' => e = .returned (.bool g2) ∧ W = w'))
    (HG3 : Hid (∀ W, Below w.heap.size w W → Calls Tryz.prog 9 #[du] W fun e w' => e = .returned (.bool g3) ∧ W = w'))
    (HG4 : Hid (∀ W, Below w.heap.size w W → Calls Tryz.prog 31 #[mu] W fun e w' => e = .returned (.bool g4) ∧ W = w')) :
    Calls Tryz.prog 6 #[vu, .agg #[.string nm, .slice ta tn tc], au, du, mu] w fun e w' => e = .returned (.bool true) ∧ Below w.heap.size w w' := by
  have HGR := Lib.hid hgr
  clear hgr
  go_enter Tryz.func6, Tryz.ntmps6
  go_upto_region 1 with fail
  obtain ⟨w1, hw1⟩ : ∃ w1, w.alloc (.cells #[.string nm, .slice ta tn tc] 25 (0, 0)) = w1 := ⟨_, rfl⟩
  have HB1 : Hid (Below w.heap.size w w1) := Lib.hid (by rw [← hw1]; exact (Below.refl _ _).alloc (Nat.le_refl _) _)
  have HQ1 : Hid (w1.heap[w.heap.size]? = some (.cells #[.string nm, .slice ta tn tc] 25 (0, 0))) := Lib.hid (by rw [← hw1]; exact heap_new _ _ _ rfl)
  rw [hw1]
  clear hw1
  go_wp2_with fail
  refine (H0.out w1 HB1.out).mono ?_; rintro e w2 ⟨rfl, hb⟩
  have HB2 : Hid (Below w.heap.size w w2) := Lib.hid (HB1.out.trans (hb.mono HB1.out.size))
  have HQ2 := Lib.hid ((hb.block _ (heap_lt HQ1.out)).trans HQ1.out)
  clear hb HB1 HQ1
  obtain ⟨d0, d1, _, _⟩ := ref_cells HQ2.out
  cases g1 with
  | true =>
    go_wp2_with fail
    refine (HG1.out w2 HB2.out).mono ?_; rintro e w3 ⟨rfl, rfl⟩
    go_wp2_with fail
    go_ret
    exact ⟨rfl, HB2.out⟩
  | false =>
  by_cases hn : (300 : Int) < (nm.size : Int)
  · go_wp2_with fail
    refine (HG1.out w2 HB2.out).mono ?_; rintro e w3 ⟨rfl, rfl⟩
    go_wp2_with fail
    go_ret
    exact ⟨rfl, HB2.out⟩
  by_cases ht : (20 : Int) < (tn : Int)
  · go_wp2_with fail
    refine (HG1.out w2 HB2.out).mono ?_; rintro e w3 ⟨rfl, rfl⟩
    go_wp2_with fail
    go_ret
    exact ⟨rfl, HB2.out⟩
  cases g2 with
  | true =>
    go_wp2_with fail
    refine (HG1.out w2 HB2.out).mono ?_; rintro e w3 ⟨rfl, rfl⟩
    go_wp2_with fail
    refine (HG2.out w2 HB2.out).mono ?_; rintro e w3 ⟨rfl, rfl⟩
    go_wp2_with fail
    go_ret
    exact ⟨rfl, HB2.out⟩
  | false =>
  cases g3 with
  | true =>
    go_wp2_with fail
    refine (HG1.out w2 HB2.out).mono ?_; rintro e w3 ⟨rfl, rfl⟩
    go_wp2_with fail
    refine (HG2.out w2 HB2.out).mono ?_; rintro e w3 ⟨rfl, rfl⟩
    go_wp2_with fail
    refine (HG3.out w2 HB2.out).mono ?_; rintro e w3 ⟨rfl, rfl⟩
    go_wp2_with fail
    go_ret
    exact ⟨rfl, HB2.out⟩
  | false =>
  cases g4 with
  | true =>
    go_wp2_with fail
    refine (HG1.out w2 HB2.out).mono ?_; rintro e w3 ⟨rfl, rfl⟩
    go_wp2_with fail
    refine (HG2.out w2 HB2.out).mono ?_; rintro e w3 ⟨rfl, rfl⟩
    go_wp2_with fail
    refine (HG3.out w2 HB2.out).mono ?_; rintro e w3 ⟨rfl, rfl⟩
    go_wp2_with fail
    refine (HG4.out w2 HB2.out).mono ?_; rintro e w3 ⟨rfl, rfl⟩
    go_wp2_with fail
    go_ret
    exact ⟨rfl, HB2.out⟩
  | false =>
    have := HGR.out
    rw [decide_eq_false hn, decide_eq_false ht] at this
    cases this
theorem xsl_form {α : Type} {Sl : Value → α → World → Prop} {u : Value} {L : List (List UInt8 × α)} {w : World} (h : XSl Sl u L w) : ∃ a n c, u = .slice a n c := by
  rcases h with ⟨a, c, e, _⟩ | ⟨b, off, c, e, _⟩
  · exact ⟨_, _, _, e⟩
  · exact ⟨_, _, _, e⟩
theorem toksl_len {u : Value} {L : List Tok} {w : World} (h : TokSl u L w) : ∃ a c, u = .slice a L.length c := by
  rcases h with ⟨a, c, e, h2, _⟩ | ⟨b, off, c, e, _⟩
  · exact ⟨_, _, by rw [e, h2]; rfl⟩
  · exact ⟨_, _, e⟩
theorem goB_nogo {M M2 : List Tok} (h : M2 = if goB M then [] else M) : NoGo [33] M2 ∧ NoGo [40] M2 ∧ NoGo [64] M2 := by
  cases hg : goB M with
  | true =>
    rw [hg, if_pos rfl] at h
    rw [h]
    exact ⟨fun t r h => (by cases h), fun t r h => (by cases h), fun t r h => (by cases h)⟩
  | false =>
    rw [hg, if_neg (by decide)] at h
    rw [h]
    have key : ∀ t r, M = t :: r → t.kind ≠ 4 ∨ (t.text ≠ [33] ∧ t.text ≠ [40] ∧ t.text ≠ [64]) := by
      intro t r e
      subst e
      unfold goB at hg
      simp only [Bool.and_eq_false_iff, Bool.or_eq_false_iff, beq_eq_false_iff_ne] at hg
      rcases hg with hg | hg
      · exact Or.inl hg
      · exact Or.inr ⟨hg.1.1, hg.1.2, hg.2⟩
    refine ⟨fun t r h => ?_, fun t r h => ?_, fun t r h => ?_⟩
    · rcases key t r h with h | h
      · exact Or.inl h
      · exact Or.inr h.1
    · rcases key t r h with h | h
      · exact Or.inl h
      · exact Or.inr h.2.1
    · rcases key t r h with h | h
      · exact Or.inl h
      · exact Or.inr h.2.2
theorem nogo_behind {s : List UInt8} {M : List Tok} (h : NoGo s M) (t0 : Tok) (h0 : t0.kind ≠ 4) : NoGo s (M ++ [t0]) := by
  cases M with
  | nil => intro t r e; injection e with e _; subst e; exact Or.inl h0
  | cons x r => intro t r' e; injection e with e _; subst e; exact h x r rfl
theorem args_sm {A : List (List UInt8 × List Cel)} (hA : ArgB A) (hg : greatAB A = false) : ArgsSm A ∧ roomA A ≤ 5000 ∧ A.length ≤ 20 ∧ (∀ x ∈ A, x.1.length ≤ 100000 ∧ CelS x.2 ∧ NumB x.2 ∧ x.2.length ≤ 60) := by
  obtain ⟨h1, h2⟩ := greatAB_parts hg
  have key : ∀ x ∈ A, x.1.length ≤ 300 ∧ x.2.length ≤ 60 ∧ ∀ c ∈ x.2, c.name.length ≤ 300 ∧ c.text.length ≤ 3000 ∧ R c.num ∧ R c.many := fun x hx => by
    obtain ⟨p1, p2⟩ := greatV_parts (h2 x hx).1
    refine ⟨(h2 x hx).2, p1, fun c hc => ?_⟩
    obtain ⟨q1, q2⟩ := p2 c hc
    obtain ⟨_, _, q3, q4⟩ := (hA.2 x hx).2.2 c hc
    exact ⟨q1, q2, q3, q4⟩
  refine ⟨⟨by omega, fun x hx => ?_⟩, ?_, h1, fun x hx => ?_⟩
  · obtain ⟨k1, k2, k3⟩ := key x hx
    refine ⟨by omega, by omega, fun c hc => ?_⟩
    obtain ⟨m1, m2, m3, m4⟩ := k3 c hc
    exact ⟨by omega, by omega, m3, m4⟩
  · have := roomA_le A fun x hx => (key x hx).2.1
    omega
  · obtain ⟨k1, k2, k3⟩ := key x hx
    refine ⟨by omega, fun c hc => ?_, fun c hc => ?_, k2⟩
    · obtain ⟨m1, m2, m3, m4⟩ := k3 c hc
      exact ⟨by omega, by omega, m3⟩
    · obtain ⟨m1, m2, m3, m4⟩ := k3 c hc
      exact ⟨m3.1, m3.2⟩
end Go.Proofs.YtgaknbnhmoddcaaGreatDoor
namespace Go.Proofs.YtgaknbnhmoddcaaGreatDoor
open Go.RowKit
theorem treadq_any (s : ByteArray) (h0 : 0 < s.size) (hs : s.size ≤ 17000) (hnq : (34 : UInt8) ∉ s.data.toList) (w : World) :
    Calls Tryz.prog 203 #[.agg #[], .string s] w fun e w' => e = .returned (tellX 3 (txtT s.data.toList)) ∧ Below w.heap.size w w' := by
  have hd := head_z s h0
  have hq : s[0] ≠ 34 := fun e => hnq (by rw [hd, e]; simp)
  rw [hd, txt_quote _ _ hq]
  exact txt_no s h0 hs hq w
set_option maxRecDepth 100000 in
set_option maxHeartbeats 8000000 in
theorem lexq_go (s : ByteArray) (hs : s.size ≤ 16384) (hnq : (34 : UInt8) ∉ s.data.toList) (w : World) (hE : EnvU w) (HC : Hid (Calls Tryz.prog 49 #[.string s] w fun e w' => e = .returned (.int .i64 0) ∧ Below w.heap.size w w')) (R : Except (Int × Nat) (List Tok)) (HR : Hid (lexG 1024 0 s.data.toList [] = R)) :
    Calls Tryz.prog 21 #[.string s] w fun e w' => LexE w.heap.size R e w' ∧ Below w.heap.size w w' := by
  obtain ⟨l, hl⟩ : ∃ l, s.data.toList = l := ⟨_, rfl⟩
  rw [hl] at HR
  have hll := len_z s
  rw [hl] at hll
  have HLL := Lib.hid hll
  have HL := Lib.hid hl
  have HNQ : Hid ((34 : UInt8) ∉ l) := Lib.hid (by rw [← hl]; exact hnq)
  clear hnq
  have HSK := Lib.hid (fun (u : ByteArray) (hu : u.size ≤ 1000000) (W : World) (h : Below w.heap.size w W) => skip_any u hu W (hE.below h))
  have HT2 := Lib.hid (fun (u : ByteArray) (h0 : 0 < u.size) (hu : u.size ≤ 17000) (hq : (34 : UInt8) ∉ u.data.toList) (W : World) (h : Below w.heap.size w W) => treadq_any u h0 hu hq W)
  clear hE hl hll
  go_enter Tryz.func21, Tryz.ntmps21
  go_wp2_with fail
  go_step3
  go_wp2_with fail
  refine HC.out.mono ?_; rintro e w1 ⟨rfl, hb⟩
  have HB1 := Lib.hid hb
  clear hb
  go_wp2_with fail
  go_step3
  go_wp2_with fail
  obtain ⟨F, hF⟩ : ∃ F, w1.heap.size = F := ⟨_, rfl⟩
  have hx0 : LX w F 0 (.slice none 0 0) [] ((w1.alloc (.cells #[.int .i32 0] 96)).alloc (.cells #[.iface 97 (.agg #[]), .iface 98 (.agg #[]), .iface 99 (.agg #[]), .iface 100 (.agg #[])] 106)) :=
    ⟨heap_old (heap_new _ _ _ hF.symm), heap_new _ _ _ (by simp [hF]), OwnT.nil _ _, HB1.out.trans (((Below.refl _ _).alloc (Nat.le_refl _) _).alloc (by simp) _ |>.mono HB1.out.size), by rw [← hF]; exact HB1.out.size⟩
  have HX0 := Lib.hid hx0
  rw [hF]
  clear hx0 hF
  go_loopg [2, 3] s.size (fun g v2 v3 wx => ∃ (f at_ : Nat) (L : List Tok), v3 = .int .i64 at_ ∧ at_ + g = s.size ∧ f ≤ 1024 ∧ Hid (L.length ≤ f) ∧ Hid (lexG (1024 - f) at_ (l.drop at_) L = R) ∧ Hid (LX w F f v2 L wx))
  case atStart => exact ⟨0, 0, [], rfl, by omega, by omega, Lib.hid (Nat.zero_le _), Lib.hid (by rw [List.drop_zero]; exact HR.out), HX0⟩
  case round =>
    rename World => wo
    obtain ⟨v2, rfl⟩ : ∃ v2, v2 = u2 := ⟨_, rfl⟩
    generalize gk = g0 at *
    obtain ⟨f, at_, L, rfl, hag, hf, HLN, HG, HX⟩ := hrel
    obtain ⟨u, hu⟩ : ∃ u, s.extract at_ s.size = u := ⟨_, rfl⟩
    have hul : u.data.toList = l.drop at_ := by rw [← hu, extract_drop, HL.out]
    have huz : u.size = s.size - at_ := by
      have := len_z u
      rw [hul, List.length_drop, HLL.out] at this; omega
    have hu6 : u.size ≤ 1000000 := by omega
    have HS1 := Lib.hid (HSK.out u hu6 wo HX.out.bel)
    rw [hul] at HS1
    obtain ⟨sd1, sd2⟩ := skip_drop (l.drop at_)
    obtain ⟨l1, hl1⟩ : ∃ l1, (skip0 (l.drop at_)).1 = l1 := ⟨_, rfl⟩
    obtain ⟨ok, hok⟩ : ∃ ok, (skip0 (l.drop at_)).2 = ok := ⟨_, rfl⟩
    rw [hl1] at sd1 sd2
    have hdl : (l.drop at_).length = u.size := by rw [← hul, len_z]
    rw [hdl] at sd1 sd2
    obtain ⟨m1, hm1⟩ : ∃ m1, u.size - l1.length = m1 := ⟨_, rfl⟩
    rw [hl1, hok, hm1] at HS1
    rw [hm1, List.drop_drop] at sd1
    have hm2 : m1 ≤ u.size := by omega
    have HDL := Lib.hid hdl
    have HM1 := Lib.hid hm1
    have HL1 := Lib.hid hl1
    have HOK := Lib.hid hok
    have HD1 := Lib.hid sd1
    have hle1 : at_ + m1 ≤ s.size := by omega
    have hl1z : l1.length = s.size - (at_ + m1) := by omega
    have HL1Z := Lib.hid hl1z
    have hat : (at_ : Int) ≤ (s.size : Int) := by omega
    clear hul huz hdl sd1 sd2 hl1 hm1 hok hl1z
    cases ok with
    | false =>
      have F1 : Hid (R = .error (170, at_ + m1)) := Lib.hid (by
        rw [← HG.out, lex_bad _ _ _ _ HOK.out, HL1.out, HDL.out, HM1.out])
      go_wp2_with fail
      refine HS1.out.mono ?_; rintro e w2 ⟨rfl, hb⟩
      have HX2 := Lib.hid (HX.out.below hb)
      clear hb
      go_wp2_with fail
      (try rw [Exit.noGoto_ret])
      go_ret3
      exact ⟨LexE.err F1.out (by omega), HX2.out.bel⟩
    | true =>
      by_cases hend : at_ + m1 = s.size
      · have F1 : Hid (R = .ok (L ++ [⟨0, [], ((at_ + m1 : Nat) : Int)⟩])) := Lib.hid (by
          have hl0 : l1 = [] := List.length_eq_zero_iff.1 (by rw [HL1Z.out]; omega)
          have := lex_done (1024 - f) at_ (l.drop at_) L HOK.out (by rw [HL1.out, hl0])
          rw [← HG.out, this, HL1.out, HDL.out, HM1.out])
        have hendi : (at_ : Int) + (m1 : Int) = (s.size : Int) := by omega
        go_wp2_with fail
        refine HS1.out.mono ?_; rintro e w2 ⟨rfl, hb⟩
        have HX2 := Lib.hid (HX.out.below hb)
        clear hb
        go_wp2_with (at_builtin; refine wpList_appT rfl _ _ rfl (F + 2) v2 (.slice (some ⟨w2.heap.size, 0, none⟩) 1 1) L [⟨0, [], (s.size : Int)⟩] rfl (HX2.out.own.below ((Below.refl _ _).alloc (Nat.le_refl _) _)) rfl (tok_new w2 0 [] (s.size : Int)) ?c1 ?c2 ?_)
        case c1 => have := HLN.out; simp; omega
        case c2 => have := HX2.out.lt; simp; omega
        intro v' w3 hown hg
        have HX3 := Lib.hid ((HX2.out.below ((Below.refl _ _).alloc (Nat.le_refl _) _)).grown hown hg)
        clear hown hg
        go_wp2_with fail
        (try rw [Exit.noGoto_ret])
        go_ret3
        refine ⟨?_, HX3.out.bel⟩
        rw [F1.out]
        exact ⟨v', rfl, by rw [show ((at_ + m1 : Nat) : Int) = (s.size : Int) from by omega]; exact HX3.out.own.less (by have := HX3.out.le; omega)⟩
      · have hendi : ¬ ((at_ : Int) + (m1 : Int) = (s.size : Int)) := by omega
        have hne : Hid (l1 ≠ []) := Lib.hid (fun e => by have := HL1Z.out; rw [e] at this; simp at this; omega)
        by_cases hful : f = 1024
        · subst hful
          have F1 : Hid (R = .error (171, at_ + m1)) := Lib.hid (by
            rw [← HG.out, Nat.sub_self, lex_fuel _ _ _ HOK.out (by rw [HL1.out]; exact hne.out), HL1.out, HDL.out, HM1.out])
          go_wp2_with fail
          refine HS1.out.mono ?_; rintro e w2 ⟨rfl, hb⟩
          have HX2 := Lib.hid (HX.out.below hb)
          clear hb
          go_wp2_with fail
          refine (add_any F 1024 (by decide) w2 HX2.out.hf).mono ?_; rintro e w3 ⟨rfl, rfl⟩
          go_wp2_with fail
          (try rw [Exit.noGoto_ret])
          go_ret3
          exact ⟨LexE.err F1.out (by omega), HX2.out.fuel.bel⟩
        · have hf1 : f < 1024 := by omega
          have hfi : ¬ (1024 : Int) < (f : Int) + 1 := by omega
          obtain ⟨A, hA⟩ : ∃ A, at_ + m1 = A := ⟨_, rfl⟩
          have hAi : (at_ : Int) + (m1 : Int) = (A : Int) := by omega
          rw [hA] at HD1 HL1Z hle1
          have hsA : (A : Int) ≠ (s.size : Int) := by omega
          go_wp2_with fail
          refine HS1.out.mono ?_; rintro e w2 ⟨rfl, hb⟩
          have HX2 := Lib.hid (HX.out.below hb)
          clear hb
          go_wp2_with fail
          refine (add_any F f (by omega) w2 HX2.out.hf).mono ?_; rintro e w3 ⟨rfl, hw3⟩
          have HX3 : Hid (LX w F (f + 1) v2 L w3) := Lib.hid (by rw [hw3]; exact HX2.out.fuel)
          clear hw3
          obtain ⟨u2, hu2⟩ : ∃ u2, s.extract A s.size = u2 := ⟨_, rfl⟩
          have hu2l : u2.data.toList = l1 := by rw [← hu2, extract_drop, HL.out, HD1.out]
          have hu2z : u2.size = s.size - A := by
            have := len_z u2
            rw [hu2l, HL1Z.out] at this; omega
          have hu20 : 0 < u2.size := by omega
          have RD0 := Lib.hid (fun W => nread_any u2 (by omega) W)
          have RD1 := Lib.hid (fun W => numread_any u2 (by omega) W)
          have RD2 := Lib.hid (fun W h => HT2.out u2 hu20 (by omega) (by rw [← hu2, extract_drop, HL.out]; exact fun hm => HNQ.out (List.mem_of_mem_drop hm)) W h)
          have RD3 := Lib.hid (fun W => pread17_any u2 hu20 (by omega) W)
          rw [hu2l, tell_rd] at RD0 RD1 RD3
          rw [hu2l, tell_rx] at RD2
          have HU2Z := Lib.hid hu2z
          clear hu2l hu2z hu20
          go_wp2_with fail
          rename World => w3
          generalize hwo : w3 = wz at *
          go_loopg [2, 3, 58] 4 (fun g s2 s3 s58 wx => ∃ jj : Nat, s58 = .int .i64 jj ∧ jj + g = 4 ∧ s2 = v2 ∧ s3 = .int .i64 A ∧ Hid (∀ i, i < jj → rdT i l1 = none) ∧ Hid (LX w F (f + 1) v2 L wx))
          case atStart => exact ⟨0, rfl, rfl, rfl, rfl, Lib.hid (fun i h => absurd h (Nat.not_lt_zero _)), HX3⟩
          case round =>
            rename World => wq
            obtain ⟨jj, rfl, hjg, hs2, rfl, HPR, HXQ⟩ := hrel
            obtain rfl := hs2
            obtain ⟨v2, rfl⟩ : ∃ v2, v2 = u2 := ⟨_, rfl⟩
            rcases (show jj = 4 ∨ jj = 0 ∨ jj = 1 ∨ jj = 2 ∨ jj = 3 from by omega) with hj | hj | hj | hj | hj
            · obtain rfl : jj = 4 := hj
              have F1 : Hid (R = .error (170, A)) := Lib.hid (by
                have hn : tokG l1 = none := by rw [tok_rd, HPR.out 0 (by omega), HPR.out 1 (by omega), HPR.out 2 (by omega), HPR.out 3 (by omega)]; rfl
                have := lex_none (1023 - f) at_ (l.drop at_) L HOK.out (by rw [HL1.out]; exact hne.out) (by rw [HL1.out]; exact hn)
                rw [← HG.out, show 1024 - f = 1023 - f + 1 from by omega, this, HL1.out, HDL.out, HM1.out, hA])
              go_wp2_with fail
              (try rw [Exit.noGoto_ret])
              go_ret3
              exact ⟨LexE.err F1.out rfl, HXQ.out.bel⟩
            · obtain rfl : jj = 0 := hj
              have cq0 : wq.cell? ⟨F + 1, 0, none⟩ = some (.iface 97 (.agg #[])) := Lib.cell_of_heap HXQ.out.ha 0
              obtain ⟨kv, xs, nn, hform, hcase⟩ := rd_form 0 l1
              have HRD := RD0
              rw [show tellY ((nameT l1).map fun a => (1, a, a.length)) = tellY (rdT 0 l1) from rfl, hform] at HRD
              have HCASE := Lib.hid hcase
              have hAle : (A : Int) ≤ (s.size : Int) := by omega
              clear hform hcase
              have hnil := fun w => nil_0 382 w
              have hmeth := fun w => meth_0 382 w
              go_upto_region 17 with fail
              go_cut [12, 13] (fun s12 s13 wx => ∃ b, s12 = .pointer (some ⟨b, 0, none⟩) ∧ s13 = .int .i64 nn ∧ Hid (LY w F (f + 1) v2 L b #[.int .u8 kv, .string xs, .int .i64 0] wx))
              case first =>
                refine wp_region_held_drew (S := fun _ => True) (by kernel_rfl) trivial (fun hHeld => ?_)
                refine tky 0 (some 63) (v := ?_) rfl (by kernel_rfl) (by kernel_rfl) (by kernel_rfl) (fun _ _ _ h => h) ?_ hHeld ?_
                rotate_left
                focus (intro w hSw; go_simp; (try with_reducible rfl); done)
                go_frame
                refine tky 1 (some 64) (v := ?_) rfl (by kernel_rfl) (by kernel_rfl) (by kernel_rfl) (fun _ _ _ h => h) ?_ hHeld ?_
                rotate_left
                focus (intro w hSw; go_simp; (try with_reducible rfl); done)
                go_frame
                refine tky 2 (some 65) (v := ?_) rfl (by kernel_rfl) (by kernel_rfl) (by kernel_rfl) (fun _ _ _ h => h) ?_ hHeld ?_
                rotate_left
                focus (intro w hSw; go_simp; (try with_reducible rfl); done)
                go_frame
                refine tky 3 (some 66) (v := ?_) rfl (by kernel_rfl) (by kernel_rfl) (by kernel_rfl) (fun _ _ _ h => h) ?_ hHeld ?_
                rotate_left
                focus (intro w hSw; go_simp; (try with_reducible rfl); done)
                go_frame
                refine tky 4 (some 67) (v := ?_) rfl (by kernel_rfl) (by kernel_rfl) (by kernel_rfl) (fun _ _ _ h => h) ?_ hHeld ?_
                rotate_left
                focus (intro w hSw; go_simp; (try with_reducible rfl); done)
                go_frame
                refine tky 5 (some 68) (v := ?_) rfl (by kernel_rfl) (by kernel_rfl) (by kernel_rfl) (fun _ _ _ h => h) ?_ hHeld ?_
                rotate_left
                focus (intro w hSw; go_simp; (try with_reducible rfl); done)
                go_frame
                refine tky 6 (some 69) (v := ?_) rfl (by kernel_rfl) (by kernel_rfl) (by kernel_rfl) (fun _ _ _ h => h) ?_ hHeld ?_
                rotate_left
                focus (intro w hSw; go_simp; (try with_reducible rfl); done)
                go_frame
                refine wpAnyH_ready (rs := [7, 11]) (by kernel_rfl) (by simp) ?_
                refine acons 7 rfl (fun K hK => ?_) ?_
                · go_simp
                  ((with_reducible refine (HRD.out _).mono ?_); rintro e w5 ⟨rfl, hb5⟩)
                  (try dsimp only)
                  refine hK.out _ _ trivial (fun _ => ?_)
                  clear hK K
                  (try go_frame)
                  (try (have hh5 := (hb5.block _ (by simp)).trans (heap_alloc_new _ _); obtain ⟨⟨c0, c1, c2⟩, ⟨g0, g1, g2⟩, hz5⟩ := tcellsL hh5))
                  refine tky 8 (some 62) (v := ?_) rfl (by kernel_rfl) (by kernel_rfl) (by kernel_rfl) (fun _ _ _ h => h) ?_ hHeld ?_
                  rotate_left
                  focus (intro w hSw; go_simp; (try with_reducible rfl); done)
                  go_frame
                  refine tky 9 (some 71) (v := ?_) rfl (by kernel_rfl) (by kernel_rfl) (by kernel_rfl) (fun _ _ _ h => h) ?_ hHeld ?_
                  rotate_left
                  focus (intro w hSw; go_simp; (try with_reducible rfl); done)
                  go_frame
                  refine tky 10 (some 72) (v := ?_) rfl (by kernel_rfl) (by kernel_rfl) (by kernel_rfl) (fun _ _ _ h => h) ?_ hHeld ?_
                  rotate_left
                  focus (intro w hSw; go_simp; (try with_reducible rfl); done)
                  go_frame
                  refine rcons 11 rfl (by kernel_rfl) (fun K hK => ?_)
                  go_simp
                  refine hK.out _ _ trivial (fun _ => ?_)
                  clear hK K
                  (try go_frame)
                  refine rcons 12 rfl (by kernel_rfl) (fun K hK => ?_)
                  go_simp
                  refine hK.out _ _ trivial (fun _ => ?_)
                  clear hK K
                  (try go_frame)
                  refine tky 13 (some 13) (v := ?_) rfl (by kernel_rfl) (by kernel_rfl) (by kernel_rfl) (fun _ _ _ h => h) ?_ hHeld ?_
                  rotate_left
                  focus (intro w hSw; go_simp; (try with_reducible rfl); done)
                  go_frame
                  refine wpAnyH_done (by kernel_rfl) ?_ _
                  go_wp2_with fail
                  go_meet
                  first | exact ⟨_, rfl, rfl, Lib.hid (LY.new1 HXQ.out hb5 _ _ _)⟩ | exact ⟨_, rfl, rfl, Lib.hid (LY.new2 HXQ.out hb5 _ _ _ hh5 _ _ _)⟩
                refine acons 11 rfl (fun K hK => ?_) ?_
                · go_simp
                  refine hK.out _ _ trivial (fun _ => ?_)
                  clear hK K
                  (try go_frame)
                  refine rcons 7 rfl (by kernel_rfl) (fun K hK => ?_)
                  go_simp
                  ((with_reducible refine (HRD.out _).mono ?_); rintro e w5 ⟨rfl, hb5⟩)
                  (try dsimp only)
                  refine hK.out _ _ trivial (fun _ => ?_)
                  clear hK K
                  (try go_frame)
                  (try (have hh5 := (hb5.block _ (by simp)).trans (heap_alloc_new _ _); obtain ⟨⟨c0, c1, c2⟩, ⟨g0, g1, g2⟩, hz5⟩ := tcellsL hh5))
                  refine tky 8 (some 62) (v := ?_) rfl (by kernel_rfl) (by kernel_rfl) (by kernel_rfl) (fun _ _ _ h => h) ?_ hHeld ?_
                  rotate_left
                  focus (intro w hSw; go_simp; (try with_reducible rfl); done)
                  go_frame
                  refine tky 9 (some 71) (v := ?_) rfl (by kernel_rfl) (by kernel_rfl) (by kernel_rfl) (fun _ _ _ h => h) ?_ hHeld ?_
                  rotate_left
                  focus (intro w hSw; go_simp; (try with_reducible rfl); done)
                  go_frame
                  refine tky 10 (some 72) (v := ?_) rfl (by kernel_rfl) (by kernel_rfl) (by kernel_rfl) (fun _ _ _ h => h) ?_ hHeld ?_
                  rotate_left
                  focus (intro w hSw; go_simp; (try with_reducible rfl); done)
                  go_frame
                  refine rcons 12 rfl (by kernel_rfl) (fun K hK => ?_)
                  go_simp
                  refine hK.out _ _ trivial (fun _ => ?_)
                  clear hK K
                  (try go_frame)
                  refine tky 13 (some 13) (v := ?_) rfl (by kernel_rfl) (by kernel_rfl) (by kernel_rfl) (fun _ _ _ h => h) ?_ hHeld ?_
                  rotate_left
                  focus (intro w hSw; go_simp; (try with_reducible rfl); done)
                  go_frame
                  refine wpAnyH_done (by kernel_rfl) ?_ _
                  go_wp2_with fail
                  go_meet
                  first | exact ⟨_, rfl, rfl, Lib.hid (LY.new1 HXQ.out hb5 _ _ _)⟩ | exact ⟨_, rfl, rfl, Lib.hid (LY.new2 HXQ.out hb5 _ _ _ hh5 _ _ _)⟩
                exact AllReadyH.nil
              case rest =>
                clear cq0 hnil hmeth HRD
                rename World => wy
                obtain ⟨b, rfl, rfl, HY⟩ := hcut
                rcases HCASE.out with ⟨hno, hn0⟩ | ⟨k, a, m, hso, hkv, hxs, hnn⟩
                · have HPR2 : Hid (∀ i, i < 0 + 1 → rdT i l1 = none) := Lib.hid (fun i hi => by
                    by_cases h : i = 0
                    · rw [h]; exact hno
                    · exact HPR.out i (by omega))
                  subst hn0
                  clear hno
                  go_wp2_with fail
                  go_roundg 3
                  case measure => omega
                  case rel => exact ⟨0 + 1, rfl, by omega, rfl, rfl, HPR2, Lib.hid HY.out.x⟩
                · subst hkv hxs hnn
                  obtain ⟨ht, hm0, hml⟩ := rd_pos 0 l1 (by have := HL1Z.out; omega) HPR.out (by omega) k a m hso
                  rw [HL1Z.out] at hml
                  have HLEX : Hid (lexG (1024 - (f + 1)) (A + m) (l.drop (A + m)) (L ++ [⟨k, a, (A : Int)⟩]) = R) := Lib.hid (by
                    have := lex_some (1023 - f) at_ (l.drop at_) L k a m HOK.out (by rw [HL1.out]; exact hne.out) (by rw [HL1.out]; exact ht)
                    rw [HL1.out, HDL.out, HM1.out, hA, HD1.out, List.drop_drop] at this
                    rw [← HG.out, show 1024 - f = 1023 - f + 1 from by omega, this, show 1024 - (f + 1) = 1023 - f from by omega])
                  have hmi : (0 : Int) < (m : Int) := by omega
                  have hAm : A + m ≤ s.size := by omega
                  obtain ⟨aa, haa⟩ : ∃ aa : ByteArray, (⟨a.toArray⟩ : ByteArray) = aa := ⟨_, rfl⟩
                  have HTN := Lib.hid (fun (W : World) (n : Nat) (hn : n = W.heap.size) => tok_newn n W hn k a (A : Int))
                  rw [haa] at HTN HY
                  obtain ⟨⟨c0, c1, c2⟩, ⟨g0_, g1, g2⟩, hz⟩ := tcellsL HY.out.ht
                  have hy2 := pset (i := 2) HY.out.ht (.int .i64 (A : Int)) rfl
                  obtain ⟨⟨d0, d1, d2⟩, ⟨q0, q1, q2⟩, hzz⟩ := tcellsL hy2
                  have HX5 : Hid (LX w F (f + 1) v2 L (wy.setCell ⟨b, 2, none⟩ (.int .i64 (A : Int)))) := Lib.hid (HY.out.x.set 2 _ HY.out.hb HY.out.ne)
                  clear hy2 ht hso haa
                  go_wp2_with (at_builtin; refine wpList_appT rfl _ _ rfl (F + 2) v2 (.slice (some ⟨wy.heap.size, 0, none⟩) 1 1) L [⟨k, a, (A : Int)⟩] rfl (HX5.out.own.below ((Below.refl _ _).alloc (Nat.le_refl _) _)) rfl (HTN.out _ _ (by simp)) ?c1 ?c2 ?_)
                  case c1 => have := HLN.out; simp; omega
                  case c2 => have := HX5.out.lt; simp at this ⊢; omega
                  intro v' w6 hown hg
                  have HX6 := Lib.hid ((HX5.out.below ((Below.refl _ _).alloc (Nat.le_refl _) _)).grown hown hg)
                  clear hown hg c0 c1 c2 g0_ g1 g2 hz d0 d1 d2 q0 q1 q2 hzz
                  go_wp2_with fail
                  obtain ⟨gg, hgg⟩ : ∃ gg, A + m + gg = s.size := ⟨s.size - (A + m), by omega⟩
                  go_roundg gg
                  case measure => omega
                  case rel => exact ⟨f + 1, A + m, L ++ [⟨k, a, (A : Int)⟩], by go_num, hgg, by omega, Lib.hid (by have := HLN.out; simp; omega), HLEX, HX6⟩
            · obtain rfl : jj = 1 := hj
              have cq0 : wq.cell? ⟨F + 1, 1, none⟩ = some (.iface 98 (.agg #[])) := Lib.cell_of_heap HXQ.out.ha 1
              obtain ⟨kv, xs, nn, hform, hcase⟩ := rd_form 1 l1
              have HRD := RD1
              rw [show tellY ((numTk l1).map fun a => (2, a, a.length)) = tellY (rdT 1 l1) from rfl, hform] at HRD
              have HCASE := Lib.hid hcase
              have hAle : (A : Int) ≤ (s.size : Int) := by omega
              clear hform hcase
              have hnil := fun w => nil_1 382 w
              have hmeth := fun w => meth_1 382 w
              go_upto_region 17 with fail
              go_cut [12, 13] (fun s12 s13 wx => ∃ b, s12 = .pointer (some ⟨b, 0, none⟩) ∧ s13 = .int .i64 nn ∧ Hid (LY w F (f + 1) v2 L b #[.int .u8 kv, .string xs, .int .i64 0] wx))
              case first =>
                refine wp_region_held_drew (S := fun _ => True) (by kernel_rfl) trivial (fun hHeld => ?_)
                refine tky 0 (some 63) (v := ?_) rfl (by kernel_rfl) (by kernel_rfl) (by kernel_rfl) (fun _ _ _ h => h) ?_ hHeld ?_
                rotate_left
                focus (intro w hSw; go_simp; (try with_reducible rfl); done)
                go_frame
                refine tky 1 (some 64) (v := ?_) rfl (by kernel_rfl) (by kernel_rfl) (by kernel_rfl) (fun _ _ _ h => h) ?_ hHeld ?_
                rotate_left
                focus (intro w hSw; go_simp; (try with_reducible rfl); done)
                go_frame
                refine tky 2 (some 65) (v := ?_) rfl (by kernel_rfl) (by kernel_rfl) (by kernel_rfl) (fun _ _ _ h => h) ?_ hHeld ?_
                rotate_left
                focus (intro w hSw; go_simp; (try with_reducible rfl); done)
                go_frame
                refine tky 3 (some 66) (v := ?_) rfl (by kernel_rfl) (by kernel_rfl) (by kernel_rfl) (fun _ _ _ h => h) ?_ hHeld ?_
                rotate_left
                focus (intro w hSw; go_simp; (try with_reducible rfl); done)
                go_frame
                refine tky 4 (some 67) (v := ?_) rfl (by kernel_rfl) (by kernel_rfl) (by kernel_rfl) (fun _ _ _ h => h) ?_ hHeld ?_
                rotate_left
                focus (intro w hSw; go_simp; (try with_reducible rfl); done)
                go_frame
                refine tky 5 (some 68) (v := ?_) rfl (by kernel_rfl) (by kernel_rfl) (by kernel_rfl) (fun _ _ _ h => h) ?_ hHeld ?_
                rotate_left
                focus (intro w hSw; go_simp; (try with_reducible rfl); done)
                go_frame
                refine tky 6 (some 69) (v := ?_) rfl (by kernel_rfl) (by kernel_rfl) (by kernel_rfl) (fun _ _ _ h => h) ?_ hHeld ?_
                rotate_left
                focus (intro w hSw; go_simp; (try with_reducible rfl); done)
                go_frame
                refine wpAnyH_ready (rs := [7, 11]) (by kernel_rfl) (by simp) ?_
                refine acons 7 rfl (fun K hK => ?_) ?_
                · go_simp
                  ((with_reducible refine (HRD.out _).mono ?_); rintro e w5 ⟨rfl, hb5⟩)
                  (try dsimp only)
                  refine hK.out _ _ trivial (fun _ => ?_)
                  clear hK K
                  (try go_frame)
                  (try (have hh5 := (hb5.block _ (by simp)).trans (heap_alloc_new _ _); obtain ⟨⟨c0, c1, c2⟩, ⟨g0, g1, g2⟩, hz5⟩ := tcellsL hh5))
                  refine tky 8 (some 62) (v := ?_) rfl (by kernel_rfl) (by kernel_rfl) (by kernel_rfl) (fun _ _ _ h => h) ?_ hHeld ?_
                  rotate_left
                  focus (intro w hSw; go_simp; (try with_reducible rfl); done)
                  go_frame
                  refine tky 9 (some 71) (v := ?_) rfl (by kernel_rfl) (by kernel_rfl) (by kernel_rfl) (fun _ _ _ h => h) ?_ hHeld ?_
                  rotate_left
                  focus (intro w hSw; go_simp; (try with_reducible rfl); done)
                  go_frame
                  refine tky 10 (some 72) (v := ?_) rfl (by kernel_rfl) (by kernel_rfl) (by kernel_rfl) (fun _ _ _ h => h) ?_ hHeld ?_
                  rotate_left
                  focus (intro w hSw; go_simp; (try with_reducible rfl); done)
                  go_frame
                  refine rcons 11 rfl (by kernel_rfl) (fun K hK => ?_)
                  go_simp
                  refine hK.out _ _ trivial (fun _ => ?_)
                  clear hK K
                  (try go_frame)
                  refine rcons 12 rfl (by kernel_rfl) (fun K hK => ?_)
                  go_simp
                  refine hK.out _ _ trivial (fun _ => ?_)
                  clear hK K
                  (try go_frame)
                  refine tky 13 (some 13) (v := ?_) rfl (by kernel_rfl) (by kernel_rfl) (by kernel_rfl) (fun _ _ _ h => h) ?_ hHeld ?_
                  rotate_left
                  focus (intro w hSw; go_simp; (try with_reducible rfl); done)
                  go_frame
                  refine wpAnyH_done (by kernel_rfl) ?_ _
                  go_wp2_with fail
                  go_meet
                  first | exact ⟨_, rfl, rfl, Lib.hid (LY.new1 HXQ.out hb5 _ _ _)⟩ | exact ⟨_, rfl, rfl, Lib.hid (LY.new2 HXQ.out hb5 _ _ _ hh5 _ _ _)⟩
                refine acons 11 rfl (fun K hK => ?_) ?_
                · go_simp
                  refine hK.out _ _ trivial (fun _ => ?_)
                  clear hK K
                  (try go_frame)
                  refine rcons 7 rfl (by kernel_rfl) (fun K hK => ?_)
                  go_simp
                  ((with_reducible refine (HRD.out _).mono ?_); rintro e w5 ⟨rfl, hb5⟩)
                  (try dsimp only)
                  refine hK.out _ _ trivial (fun _ => ?_)
                  clear hK K
                  (try go_frame)
                  (try (have hh5 := (hb5.block _ (by simp)).trans (heap_alloc_new _ _); obtain ⟨⟨c0, c1, c2⟩, ⟨g0, g1, g2⟩, hz5⟩ := tcellsL hh5))
                  refine tky 8 (some 62) (v := ?_) rfl (by kernel_rfl) (by kernel_rfl) (by kernel_rfl) (fun _ _ _ h => h) ?_ hHeld ?_
                  rotate_left
                  focus (intro w hSw; go_simp; (try with_reducible rfl); done)
                  go_frame
                  refine tky 9 (some 71) (v := ?_) rfl (by kernel_rfl) (by kernel_rfl) (by kernel_rfl) (fun _ _ _ h => h) ?_ hHeld ?_
                  rotate_left
                  focus (intro w hSw; go_simp; (try with_reducible rfl); done)
                  go_frame
                  refine tky 10 (some 72) (v := ?_) rfl (by kernel_rfl) (by kernel_rfl) (by kernel_rfl) (fun _ _ _ h => h) ?_ hHeld ?_
                  rotate_left
                  focus (intro w hSw; go_simp; (try with_reducible rfl); done)
                  go_frame
                  refine rcons 12 rfl (by kernel_rfl) (fun K hK => ?_)
                  go_simp
                  refine hK.out _ _ trivial (fun _ => ?_)
                  clear hK K
                  (try go_frame)
                  refine tky 13 (some 13) (v := ?_) rfl (by kernel_rfl) (by kernel_rfl) (by kernel_rfl) (fun _ _ _ h => h) ?_ hHeld ?_
                  rotate_left
                  focus (intro w hSw; go_simp; (try with_reducible rfl); done)
                  go_frame
                  refine wpAnyH_done (by kernel_rfl) ?_ _
                  go_wp2_with fail
                  go_meet
                  first | exact ⟨_, rfl, rfl, Lib.hid (LY.new1 HXQ.out hb5 _ _ _)⟩ | exact ⟨_, rfl, rfl, Lib.hid (LY.new2 HXQ.out hb5 _ _ _ hh5 _ _ _)⟩
                exact AllReadyH.nil
              case rest =>
                clear cq0 hnil hmeth HRD
                rename World => wy
                obtain ⟨b, rfl, rfl, HY⟩ := hcut
                rcases HCASE.out with ⟨hno, hn0⟩ | ⟨k, a, m, hso, hkv, hxs, hnn⟩
                · have HPR2 : Hid (∀ i, i < 1 + 1 → rdT i l1 = none) := Lib.hid (fun i hi => by
                    by_cases h : i = 1
                    · rw [h]; exact hno
                    · exact HPR.out i (by omega))
                  subst hn0
                  clear hno
                  go_wp2_with fail
                  go_roundg 2
                  case measure => omega
                  case rel => exact ⟨1 + 1, rfl, by omega, rfl, rfl, HPR2, Lib.hid HY.out.x⟩
                · subst hkv hxs hnn
                  obtain ⟨ht, hm0, hml⟩ := rd_pos 1 l1 (by have := HL1Z.out; omega) HPR.out (by omega) k a m hso
                  rw [HL1Z.out] at hml
                  have HLEX : Hid (lexG (1024 - (f + 1)) (A + m) (l.drop (A + m)) (L ++ [⟨k, a, (A : Int)⟩]) = R) := Lib.hid (by
                    have := lex_some (1023 - f) at_ (l.drop at_) L k a m HOK.out (by rw [HL1.out]; exact hne.out) (by rw [HL1.out]; exact ht)
                    rw [HL1.out, HDL.out, HM1.out, hA, HD1.out, List.drop_drop] at this
                    rw [← HG.out, show 1024 - f = 1023 - f + 1 from by omega, this, show 1024 - (f + 1) = 1023 - f from by omega])
                  have hmi : (0 : Int) < (m : Int) := by omega
                  have hAm : A + m ≤ s.size := by omega
                  obtain ⟨aa, haa⟩ : ∃ aa : ByteArray, (⟨a.toArray⟩ : ByteArray) = aa := ⟨_, rfl⟩
                  have HTN := Lib.hid (fun (W : World) (n : Nat) (hn : n = W.heap.size) => tok_newn n W hn k a (A : Int))
                  rw [haa] at HTN HY
                  obtain ⟨⟨c0, c1, c2⟩, ⟨g0_, g1, g2⟩, hz⟩ := tcellsL HY.out.ht
                  have hy2 := pset (i := 2) HY.out.ht (.int .i64 (A : Int)) rfl
                  obtain ⟨⟨d0, d1, d2⟩, ⟨q0, q1, q2⟩, hzz⟩ := tcellsL hy2
                  have HX5 : Hid (LX w F (f + 1) v2 L (wy.setCell ⟨b, 2, none⟩ (.int .i64 (A : Int)))) := Lib.hid (HY.out.x.set 2 _ HY.out.hb HY.out.ne)
                  clear hy2 ht hso haa
                  go_wp2_with (at_builtin; refine wpList_appT rfl _ _ rfl (F + 2) v2 (.slice (some ⟨wy.heap.size, 0, none⟩) 1 1) L [⟨k, a, (A : Int)⟩] rfl (HX5.out.own.below ((Below.refl _ _).alloc (Nat.le_refl _) _)) rfl (HTN.out _ _ (by simp)) ?c1 ?c2 ?_)
                  case c1 => have := HLN.out; simp; omega
                  case c2 => have := HX5.out.lt; simp at this ⊢; omega
                  intro v' w6 hown hg
                  have HX6 := Lib.hid ((HX5.out.below ((Below.refl _ _).alloc (Nat.le_refl _) _)).grown hown hg)
                  clear hown hg c0 c1 c2 g0_ g1 g2 hz d0 d1 d2 q0 q1 q2 hzz
                  go_wp2_with fail
                  obtain ⟨gg, hgg⟩ : ∃ gg, A + m + gg = s.size := ⟨s.size - (A + m), by omega⟩
                  go_roundg gg
                  case measure => omega
                  case rel => exact ⟨f + 1, A + m, L ++ [⟨k, a, (A : Int)⟩], by go_num, hgg, by omega, Lib.hid (by have := HLN.out; simp; omega), HLEX, HX6⟩
            · obtain rfl : jj = 2 := hj
              have cq0 : wq.cell? ⟨F + 1, 2, none⟩ = some (.iface 99 (.agg #[])) := Lib.cell_of_heap HXQ.out.ha 2
              obtain ⟨kv, xs, nn, hform, hcase⟩ := rd_form 2 l1
              have HRD := RD2
              rw [show tellY ((txtT l1).map fun x => (3, x.1, x.2)) = tellY (rdT 2 l1) from rfl, hform] at HRD
              have HCASE := Lib.hid hcase
              have hAle : (A : Int) ≤ (s.size : Int) := by omega
              clear hform hcase
              have hnil := fun w => nil_2 382 w
              have hmeth := fun w => meth_2 382 w
              go_upto_region 17 with fail
              go_cut [12, 13] (fun s12 s13 wx => ∃ b, s12 = .pointer (some ⟨b, 0, none⟩) ∧ s13 = .int .i64 nn ∧ Hid (LY w F (f + 1) v2 L b #[.int .u8 kv, .string xs, .int .i64 0] wx))
              case first =>
                refine wp_region_held_drew (S := fun _ => True) (by kernel_rfl) trivial (fun hHeld => ?_)
                refine tky 0 (some 63) (v := ?_) rfl (by kernel_rfl) (by kernel_rfl) (by kernel_rfl) (fun _ _ _ h => h) ?_ hHeld ?_
                rotate_left
                focus (intro w hSw; go_simp; (try with_reducible rfl); done)
                go_frame
                refine tky 1 (some 64) (v := ?_) rfl (by kernel_rfl) (by kernel_rfl) (by kernel_rfl) (fun _ _ _ h => h) ?_ hHeld ?_
                rotate_left
                focus (intro w hSw; go_simp; (try with_reducible rfl); done)
                go_frame
                refine tky 2 (some 65) (v := ?_) rfl (by kernel_rfl) (by kernel_rfl) (by kernel_rfl) (fun _ _ _ h => h) ?_ hHeld ?_
                rotate_left
                focus (intro w hSw; go_simp; (try with_reducible rfl); done)
                go_frame
                refine tky 3 (some 66) (v := ?_) rfl (by kernel_rfl) (by kernel_rfl) (by kernel_rfl) (fun _ _ _ h => h) ?_ hHeld ?_
                rotate_left
                focus (intro w hSw; go_simp; (try with_reducible rfl); done)
                go_frame
                refine tky 4 (some 67) (v := ?_) rfl (by kernel_rfl) (by kernel_rfl) (by kernel_rfl) (fun _ _ _ h => h) ?_ hHeld ?_
                rotate_left
                focus (intro w hSw; go_simp; (try with_reducible rfl); done)
                go_frame
                refine tky 5 (some 68) (v := ?_) rfl (by kernel_rfl) (by kernel_rfl) (by kernel_rfl) (fun _ _ _ h => h) ?_ hHeld ?_
                rotate_left
                focus (intro w hSw; go_simp; (try with_reducible rfl); done)
                go_frame
                refine tky 6 (some 69) (v := ?_) rfl (by kernel_rfl) (by kernel_rfl) (by kernel_rfl) (fun _ _ _ h => h) ?_ hHeld ?_
                rotate_left
                focus (intro w hSw; go_simp; (try with_reducible rfl); done)
                go_frame
                refine wpAnyH_ready (rs := [7, 11]) (by kernel_rfl) (by simp) ?_
                refine acons 7 rfl (fun K hK => ?_) ?_
                · go_simp
                  (refine (HRD.out _ (by first | exact HXQ.out.bel.drew | exact (HXQ.out.bel.alloc HXQ.out.bel.size _).drew)).mono ?_; rintro e w5 ⟨rfl, hb5⟩)
                  (try dsimp only)
                  refine hK.out _ _ trivial (fun _ => ?_)
                  clear hK K
                  (try go_frame)
                  (try (have hh5 := (hb5.block _ (by simp)).trans (heap_alloc_new _ _); obtain ⟨⟨c0, c1, c2⟩, ⟨g0, g1, g2⟩, hz5⟩ := tcellsL hh5))
                  refine tky 8 (some 62) (v := ?_) rfl (by kernel_rfl) (by kernel_rfl) (by kernel_rfl) (fun _ _ _ h => h) ?_ hHeld ?_
                  rotate_left
                  focus (intro w hSw; go_simp; (try with_reducible rfl); done)
                  go_frame
                  refine tky 9 (some 71) (v := ?_) rfl (by kernel_rfl) (by kernel_rfl) (by kernel_rfl) (fun _ _ _ h => h) ?_ hHeld ?_
                  rotate_left
                  focus (intro w hSw; go_simp; (try with_reducible rfl); done)
                  go_frame
                  refine tky 10 (some 72) (v := ?_) rfl (by kernel_rfl) (by kernel_rfl) (by kernel_rfl) (fun _ _ _ h => h) ?_ hHeld ?_
                  rotate_left
                  focus (intro w hSw; go_simp; (try with_reducible rfl); done)
                  go_frame
                  refine rcons 11 rfl (by kernel_rfl) (fun K hK => ?_)
                  go_simp
                  refine hK.out _ _ trivial (fun _ => ?_)
                  clear hK K
                  (try go_frame)
                  refine rcons 12 rfl (by kernel_rfl) (fun K hK => ?_)
                  go_simp
                  refine hK.out _ _ trivial (fun _ => ?_)
                  clear hK K
                  (try go_frame)
                  refine tky 13 (some 13) (v := ?_) rfl (by kernel_rfl) (by kernel_rfl) (by kernel_rfl) (fun _ _ _ h => h) ?_ hHeld ?_
                  rotate_left
                  focus (intro w hSw; go_simp; (try with_reducible rfl); done)
                  go_frame
                  refine wpAnyH_done (by kernel_rfl) ?_ _
                  go_wp2_with fail
                  go_meet
                  first | exact ⟨_, rfl, rfl, Lib.hid (LY.new1 HXQ.out hb5 _ _ _)⟩ | exact ⟨_, rfl, rfl, Lib.hid (LY.new2 HXQ.out hb5 _ _ _ hh5 _ _ _)⟩
                refine acons 11 rfl (fun K hK => ?_) ?_
                · go_simp
                  refine hK.out _ _ trivial (fun _ => ?_)
                  clear hK K
                  (try go_frame)
                  refine rcons 7 rfl (by kernel_rfl) (fun K hK => ?_)
                  go_simp
                  (refine (HRD.out _ (by first | exact HXQ.out.bel.drew | exact (HXQ.out.bel.alloc HXQ.out.bel.size _).drew)).mono ?_; rintro e w5 ⟨rfl, hb5⟩)
                  (try dsimp only)
                  refine hK.out _ _ trivial (fun _ => ?_)
                  clear hK K
                  (try go_frame)
                  (try (have hh5 := (hb5.block _ (by simp)).trans (heap_alloc_new _ _); obtain ⟨⟨c0, c1, c2⟩, ⟨g0, g1, g2⟩, hz5⟩ := tcellsL hh5))
                  refine tky 8 (some 62) (v := ?_) rfl (by kernel_rfl) (by kernel_rfl) (by kernel_rfl) (fun _ _ _ h => h) ?_ hHeld ?_
                  rotate_left
                  focus (intro w hSw; go_simp; (try with_reducible rfl); done)
                  go_frame
                  refine tky 9 (some 71) (v := ?_) rfl (by kernel_rfl) (by kernel_rfl) (by kernel_rfl) (fun _ _ _ h => h) ?_ hHeld ?_
                  rotate_left
                  focus (intro w hSw; go_simp; (try with_reducible rfl); done)
                  go_frame
                  refine tky 10 (some 72) (v := ?_) rfl (by kernel_rfl) (by kernel_rfl) (by kernel_rfl) (fun _ _ _ h => h) ?_ hHeld ?_
                  rotate_left
                  focus (intro w hSw; go_simp; (try with_reducible rfl); done)
                  go_frame
                  refine rcons 12 rfl (by kernel_rfl) (fun K hK => ?_)
                  go_simp
                  refine hK.out _ _ trivial (fun _ => ?_)
                  clear hK K
                  (try go_frame)
                  refine tky 13 (some 13) (v := ?_) rfl (by kernel_rfl) (by kernel_rfl) (by kernel_rfl) (fun _ _ _ h => h) ?_ hHeld ?_
                  rotate_left
                  focus (intro w hSw; go_simp; (try with_reducible rfl); done)
                  go_frame
                  refine wpAnyH_done (by kernel_rfl) ?_ _
                  go_wp2_with fail
                  go_meet
                  first | exact ⟨_, rfl, rfl, Lib.hid (LY.new1 HXQ.out hb5 _ _ _)⟩ | exact ⟨_, rfl, rfl, Lib.hid (LY.new2 HXQ.out hb5 _ _ _ hh5 _ _ _)⟩
                exact AllReadyH.nil
              case rest =>
                clear cq0 hnil hmeth HRD
                rename World => wy
                obtain ⟨b, rfl, rfl, HY⟩ := hcut
                rcases HCASE.out with ⟨hno, hn0⟩ | ⟨k, a, m, hso, hkv, hxs, hnn⟩
                · have HPR2 : Hid (∀ i, i < 2 + 1 → rdT i l1 = none) := Lib.hid (fun i hi => by
                    by_cases h : i = 2
                    · rw [h]; exact hno
                    · exact HPR.out i (by omega))
                  subst hn0
                  clear hno
                  go_wp2_with fail
                  go_roundg 1
                  case measure => omega
                  case rel => exact ⟨2 + 1, rfl, by omega, rfl, rfl, HPR2, Lib.hid HY.out.x⟩
                · subst hkv hxs hnn
                  obtain ⟨ht, hm0, hml⟩ := rd_pos 2 l1 (by have := HL1Z.out; omega) HPR.out (by omega) k a m hso
                  rw [HL1Z.out] at hml
                  have HLEX : Hid (lexG (1024 - (f + 1)) (A + m) (l.drop (A + m)) (L ++ [⟨k, a, (A : Int)⟩]) = R) := Lib.hid (by
                    have := lex_some (1023 - f) at_ (l.drop at_) L k a m HOK.out (by rw [HL1.out]; exact hne.out) (by rw [HL1.out]; exact ht)
                    rw [HL1.out, HDL.out, HM1.out, hA, HD1.out, List.drop_drop] at this
                    rw [← HG.out, show 1024 - f = 1023 - f + 1 from by omega, this, show 1024 - (f + 1) = 1023 - f from by omega])
                  have hmi : (0 : Int) < (m : Int) := by omega
                  have hAm : A + m ≤ s.size := by omega
                  obtain ⟨aa, haa⟩ : ∃ aa : ByteArray, (⟨a.toArray⟩ : ByteArray) = aa := ⟨_, rfl⟩
                  have HTN := Lib.hid (fun (W : World) (n : Nat) (hn : n = W.heap.size) => tok_newn n W hn k a (A : Int))
                  rw [haa] at HTN HY
                  obtain ⟨⟨c0, c1, c2⟩, ⟨g0_, g1, g2⟩, hz⟩ := tcellsL HY.out.ht
                  have hy2 := pset (i := 2) HY.out.ht (.int .i64 (A : Int)) rfl
                  obtain ⟨⟨d0, d1, d2⟩, ⟨q0, q1, q2⟩, hzz⟩ := tcellsL hy2
                  have HX5 : Hid (LX w F (f + 1) v2 L (wy.setCell ⟨b, 2, none⟩ (.int .i64 (A : Int)))) := Lib.hid (HY.out.x.set 2 _ HY.out.hb HY.out.ne)
                  clear hy2 ht hso haa
                  go_wp2_with (at_builtin; refine wpList_appT rfl _ _ rfl (F + 2) v2 (.slice (some ⟨wy.heap.size, 0, none⟩) 1 1) L [⟨k, a, (A : Int)⟩] rfl (HX5.out.own.below ((Below.refl _ _).alloc (Nat.le_refl _) _)) rfl (HTN.out _ _ (by simp)) ?c1 ?c2 ?_)
                  case c1 => have := HLN.out; simp; omega
                  case c2 => have := HX5.out.lt; simp at this ⊢; omega
                  intro v' w6 hown hg
                  have HX6 := Lib.hid ((HX5.out.below ((Below.refl _ _).alloc (Nat.le_refl _) _)).grown hown hg)
                  clear hown hg c0 c1 c2 g0_ g1 g2 hz d0 d1 d2 q0 q1 q2 hzz
                  go_wp2_with fail
                  obtain ⟨gg, hgg⟩ : ∃ gg, A + m + gg = s.size := ⟨s.size - (A + m), by omega⟩
                  go_roundg gg
                  case measure => omega
                  case rel => exact ⟨f + 1, A + m, L ++ [⟨k, a, (A : Int)⟩], by go_num, hgg, by omega, Lib.hid (by have := HLN.out; simp; omega), HLEX, HX6⟩
            · obtain rfl : jj = 3 := hj
              have cq0 : wq.cell? ⟨F + 1, 3, none⟩ = some (.iface 100 (.agg #[])) := Lib.cell_of_heap HXQ.out.ha 3
              obtain ⟨kv, xs, nn, hform, hcase⟩ := rd_form 3 l1
              have HRD := RD3
              rw [show tellY ((punT l1).map fun a => (4, a, a.length)) = tellY (rdT 3 l1) from rfl, hform] at HRD
              have HCASE := Lib.hid hcase
              have hAle : (A : Int) ≤ (s.size : Int) := by omega
              clear hform hcase
              have hnil := fun w => nil_3 382 w
              have hmeth := fun w => meth_3 382 w
              go_upto_region 17 with fail
              go_cut [12, 13] (fun s12 s13 wx => ∃ b, s12 = .pointer (some ⟨b, 0, none⟩) ∧ s13 = .int .i64 nn ∧ Hid (LY w F (f + 1) v2 L b #[.int .u8 kv, .string xs, .int .i64 0] wx))
              case first =>
                refine wp_region_held_drew (S := fun _ => True) (by kernel_rfl) trivial (fun hHeld => ?_)
                refine tky 0 (some 63) (v := ?_) rfl (by kernel_rfl) (by kernel_rfl) (by kernel_rfl) (fun _ _ _ h => h) ?_ hHeld ?_
                rotate_left
                focus (intro w hSw; go_simp; (try with_reducible rfl); done)
                go_frame
                refine tky 1 (some 64) (v := ?_) rfl (by kernel_rfl) (by kernel_rfl) (by kernel_rfl) (fun _ _ _ h => h) ?_ hHeld ?_
                rotate_left
                focus (intro w hSw; go_simp; (try with_reducible rfl); done)
                go_frame
                refine tky 2 (some 65) (v := ?_) rfl (by kernel_rfl) (by kernel_rfl) (by kernel_rfl) (fun _ _ _ h => h) ?_ hHeld ?_
                rotate_left
                focus (intro w hSw; go_simp; (try with_reducible rfl); done)
                go_frame
                refine tky 3 (some 66) (v := ?_) rfl (by kernel_rfl) (by kernel_rfl) (by kernel_rfl) (fun _ _ _ h => h) ?_ hHeld ?_
                rotate_left
                focus (intro w hSw; go_simp; (try with_reducible rfl); done)
                go_frame
                refine tky 4 (some 67) (v := ?_) rfl (by kernel_rfl) (by kernel_rfl) (by kernel_rfl) (fun _ _ _ h => h) ?_ hHeld ?_
                rotate_left
                focus (intro w hSw; go_simp; (try with_reducible rfl); done)
                go_frame
                refine tky 5 (some 68) (v := ?_) rfl (by kernel_rfl) (by kernel_rfl) (by kernel_rfl) (fun _ _ _ h => h) ?_ hHeld ?_
                rotate_left
                focus (intro w hSw; go_simp; (try with_reducible rfl); done)
                go_frame
                refine tky 6 (some 69) (v := ?_) rfl (by kernel_rfl) (by kernel_rfl) (by kernel_rfl) (fun _ _ _ h => h) ?_ hHeld ?_
                rotate_left
                focus (intro w hSw; go_simp; (try with_reducible rfl); done)
                go_frame
                refine wpAnyH_ready (rs := [7, 11]) (by kernel_rfl) (by simp) ?_
                refine acons 7 rfl (fun K hK => ?_) ?_
                · go_simp
                  ((with_reducible refine (HRD.out _).mono ?_); rintro e w5 ⟨rfl, hb5⟩)
                  (try dsimp only)
                  refine hK.out _ _ trivial (fun _ => ?_)
                  clear hK K
                  (try go_frame)
                  (try (have hh5 := (hb5.block _ (by simp)).trans (heap_alloc_new _ _); obtain ⟨⟨c0, c1, c2⟩, ⟨g0, g1, g2⟩, hz5⟩ := tcellsL hh5))
                  refine tky 8 (some 62) (v := ?_) rfl (by kernel_rfl) (by kernel_rfl) (by kernel_rfl) (fun _ _ _ h => h) ?_ hHeld ?_
                  rotate_left
                  focus (intro w hSw; go_simp; (try with_reducible rfl); done)
                  go_frame
                  refine tky 9 (some 71) (v := ?_) rfl (by kernel_rfl) (by kernel_rfl) (by kernel_rfl) (fun _ _ _ h => h) ?_ hHeld ?_
                  rotate_left
                  focus (intro w hSw; go_simp; (try with_reducible rfl); done)
                  go_frame
                  refine tky 10 (some 72) (v := ?_) rfl (by kernel_rfl) (by kernel_rfl) (by kernel_rfl) (fun _ _ _ h => h) ?_ hHeld ?_
                  rotate_left
                  focus (intro w hSw; go_simp; (try with_reducible rfl); done)
                  go_frame
                  refine rcons 11 rfl (by kernel_rfl) (fun K hK => ?_)
                  go_simp
                  refine hK.out _ _ trivial (fun _ => ?_)
                  clear hK K
                  (try go_frame)
                  refine rcons 12 rfl (by kernel_rfl) (fun K hK => ?_)
                  go_simp
                  refine hK.out _ _ trivial (fun _ => ?_)
                  clear hK K
                  (try go_frame)
                  refine tky 13 (some 13) (v := ?_) rfl (by kernel_rfl) (by kernel_rfl) (by kernel_rfl) (fun _ _ _ h => h) ?_ hHeld ?_
                  rotate_left
                  focus (intro w hSw; go_simp; (try with_reducible rfl); done)
                  go_frame
                  refine wpAnyH_done (by kernel_rfl) ?_ _
                  go_wp2_with fail
                  go_meet
                  first | exact ⟨_, rfl, rfl, Lib.hid (LY.new1 HXQ.out hb5 _ _ _)⟩ | exact ⟨_, rfl, rfl, Lib.hid (LY.new2 HXQ.out hb5 _ _ _ hh5 _ _ _)⟩
                refine acons 11 rfl (fun K hK => ?_) ?_
                · go_simp
                  refine hK.out _ _ trivial (fun _ => ?_)
                  clear hK K
                  (try go_frame)
                  refine rcons 7 rfl (by kernel_rfl) (fun K hK => ?_)
                  go_simp
                  ((with_reducible refine (HRD.out _).mono ?_); rintro e w5 ⟨rfl, hb5⟩)
                  (try dsimp only)
                  refine hK.out _ _ trivial (fun _ => ?_)
                  clear hK K
                  (try go_frame)
                  (try (have hh5 := (hb5.block _ (by simp)).trans (heap_alloc_new _ _); obtain ⟨⟨c0, c1, c2⟩, ⟨g0, g1, g2⟩, hz5⟩ := tcellsL hh5))
                  refine tky 8 (some 62) (v := ?_) rfl (by kernel_rfl) (by kernel_rfl) (by kernel_rfl) (fun _ _ _ h => h) ?_ hHeld ?_
                  rotate_left
                  focus (intro w hSw; go_simp; (try with_reducible rfl); done)
                  go_frame
                  refine tky 9 (some 71) (v := ?_) rfl (by kernel_rfl) (by kernel_rfl) (by kernel_rfl) (fun _ _ _ h => h) ?_ hHeld ?_
                  rotate_left
                  focus (intro w hSw; go_simp; (try with_reducible rfl); done)
                  go_frame
                  refine tky 10 (some 72) (v := ?_) rfl (by kernel_rfl) (by kernel_rfl) (by kernel_rfl) (fun _ _ _ h => h) ?_ hHeld ?_
                  rotate_left
                  focus (intro w hSw; go_simp; (try with_reducible rfl); done)
                  go_frame
                  refine rcons 12 rfl (by kernel_rfl) (fun K hK => ?_)
                  go_simp
                  refine hK.out _ _ trivial (fun _ => ?_)
                  clear hK K
                  (try go_frame)
                  refine tky 13 (some 13) (v := ?_) rfl (by kernel_rfl) (by kernel_rfl) (by kernel_rfl) (fun _ _ _ h => h) ?_ hHeld ?_
                  rotate_left
                  focus (intro w hSw; go_simp; (try with_reducible rfl); done)
                  go_frame
                  refine wpAnyH_done (by kernel_rfl) ?_ _
                  go_wp2_with fail
                  go_meet
                  first | exact ⟨_, rfl, rfl, Lib.hid (LY.new1 HXQ.out hb5 _ _ _)⟩ | exact ⟨_, rfl, rfl, Lib.hid (LY.new2 HXQ.out hb5 _ _ _ hh5 _ _ _)⟩
                exact AllReadyH.nil
              case rest =>
                clear cq0 hnil hmeth HRD
                rename World => wy
                obtain ⟨b, rfl, rfl, HY⟩ := hcut
                rcases HCASE.out with ⟨hno, hn0⟩ | ⟨k, a, m, hso, hkv, hxs, hnn⟩
                · have HPR2 : Hid (∀ i, i < 3 + 1 → rdT i l1 = none) := Lib.hid (fun i hi => by
                    by_cases h : i = 3
                    · rw [h]; exact hno
                    · exact HPR.out i (by omega))
                  subst hn0
                  clear hno
                  go_wp2_with fail
                  go_roundg 0
                  case measure => omega
                  case rel => exact ⟨3 + 1, rfl, by omega, rfl, rfl, HPR2, Lib.hid HY.out.x⟩
                · subst hkv hxs hnn
                  obtain ⟨ht, hm0, hml⟩ := rd_pos 3 l1 (by have := HL1Z.out; omega) HPR.out (by omega) k a m hso
                  rw [HL1Z.out] at hml
                  have HLEX : Hid (lexG (1024 - (f + 1)) (A + m) (l.drop (A + m)) (L ++ [⟨k, a, (A : Int)⟩]) = R) := Lib.hid (by
                    have := lex_some (1023 - f) at_ (l.drop at_) L k a m HOK.out (by rw [HL1.out]; exact hne.out) (by rw [HL1.out]; exact ht)
                    rw [HL1.out, HDL.out, HM1.out, hA, HD1.out, List.drop_drop] at this
                    rw [← HG.out, show 1024 - f = 1023 - f + 1 from by omega, this, show 1024 - (f + 1) = 1023 - f from by omega])
                  have hmi : (0 : Int) < (m : Int) := by omega
                  have hAm : A + m ≤ s.size := by omega
                  obtain ⟨aa, haa⟩ : ∃ aa : ByteArray, (⟨a.toArray⟩ : ByteArray) = aa := ⟨_, rfl⟩
                  have HTN := Lib.hid (fun (W : World) (n : Nat) (hn : n = W.heap.size) => tok_newn n W hn k a (A : Int))
                  rw [haa] at HTN HY
                  obtain ⟨⟨c0, c1, c2⟩, ⟨g0_, g1, g2⟩, hz⟩ := tcellsL HY.out.ht
                  have hy2 := pset (i := 2) HY.out.ht (.int .i64 (A : Int)) rfl
                  obtain ⟨⟨d0, d1, d2⟩, ⟨q0, q1, q2⟩, hzz⟩ := tcellsL hy2
                  have HX5 : Hid (LX w F (f + 1) v2 L (wy.setCell ⟨b, 2, none⟩ (.int .i64 (A : Int)))) := Lib.hid (HY.out.x.set 2 _ HY.out.hb HY.out.ne)
                  clear hy2 ht hso haa
                  go_wp2_with (at_builtin; refine wpList_appT rfl _ _ rfl (F + 2) v2 (.slice (some ⟨wy.heap.size, 0, none⟩) 1 1) L [⟨k, a, (A : Int)⟩] rfl (HX5.out.own.below ((Below.refl _ _).alloc (Nat.le_refl _) _)) rfl (HTN.out _ _ (by simp)) ?c1 ?c2 ?_)
                  case c1 => have := HLN.out; simp; omega
                  case c2 => have := HX5.out.lt; simp at this ⊢; omega
                  intro v' w6 hown hg
                  have HX6 := Lib.hid ((HX5.out.below ((Below.refl _ _).alloc (Nat.le_refl _) _)).grown hown hg)
                  clear hown hg c0 c1 c2 g0_ g1 g2 hz d0 d1 d2 q0 q1 q2 hzz
                  go_wp2_with fail
                  obtain ⟨gg, hgg⟩ : ∃ gg, A + m + gg = s.size := ⟨s.size - (A + m), by omega⟩
                  go_roundg gg
                  case measure => omega
                  case rel => exact ⟨f + 1, A + m, L ++ [⟨k, a, (A : Int)⟩], by go_num, hgg, by omega, Lib.hid (by have := HLN.out; simp; omega), HLEX, HX6⟩
end Go.Proofs.YtgaknbnhmoddcaaGreatDoor
namespace Go.Proofs.YtgaknbnhmoddcaaGreatDoor
open Go.RowKit Go.Lib
theorem llexq_any (s : ByteArray) (hs : s.size ≤ 1000000) (hnq : (34 : UInt8) ∉ s.data.toList) (w : World) (hE : EnvU w) :
    Calls Tryz.prog 21 #[.string s] w fun e w' => LexE w.heap.size (lex0 s.data.toList) e w' ∧ Below w.heap.size w w' := by
  have HC := tcheck_any s hs w hE
  unfold lex0
  have hz := len_z s
  by_cases h1 : 16384 < s.data.toList.length
  · rw [if_pos h1]
    rw [show chkE s.data.toList = 4 from by unfold chkE; rw [if_pos h1]] at HC
    exact (lex_chk s w 4 (by decide) (Lib.hid HC)).mono fun e w' ⟨h1, h2⟩ => ⟨h1, h2⟩
  · rw [if_neg h1]
    cases hv : Lib.validD s.data.toList with
    | false =>
      rw [show chkE s.data.toList = 10 from by unfold chkE; rw [if_neg h1, hv]; rfl] at HC
      exact (lex_chk s w 10 (by decide) (Lib.hid HC)).mono fun e w' ⟨h1, h2⟩ => ⟨h1, h2⟩
    | true =>
      rw [show chkE s.data.toList = 0 from by unfold chkE; rw [if_neg h1, hv]; rfl] at HC
      exact lexq_go s (by omega) hnq w hE (Lib.hid HC) _ (Lib.hid rfl)
theorem lex_rowq (s : ByteArray) (hs : s.size ≤ 1000000) (hnq : (34 : UInt8) ∉ s.data.toList) (L : List Tok) (h : lex0 s.data.toList = .ok L) (h0 : 0 < L.length) (w : World) (hE : EnvU w) :
    Calls Tryz.prog 21 #[.string s] w fun e w' => (∃ g cap, e = .returned (.tuple #[.slice (some ⟨g, 0, none⟩) L.length cap, .int .i64 0, .int .i64 0]) ∧ OwnT w.heap.size (.slice (some ⟨g, 0, none⟩) L.length cap) L w') ∧ Below w.heap.size w w' := by
  refine (llexq_any s hs hnq w hE).mono ?_
  rintro e w' ⟨h1, hb⟩
  rw [h] at h1
  obtain ⟨v, rfl, ho⟩ : ∃ v, e = .returned (.tuple #[v, .int .i64 0, .int .i64 0]) ∧ OwnT w.heap.size v L w' := h1
  obtain ⟨g, cap, rfl, _⟩ := ho.last h0
  exact ⟨⟨g, cap, rfl, ho⟩, hb⟩
set_option maxRecDepth 100000 in
theorem value18q_any (s : ByteArray) (hs : s.size ≤ 1000) (hnq : (34 : UInt8) ∉ s.data.toList) (L : List Tok) (h : lex0 s.data.toList = .ok L) (fx : Bool) (he : ∀ e, litP fx L 0 = .error e → 0 ≤ e.1) (w : World) (hE : EnvU w) (hE2 : Env w) :
    Calls Tryz.prog 60 #[.string s, .bool fx] w fun x w' => Val18 (litP fx L 0) (CelG w.heap.size) x w' ∧ Below w.heap.size w w' := by
  obtain ⟨h1, h2, h3, h4⟩ := lexed _ L (by rw [bsz]; omega) h
  have HX := Lib.hid (lex_rowq s (by omega) hnq L h h2 w hE)
  have HV : Hid (∀ (g cap : Nat) (W : World), Below w.heap.size w W → TokRow g 0 L W → g < W.heap.size → Calls Tryz.prog 25 #[.slice (some ⟨g, 0, none⟩) L.length cap, .int .i64 0, .bool fx] W fun x w' => ReadV (litP fx L 0) (CelG (W.heap.size + 4)) x w' ∧ Below W.heap.size W w') := Lib.hid fun g cap W hW hr hg => by
    have := value_ok (cap := cap) fx W hr hg ⟨by omega, h4⟩ h2 (hE2.below hW (Nat.le_refl _))
    simpa using this
  have HE := Lib.hid he
  clear h he hE hE2 h1 h2 h4
  generalize litP fx L 0 = R at HV HE ⊢
  go_enter Tryz.func60, Tryz.ntmps60
  go_wp2_with fail
  refine HX.out.mono ?_; rintro x w1 ⟨⟨g, cap, rfl, ho⟩, hb⟩
  have hr1 : TokRow g 0 L w1 := by
    rcases ho.sl with ⟨ua, uc, hu2, hL, _⟩ | ⟨b2, off, cap2, hu2, hr⟩
    · subst hL; intro i hi; simp at hi
    · injection hu2 with e1 e2 e3
      injection e1 with e1
      injection e1 with e1 e2
      subst e1; subst e2
      exact hr
  have HR1 := Lib.hid hr1
  have hg1 : g < w1.heap.size := by
    rcases ho.2 with ⟨e1, _⟩ | ⟨g2, cap2, cur, e1, _, hg, _⟩
    · cases e1
    · injection e1 with e1
      injection e1 with e1
      injection e1 with e1
      subst e1
      exact heap_lt hg
  have HB1 := Lib.hid hb
  clear hb ho hr1
  go_wp2_with fail
  refine (HV.out g cap w1 HB1.out HR1.out hg1).mono ?_; rintro x w2 ⟨hx, hb⟩
  have HB2 : Hid (Below w.heap.size w w2) := Lib.hid (HB1.out.trans (hb.mono HB1.out.size))
  have hz1 := HB1.out.size
  cases R with
  | error e =>
    have hx2 : x = .returned (.tuple #[.slice none 0 0, .int .i64 e.2, .int .i64 e.1]) := hx
    have hm : max 0 e.1 = e.1 := Int.max_eq_right (HE.out e rfl)
    clear hx hb
    subst hx2
    go_wp2_with fail
    go_ret3
    exact ⟨by show _ = _; simp [hm], HB2.out⟩
  | ok y =>
    obtain ⟨k', out⟩ := y
    obtain ⟨a, n, c, hx2, hg⟩ : ∃ a n c, x = .returned (.tuple #[.slice a n c, .int .i64 k', .int .i64 0]) ∧ CelG (w1.heap.size + 4) out (.slice a n c) w2 := hx
    have HG : Hid (CelG w.heap.size out (.slice a n c) w2) := Lib.hid ⟨hg.1, hg.2.less (by omega)⟩
    clear hb hg
    subst hx2
    go_wp2_with fail
    go_ret3
    exact ⟨⟨a, n, c, by first | rfl | simp, HG.out⟩, HB2.out⟩
set_option maxRecDepth 100000 in
set_option maxHeartbeats 2000000 in
theorem lalive18q (w : World) (hE : EnvU w) (hE2 : Env w) : Calls Tryz.prog 29 #[] w fun e w' => e = .returned (.bool true) ∧ Below w.heap.size w w' := by
  obtain ⟨h1, h2⟩ := okLit_parts el_alive
  have HV := Lib.hid (value18q_any ⟨#[91, 36, 120, 44, 123, 97, 58, 82, 69, 68, 125, 93, 32, 122]⟩ (by decide) (by decide) (lexT exAlive) h1 false (by rw [h2]; intro e h; cases h) w hE hE2)
  rw [h2] at HV
  have HS : Hid (∀ (u v : Value) (W : World), CelSl u [⟨6, [], [], 0, 2⟩, ⟨5, [], [120], 0, 0⟩, ⟨7, [], [], 0, 1⟩, ⟨4, [97], [82, 69, 68], 0, 0⟩] W → CelSl v [⟨6, [], [], 0, 2⟩, ⟨5, [], [120], 0, 0⟩, ⟨7, [], [], 0, 1⟩, ⟨4, [97], [82, 69, 68], 0, 0⟩] W → Calls Tryz.prog 20 #[u, v] W fun e w' => e = .returned (.bool true) ∧ Below W.heap.size W w') := Lib.hid fun u v W h3 h4 => by
    have := rsame03_any [⟨6, [], [], 0, 2⟩, ⟨5, [], [120], 0, 0⟩, ⟨7, [], [], 0, 1⟩, ⟨4, [97], [82, 69, 68], 0, 0⟩] [⟨6, [], [], 0, 2⟩, ⟨5, [], [120], 0, 0⟩, ⟨7, [], [], 0, 1⟩, ⟨4, [97], [82, 69, 68], 0, 0⟩] u v (by decide) (by decide) W h3 h4
    rw [(sameV_iff _ _).2 rfl] at this
    exact this
  clear hE hE2 h1 h2
  go_enter Tryz.func29, Tryz.ntmps29
  go_wp2_with fail
  refine HV.out.mono ?_; rintro x w1 ⟨⟨a, n, c, rfl, hg⟩, hb⟩
  have HG := Lib.hid hg.2.sl
  have HB1 := Lib.hid hb
  clear hg hb
  go_wp2_with fail
  refine (HS.out _ _ _ (HG.out.below ((Below.refl _ _).alloc (Nat.le_refl _) _)) (cel_fresh (k := 4) rfl rfl (by decide) w1)).mono ?_; rintro e w2 ⟨rfl, hb⟩
  have HB2 : Hid (Below w.heap.size w w2) := Lib.hid ((HB1.out.alloc HB1.out.size _).trans (hb.mono (Nat.le_trans HB1.out.size (by simp))))
  clear hb
  go_wp2_with fail
  go_ret
  exact ⟨rfl, HB2.out⟩
end Go.Proofs.YtgaknbnhmoddcaaGreatDoor
