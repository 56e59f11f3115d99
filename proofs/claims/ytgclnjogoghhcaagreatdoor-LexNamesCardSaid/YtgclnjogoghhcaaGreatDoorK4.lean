/- Walks and plain laws of this proof, joined from smaller texts (4). -/
import Derived.Carry
import Derived.Tactics
import Derived.Tactics2
import Derived.Defers
import Derived.Recover
import Derived.Laws.Pointers
import Derived.Test.YtgclnjogoghhcaaGreatDoorK3
set_option linter.unusedSimpArgs false
set_option linter.unusedVariables false
namespace Go.Proofs.YtgclnjogoghhcaaGreatDoor
open Go.RowKit Go.Lib
/-- What the library's variables hold, whatever is done from a block on. -/
def EnvB (p : Nat) (W : World) : Prop := ∀ W', Below p W W' → EnvU W' ∧ Env W'
theorem EnvB.to {p : Nat} {W W' : World} (h : EnvB p W) (hb : Below p W W') : EnvB p W' := fun W2 h2 => h W2 (hb.trans h2)
theorem EnvB.u {p : Nat} {W : World} (h : EnvB p W) : ∀ W', RK p W W' → EnvU W' := fun W' hk => (h W' hk.1).1
theorem EnvB.e {p : Nat} {v : Value} {W : World} (h : EnvB p W) : ∀ W', VK p v W W' → Env W' := fun W' hk => (h W' hk.1).2
theorem beg_ix (c : UInt8) : decide (Lib.indexByte [123, 91, 34, 116, 102, 110, 45, 48, 49, 50, 51, 52, 53, 54, 55, 56, 57] c < 0) = !begJ c := by
  have := (by decide +kernel : ∀ i : Fin 256, decide (Lib.indexByte [123, 91, 34, 116, 102, 110, 45, 48, 49, 50, 51, 52, 53, 54, 55, 56, 57] (UInt8.ofNat i.val) < 0) = !begJ (UInt8.ofNat i.val)) ⟨c.toNat, UInt8.toNat_lt c⟩
  simpa only [UInt8.ofNat_toNat] using this
def PValSpec (d : Nat) : Prop := ∀ (p : Nat) (name : ByteArray) (op : Int) (v : Value) (L : List Cel) (l : List UInt8) (W : World), op + (d : Int) = 16 → 0 ≤ op → l.length ≤ 16384 → validD l = true → PS p l v op W → OwnC (p + 1) v L W → L.length ≤ 2048 → EnvB p W →
  Calls Tryz.prog 85 #[.pointer (some ⟨p, 0, none⟩), .string name] W (VPE p W v op (valJ d name.data.toList l L))
def PItO (d : Nat) : Prop := ∀ (p : Nat) (op : Int) (v : Value) (L : List Cel) (l : List UInt8) (W : World), op + (d : Int) = 16 → 0 ≤ op → l.length ≤ 16384 → validD l = true → PS p l v op W → OwnC (p + 1) v L W → 0 < L.length → L.length ≤ 2048 → EnvB p W →
  Calls Tryz.prog 88 #[.pointer (some ⟨p, 0, none⟩), .string ⟨#[125]⟩, .func (.func 89) #[.pointer (some ⟨p, 0, none⟩)] #[]] W (VPE p W v op (manyJ d true (L.length - 1) l L))
def PItL (d : Nat) : Prop := ∀ (p : Nat) (op : Int) (v : Value) (L : List Cel) (l : List UInt8) (W : World), op + (d : Int) = 16 → 0 ≤ op → l.length ≤ 16384 → validD l = true → PS p l v op W → OwnC (p + 1) v L W → 0 < L.length → L.length ≤ 2048 → EnvB p W →
  Calls Tryz.prog 88 #[.pointer (some ⟨p, 0, none⟩), .string ⟨#[93]⟩, .func (.func 90) #[.pointer (some ⟨p, 0, none⟩)] #[]] W (VPE p W v op (manyJ d false (L.length - 1) l L))
set_option maxRecDepth 100000 in
set_option maxHeartbeats 4000000 in
theorem p_value_nil (d p : Nat) (name : ByteArray) (op : Int) (v : Value) (L : List Cel) (l : List UInt8) (W : World) (hl : l.length ≤ 16384) (hv : validD l = true) (h : PS p l v op W) (hown : OwnC (p + 1) v L W) (hL : L.length ≤ 2048) (hE : EnvB p W) (hb : blJ l = []) :
    Calls Tryz.prog 85 #[.pointer (some ⟨p, 0, none⟩), .string name] W (VPE p W v op (valJ d name.data.toList l L)) := by
  have HV0 : Hid (VP p W v v L l op W) := Lib.hid ⟨h, hown, VK.refl _ _ _, fun k hk => Or.inl hk⟩
  have HBL := Lib.hid (fun (W : World) (hW : PS p l v op W) => p_blanks p l v op W hW)
  have HNO : Hid (∀ (e : Int) W, Calls Tryz.prog 87 #[.int .i64 e] W fun x w' => x = .panicked (stopL e) ∧ W = w') := Lib.hid fun e W => p_no e W
  have HEE := Lib.hid hE
  have hvl : ∃ a n c, v = .slice a n c ∧ n = L.length := by
    rcases HV0.out.own.2 with ⟨h1, h2⟩ | ⟨g, cap, cur, h1, _⟩
    · exact ⟨none, 0, 0, h1, h2.symm⟩
    · exact ⟨_, _, _, h1, rfl⟩
  obtain ⟨av, nv, cv, rfl, hnv⟩ := hvl
  have HNV := Lib.hid hnv
  have hnv8 : nv ≤ 2048 := by omega
  have HZ : Hid (valJ d name.data.toList l L = .error 40) := Lib.hid (by unfold valJ; rw [hb])
  rw [hb] at HBL
  clear h hv hown hE hb hnv
  go_enter Tryz.func85, Tryz.ntmps85
  go_wp2_with fail
  refine (HBL.out _ HV0.out.st).mono ?_; rintro x w1 ⟨rfl, hst, hk⟩
  obtain ⟨b, hbl, hr⟩ := hst
  have HK := Lib.hid hk
  have hbe : b = ByteArray.empty := by
    apply ByteArray.ext; apply Array.toList_inj.1; rw [hbl]; rfl
  subst hbe
  obtain ⟨c0, c1, c2⟩ := hr.cells
  clear hr hk hbl
  go_wp2_with fail
  refine (HNO.out _ _).mono ?_; rintro x w2 ⟨rfl, rfl⟩
  go_wp2_with fail
  refine ⟨rfl, ?_⟩
  rw [HZ.out]
  exact ⟨rfl, HK.out.1⟩
set_option maxRecDepth 100000 in
set_option maxHeartbeats 4000000 in
theorem p_value_not (d p : Nat) (name : ByteArray) (op : Int) (v : Value) (L : List Cel) (l : List UInt8) (W : World) (hl : l.length ≤ 16384) (hv : validD l = true) (h : PS p l v op W) (hown : OwnC (p + 1) v L W) (hL : L.length ≤ 2048) (hE : EnvB p W) (c : UInt8) (rest : List UInt8) (hb : blJ l = c :: rest) (hbg : begJ c = false) :
    Calls Tryz.prog 85 #[.pointer (some ⟨p, 0, none⟩), .string name] W (VPE p W v op (valJ d name.data.toList l L)) := by
  have HV0 : Hid (VP p W v v L l op W) := Lib.hid ⟨h, hown, VK.refl _ _ _, fun k hk => Or.inl hk⟩
  have HBL := Lib.hid (fun (W : World) (hW : PS p l v op W) => p_blanks p l v op W hW)
  have HNO : Hid (∀ (e : Int) W, Calls Tryz.prog 87 #[.int .i64 e] W fun x w' => x = .panicked (stopL e) ∧ W = w') := Lib.hid fun e W => p_no e W
  have HEE := Lib.hid hE
  have hvl : ∃ a n c, v = .slice a n c ∧ n = L.length := by
    rcases HV0.out.own.2 with ⟨h1, h2⟩ | ⟨g, cap, cur, h1, _⟩
    · exact ⟨none, 0, 0, h1, h2.symm⟩
    · exact ⟨_, _, _, h1, rfl⟩
  obtain ⟨av, nv, cv, rfl, hnv⟩ := hvl
  have HNV := Lib.hid hnv
  have hnv8 : nv ≤ 2048 := by omega
  have HZ : Hid (valJ d name.data.toList l L = .error 40) := Lib.hid (by unfold valJ; rw [hb]; simp only [hbg, Bool.not_false, if_true])
  rw [hb] at HBL
  clear h hv hown hE hb hnv
  go_enter Tryz.func85, Tryz.ntmps85
  go_wp2_with fail
  refine (HBL.out _ HV0.out.st).mono ?_; rintro x w1 ⟨rfl, hst, hk⟩
  have HV1 := Lib.hid (HV0.out.rk hst hk)
  obtain ⟨b, hbl, hr⟩ := hst
  obtain ⟨c0, c1, c2⟩ := hr.cells
  obtain ⟨hb1, hb2, hb3, hb4, -⟩ := tl_cons hbl
  have h00 : b[0]'hb4 = c := at_zero hbl hb4
  obtain ⟨k, hkk⟩ : ∃ k, Lib.indexByte [123, 91, 34, 116, 102, 110, 45, 48, 49, 50, 51, 52, 53, 54, 55, 56, 57] c = k := ⟨_, rfl⟩
  have tk := beg_ix c
  rw [hkk, hbg] at tk
  simp only [Bool.not_true, Bool.not_false] at tk
  have HX1 : Hid (∀ W, Calls Tryz.prog 21 #[.string ⟨#[123, 91, 34, 116, 102, 110, 45, 48, 49, 50, 51, 52, 53, 54, 55, 56, 57]⟩, .int .u8 ((b[0]'hb4).toNat : Int)] W fun x w' => x = .returned (.int .i64 k) ∧ W = w') := Lib.hid fun W => by
    have := ix_any ⟨#[123, 91, 34, 116, 102, 110, 45, 48, 49, 50, 51, 52, 53, 54, 55, 56, 57]⟩ c W
    rw [show (⟨#[123, 91, 34, 116, 102, 110, 45, 48, 49, 50, 51, 52, 53, 54, 55, 56, 57]⟩ : ByteArray).data.toList = [123, 91, 34, 116, 102, 110, 45, 48, 49, 50, 51, 52, 53, 54, 55, 56, 57] from rfl, hkk] at this
    rw [h00]; exact this
  clear hk hr hbl h00 hkk
  go_wp2_with fail
  refine (HX1.out _).mono ?_; rintro x w2 ⟨rfl, rfl⟩
  go_wp2_with fail
  refine (HNO.out _ _).mono ?_; rintro x w3 ⟨rfl, rfl⟩
  go_wp2_with fail
  refine ⟨rfl, ?_⟩
  rw [HZ.out]
  exact ⟨rfl, HV1.out.vk.1⟩
set_option maxRecDepth 100000 in
set_option maxHeartbeats 4000000 in
theorem p_value_full (d p : Nat) (name : ByteArray) (op : Int) (v : Value) (L : List Cel) (l : List UInt8) (W : World) (hl : l.length ≤ 16384) (hv : validD l = true) (h : PS p l v op W) (hown : OwnC (p + 1) v L W) (hL : L.length ≤ 2048) (hE : EnvB p W) (c : UInt8) (rest : List UInt8) (hb : blJ l = c :: rest) (hbg : begJ c = true) (hf : L.length = 2048) :
    Calls Tryz.prog 85 #[.pointer (some ⟨p, 0, none⟩), .string name] W (VPE p W v op (valJ d name.data.toList l L)) := by
  have HV0 : Hid (VP p W v v L l op W) := Lib.hid ⟨h, hown, VK.refl _ _ _, fun k hk => Or.inl hk⟩
  have HBL := Lib.hid (fun (W : World) (hW : PS p l v op W) => p_blanks p l v op W hW)
  have HNO : Hid (∀ (e : Int) W, Calls Tryz.prog 87 #[.int .i64 e] W fun x w' => x = .panicked (stopL e) ∧ W = w') := Lib.hid fun e W => p_no e W
  have HEE := Lib.hid hE
  have hvl : ∃ a n c, v = .slice a n c ∧ n = L.length := by
    rcases HV0.out.own.2 with ⟨h1, h2⟩ | ⟨g, cap, cur, h1, _⟩
    · exact ⟨none, 0, 0, h1, h2.symm⟩
    · exact ⟨_, _, _, h1, rfl⟩
  obtain ⟨av, nv, cv, rfl, hnv⟩ := hvl
  have HNV := Lib.hid hnv
  have hnv8 : nv ≤ 2048 := by omega
  have HZ : Hid (valJ d name.data.toList l L = .error 4) := Lib.hid (by unfold valJ; rw [hb]; simp only [hbg, Bool.not_true, Bool.false_eq_true, if_false, hf, if_true])
  have tf : ((nv : Int) == 2048) = true := by rw [beq_iff_eq]; omega
  rw [hb] at HBL
  clear h hv hown hE hb hnv hf
  go_enter Tryz.func85, Tryz.ntmps85
  go_wp2_with fail
  refine (HBL.out _ HV0.out.st).mono ?_; rintro x w1 ⟨rfl, hst, hk⟩
  have HV1 := Lib.hid (HV0.out.rk hst hk)
  obtain ⟨b, hbl, hr⟩ := hst
  obtain ⟨c0, c1, c2⟩ := hr.cells
  obtain ⟨hb1, hb2, hb3, hb4, -⟩ := tl_cons hbl
  have h00 : b[0]'hb4 = c := at_zero hbl hb4
  obtain ⟨k, hkk⟩ : ∃ k, Lib.indexByte [123, 91, 34, 116, 102, 110, 45, 48, 49, 50, 51, 52, 53, 54, 55, 56, 57] c = k := ⟨_, rfl⟩
  have tk := beg_ix c
  rw [hkk, hbg] at tk
  simp only [Bool.not_true, Bool.not_false] at tk
  have HX1 : Hid (∀ W, Calls Tryz.prog 21 #[.string ⟨#[123, 91, 34, 116, 102, 110, 45, 48, 49, 50, 51, 52, 53, 54, 55, 56, 57]⟩, .int .u8 ((b[0]'hb4).toNat : Int)] W fun x w' => x = .returned (.int .i64 k) ∧ W = w') := Lib.hid fun W => by
    have := ix_any ⟨#[123, 91, 34, 116, 102, 110, 45, 48, 49, 50, 51, 52, 53, 54, 55, 56, 57]⟩ c W
    rw [show (⟨#[123, 91, 34, 116, 102, 110, 45, 48, 49, 50, 51, 52, 53, 54, 55, 56, 57]⟩ : ByteArray).data.toList = [123, 91, 34, 116, 102, 110, 45, 48, 49, 50, 51, 52, 53, 54, 55, 56, 57] from rfl, hkk] at this
    rw [h00]; exact this
  clear hk hr hbl h00 hkk
  go_wp2_with fail
  refine (HX1.out _).mono ?_; rintro x w2 ⟨rfl, rfl⟩
  go_wp2_with fail
  refine (HNO.out _ _).mono ?_; rintro x w3 ⟨rfl, rfl⟩
  go_wp2_with fail
  refine ⟨rfl, ?_⟩
  rw [HZ.out]
  exact ⟨rfl, HV1.out.vk.1⟩
set_option maxRecDepth 100000 in
set_option maxHeartbeats 4000000 in
theorem p_value_true (d p : Nat) (name : ByteArray) (op : Int) (v : Value) (L : List Cel) (l : List UInt8) (W : World) (hl : l.length ≤ 16384) (hv : validD l = true) (h : PS p l v op W) (hown : OwnC (p + 1) v L W) (hL : L.length ≤ 2048) (hE : EnvB p W) (c : UInt8) (rest : List UInt8) (hb : blJ l = c :: rest) (hbg : begJ c = true) (hf : L.length ≠ 2048) (hc : c = UInt8.ofNat 116) (t : List UInt8) (ht : tkJ [116, 114, 117, 101] (c :: rest) = some t) :
    Calls Tryz.prog 85 #[.pointer (some ⟨p, 0, none⟩), .string name] W (VPE p W v op (valJ d name.data.toList l L)) := by
  have HV0 : Hid (VP p W v v L l op W) := Lib.hid ⟨h, hown, VK.refl _ _ _, fun k hk => Or.inl hk⟩
  have HBL := Lib.hid (fun (W : World) (hW : PS p l v op W) => p_blanks p l v op W hW)
  have HNO : Hid (∀ (e : Int) W, Calls Tryz.prog 87 #[.int .i64 e] W fun x w' => x = .panicked (stopL e) ∧ W = w') := Lib.hid fun e W => p_no e W
  have HEE := Lib.hid hE
  have hvl : ∃ a n c, v = .slice a n c ∧ n = L.length := by
    rcases HV0.out.own.2 with ⟨h1, h2⟩ | ⟨g, cap, cur, h1, _⟩
    · exact ⟨none, 0, 0, h1, h2.symm⟩
    · exact ⟨_, _, _, h1, rfl⟩
  obtain ⟨av, nv, cv, rfl, hnv⟩ := hvl
  have HNV := Lib.hid hnv
  have hnv8 : nv ≤ 2048 := by omega
  have hL2 : nv ≤ 2047 := by omega
  have hL3 : L.length ≤ 2047 := by omega
  have tf : ((nv : Int) == 2048) = false := by rw [beq_eq_false_iff_ne]; omega
  have hcr : (c :: rest).length ≤ 16384 := by rw [← hb]; exact Nat.le_trans (cut_bl l).1 hl
  have hcv : validD (c :: rest) = true := by rw [← hb]; exact (cut_bl l).2 hv
  have hcc : (c.toNat : Int) = 116 := by rw [hc]; rfl
  have HZ : Hid (valJ d name.data.toList l L = .ok (t, L ++ [⟨1, name.data.toList, [], 1, 0⟩])) := Lib.hid (by
    rw [valJ_leaf d _ l L c rest hb hf hbg (by rw [hc]; decide)]
    have ht' := ht
    rw [hc] at ht' ⊢
    unfold leafJ
    rw [if_neg (by decide), if_pos (by decide), ht'])
  have HM := Lib.hid (fun (u : Value) (W : World) (hW : PS p (c :: rest) u op W) => must_ok (what := ⟨#[116, 114, 117, 101]⟩) ht W hW)
  rw [hb] at HBL
  clear h hv hown hE hb hnv hf hc ht
  go_enter Tryz.func85, Tryz.ntmps85
  go_wp2_with fail
  refine (HBL.out _ HV0.out.st).mono ?_; rintro x w1 ⟨rfl, hst, hk⟩
  have HV1 := Lib.hid (HV0.out.rk hst hk)
  obtain ⟨b, hbl, hr⟩ := hst
  obtain ⟨c0, c1, c2⟩ := hr.cells
  obtain ⟨hb1, hb2, hb3, hb4, -⟩ := tl_cons hbl
  have h00 : b[0]'hb4 = c := at_zero hbl hb4
  obtain ⟨k, hkk⟩ : ∃ k, Lib.indexByte [123, 91, 34, 116, 102, 110, 45, 48, 49, 50, 51, 52, 53, 54, 55, 56, 57] c = k := ⟨_, rfl⟩
  have tk := beg_ix c
  rw [hkk, hbg] at tk
  simp only [Bool.not_true, Bool.not_false] at tk
  have HX1 : Hid (∀ W, Calls Tryz.prog 21 #[.string ⟨#[123, 91, 34, 116, 102, 110, 45, 48, 49, 50, 51, 52, 53, 54, 55, 56, 57]⟩, .int .u8 ((b[0]'hb4).toNat : Int)] W fun x w' => x = .returned (.int .i64 k) ∧ W = w') := Lib.hid fun W => by
    have := ix_any ⟨#[123, 91, 34, 116, 102, 110, 45, 48, 49, 50, 51, 52, 53, 54, 55, 56, 57]⟩ c W
    rw [show (⟨#[123, 91, 34, 116, 102, 110, 45, 48, 49, 50, 51, 52, 53, 54, 55, 56, 57]⟩ : ByteArray).data.toList = [123, 91, 34, 116, 102, 110, 45, 48, 49, 50, 51, 52, 53, 54, 55, 56, 57] from rfl, hkk] at this
    rw [h00]; exact this
  clear hk hr hbl h00 hkk
  go_wp2_with fail
  refine (HX1.out _).mono ?_; rintro x w2 ⟨rfl, rfl⟩
  have HVA : Hid (VP p W (.slice av nv cv) (.slice av nv cv) L (c :: rest) op (World.alloc w1 (.cells #[.int .u8 0, .string name, .string ⟨#[]⟩, .int .i64 0, .int .i64 0] 124))) := Lib.hid (HV1.out.alloc _)
  have hszp := HVA.out.st.lt
  go_wp2_with (at_builtin; refine wpList_pushC rfl _ _ rfl (p + 1) (.slice av nv cv) L rfl HVA.out.own _ 1 name.data.toList rfl (heap_alloc_new _ _) ?c1 ?c2 ?_)
  case c1 => omega
  case c2 => exact hszp
  intro v5 w4 hown' hgrow hat
  obtain ⟨hst4, hv5⟩ := HVA.out.grown hown' hgrow hat (by simp)
  obtain ⟨w5, hw5⟩ : ∃ w5, (w4.setCell ⟨p, 1, none⟩ v5) = w5 := ⟨_, rfl⟩
  have HW5 := Lib.hid hw5
  rw [hw5] at hv5
  have HV5 := Lib.hid hv5
  obtain ⟨c14, c24, f14, f24⟩ := hst4.c12
  clear hown' hgrow hat hst4 hv5 HVA hszp hw5 c0 c1 c2
  have hkl : nv < (L ++ [(⟨0, name.data.toList, [], 0, 0⟩ : Cel)]).length := by rw [HNV.out]; simp
  obtain ⟨n5, hn5⟩ : ∃ n5, (L ++ [(⟨0, name.data.toList, [], 0, 0⟩ : Cel)]).length = n5 := ⟨_, rfl⟩
  have hk5 : n5 = nv + 1 := by rw [← hn5, HNV.out]; simp
  obtain ⟨g, cap, hvg, hBg, hgl, -⟩ := HV5.out.own.form nv hkl
  rw [hn5] at hvg
  subst hvg
  obtain ⟨c15, c25, f15, f25⟩ := HV5.out.st.c12
  have hpg : p < g := by omega
  have q1 : (n5 : Int) - 1 = (nv : Int) := by omega
  have q2 : IntKind.i64.wrap (nv : Int) = (nv : Int) := IntWalk.i64_in _ (by omega)
  have q3 : (0 : Int) ≤ (nv : Int) := by omega
  have q4 : (nv : Int) < (n5 : Int) := by omega
  have q5 : (nv : Int).toNat = nv := by omega
  clear hn5 hk5
  go_wp2_with fail
  try rw [HW5.out]
  refine wp_region_held_drew (S := fun W => W.cell? ⟨p, 1, none⟩ = some (.slice (some ⟨g, 0, none⟩) n5 cap)) (by kernel_rfl) (c15) (fun hHeld => ?_)
  refine tky 0 (some 40) (v := ?_) rfl (by kernel_rfl) (by kernel_rfl) (by kernel_rfl) (fun _ _ _ h => h) ?_ hHeld ?_
  rotate_left
  focus (intro w hSw; (try dsimp only at hSw); go_simp; (try with_reducible rfl); done)
  simp only [Act.put, List.setIfInBounds_toArray, List.set_cons_zero, List.set_cons_succ]
  refine tky 1 (some 41) (v := ?_) rfl (by kernel_rfl) (by kernel_rfl) (by kernel_rfl) (fun _ _ _ h => h) ?_ hHeld ?_
  rotate_left
  focus (intro w hSw; (try dsimp only at hSw); go_simp; (try with_reducible rfl); done)
  simp only [Act.put, List.setIfInBounds_toArray, List.set_cons_zero, List.set_cons_succ]
  refine tky 2 (some 42) (v := ?_) rfl (by kernel_rfl) (by kernel_rfl) (by kernel_rfl) (fun _ _ _ h => h) ?_ hHeld ?_
  rotate_left
  focus (intro w hSw; (try dsimp only at hSw); go_simp; (try with_reducible rfl); done)
  simp only [Act.put, List.setIfInBounds_toArray, List.set_cons_zero, List.set_cons_succ]
  refine tky 3 (some 43) (v := ?_) rfl (by kernel_rfl) (by kernel_rfl) (by kernel_rfl) (fun _ _ _ h => h) ?_ hHeld ?_
  rotate_left
  focus (intro w hSw; (try dsimp only at hSw); go_simp; (try with_reducible rfl); done)
  simp only [Act.put, List.setIfInBounds_toArray, List.set_cons_zero, List.set_cons_succ]
  refine tky 4 (some 44) (v := ?_) rfl (by kernel_rfl) (by kernel_rfl) (by kernel_rfl) (fun _ _ _ h => h) ?_ hHeld ?_
  rotate_left
  focus (intro w hSw; (try dsimp only at hSw); go_simp; (try with_reducible rfl); done)
  simp only [Act.put, List.setIfInBounds_toArray, List.set_cons_zero, List.set_cons_succ]
  refine tky 5 (some 45) (v := ?_) rfl (by kernel_rfl) (by kernel_rfl) (by kernel_rfl) (fun _ _ _ h => h) ?_ hHeld ?_
  rotate_left
  focus (intro w hSw; (try dsimp only at hSw); go_simp; (try with_reducible rfl); done)
  simp only [Act.put, List.setIfInBounds_toArray, List.set_cons_zero, List.set_cons_succ]
  refine tky 6 (some 46) (v := ?_) rfl (by kernel_rfl) (by kernel_rfl) (by kernel_rfl) (fun _ _ _ h => h) ?_ hHeld ?_
  rotate_left
  focus (intro w hSw; (try dsimp only at hSw); go_simp; (try with_reducible rfl); done)
  simp only [Act.put, List.setIfInBounds_toArray, List.set_cons_zero, List.set_cons_succ]
  refine tky 7 (some 47) (v := ?_) rfl (by kernel_rfl) (by kernel_rfl) (by kernel_rfl) (fun _ _ _ h => h) ?_ hHeld ?_
  rotate_left
  focus (intro w hSw; (try dsimp only at hSw); go_simp; (try with_reducible rfl); done)
  simp only [Act.put, List.setIfInBounds_toArray, List.set_cons_zero, List.set_cons_succ]
  refine tky 8 (some 48) (v := ?_) rfl (by kernel_rfl) (by kernel_rfl) (by kernel_rfl) (fun _ _ _ h => h) ?_ hHeld ?_
  rotate_left
  focus (intro w hSw; (try dsimp only at hSw); go_simp; (try with_reducible rfl); done)
  simp only [Act.put, List.setIfInBounds_toArray, List.set_cons_zero, List.set_cons_succ]
  refine tky 9 (some 49) (v := ?_) rfl (by kernel_rfl) (by kernel_rfl) (by kernel_rfl) (fun _ _ _ h => h) ?_ hHeld ?_
  rotate_left
  focus (intro w hSw; (try dsimp only at hSw); go_simp; (try with_reducible rfl); done)
  simp only [Act.put, List.setIfInBounds_toArray, List.set_cons_zero, List.set_cons_succ]
  refine tky 10 (some 50) (v := ?_) rfl (by kernel_rfl) (by kernel_rfl) (by kernel_rfl) (fun _ _ _ h => h) ?_ hHeld ?_
  rotate_left
  focus (intro w hSw; (try dsimp only at hSw); go_simp; (try with_reducible rfl); done)
  simp only [Act.put, List.setIfInBounds_toArray, List.set_cons_zero, List.set_cons_succ]
  refine tky 11 (some 4) (v := ?_) rfl (by kernel_rfl) (by kernel_rfl) (by kernel_rfl) (fun _ _ _ h => h) ?_ hHeld ?_
  rotate_left
  focus (intro w hSw; (try dsimp only at hSw); go_simp; (try with_reducible rfl); done)
  simp only [Act.put, List.setIfInBounds_toArray, List.set_cons_zero, List.set_cons_succ]
  refine wpAnyH_done (by kernel_rfl) ?_ _
  obtain ⟨w6, hw6⟩ : ∃ w6, w5.drew = w6 := ⟨_, rfl⟩
  have HV6 : Hid (VP p W (.slice av nv cv) (.slice (some ⟨g, 0, none⟩) n5 cap) (L ++ [⟨0, name.data.toList, [], 0, 0⟩]) (c :: rest) op w6) := Lib.hid (by rw [← hw6]; exact HV5.out.below ⟨rfl, rfl, rfl, Nat.le_refl _, fun _ _ => rfl⟩)
  rw [hw6]
  obtain ⟨b6, hb6l, hr6⟩ := HV6.out.st
  have HR6 := Lib.hid hr6
  have HB6 := Lib.hid hb6l
  obtain ⟨d0, d1, d2⟩ := hr6.cells
  have e0 := hr6.frozen 0
  obtain ⟨y1, y2, y3, y4, -⟩ := tl_cons hb6l
  have h06 : b6[0]'y4 = c := at_zero hb6l y4
  obtain ⟨hfz, ck0, ck2, ck3⟩ := HV6.out.own.at_ rfl nv hkl
  have hfz0 := hfz (nv * 5)
  have hfz2 := hfz (nv * 5 + 2)
  have hfz3 := hfz (nv * 5 + 3)
  obtain ⟨z0, hz0⟩ : ∃ z : Int, (((L ++ [(⟨0, name.data.toList, [], 0, 0⟩ : Cel)])[nv]'hkl).kind.toNat : Int) = z := ⟨_, rfl⟩
  rw [hz0] at ck0
  clear hw6 hr6 hfz hz0 c14 c24 f14 f24 c15 c25 f15 f25 q1 q2 q3 q4 q5 HW5
  have t06 : ((b6[0]'y4).toNat : Int) = (c.toNat : Int) := by rw [h06]
  rw [hcc] at t06
  clear h06 hb6l hHeld
  go_wp2_with fail
  have HV6n : Hid (VP p W (.slice av nv cv) (.slice (some ⟨g, 0, none⟩) n5 cap) ((((L ++ [(⟨0, name.data.toList, [], 0, 0⟩ : Cel)])).modify nv fun c => { c with kind := 1 })) (c :: rest) op (w6.setCell ⟨g, nv * 5, none⟩ (.int .u8 1))) := Lib.hid (HV6.out.set rfl hpg (by rw [List.length_modify]) (by exact celFlat_set0 _ _ 1))
  have HV6nn : Hid (VP p W (.slice av nv cv) (.slice (some ⟨g, 0, none⟩) n5 cap) ((((((L ++ [(⟨0, name.data.toList, [], 0, 0⟩ : Cel)])).modify nv fun c => { c with kind := 1 })).modify nv fun c => { c with num := 1 })) (c :: rest) op ((w6.setCell ⟨g, nv * 5, none⟩ (.int .u8 1)).setCell ⟨g, nv * 5 + 3, none⟩ (.int .i64 1))) := Lib.hid (HV6n.out.set rfl hpg (by rw [List.length_modify]) (by exact celFlat_set3 _ _ 1))
  have HOUT : Hid ((((((L ++ [(⟨0, name.data.toList, [], 0, 0⟩ : Cel)])).modify nv fun c => { c with kind := 1 })).modify nv fun c => { c with num := 1 }) = L ++ [⟨1, name.data.toList, [], 1, 0⟩]) := Lib.hid (by
    have hnl := HNV.out
    rw [modify_end' _ _ _ _ hnl, modify_end' _ _ _ _ hnl])
  refine (HM.out _ _ HV6nn.out.st).mono ?_; rintro x w8 ⟨rfl, hst, hk⟩
  have HV8 := Lib.hid (HV6nn.out.rk hst hk)
  clear hst hk
  go_wp2_with fail
  go_end0
  rw [HZ.out]
  rw [HOUT.out] at HV8
  exact ⟨rfl, by simp; omega, _, HV8.out⟩
set_option maxRecDepth 100000 in
set_option maxHeartbeats 4000000 in
theorem p_value_true_no (d p : Nat) (name : ByteArray) (op : Int) (v : Value) (L : List Cel) (l : List UInt8) (W : World) (hl : l.length ≤ 16384) (hv : validD l = true) (h : PS p l v op W) (hown : OwnC (p + 1) v L W) (hL : L.length ≤ 2048) (hE : EnvB p W) (c : UInt8) (rest : List UInt8) (hb : blJ l = c :: rest) (hbg : begJ c = true) (hf : L.length ≠ 2048) (hc : c = UInt8.ofNat 116) (ht : tkJ [116, 114, 117, 101] (c :: rest) = none) :
    Calls Tryz.prog 85 #[.pointer (some ⟨p, 0, none⟩), .string name] W (VPE p W v op (valJ d name.data.toList l L)) := by
  have HV0 : Hid (VP p W v v L l op W) := Lib.hid ⟨h, hown, VK.refl _ _ _, fun k hk => Or.inl hk⟩
  have HBL := Lib.hid (fun (W : World) (hW : PS p l v op W) => p_blanks p l v op W hW)
  have HNO : Hid (∀ (e : Int) W, Calls Tryz.prog 87 #[.int .i64 e] W fun x w' => x = .panicked (stopL e) ∧ W = w') := Lib.hid fun e W => p_no e W
  have HEE := Lib.hid hE
  have hvl : ∃ a n c, v = .slice a n c ∧ n = L.length := by
    rcases HV0.out.own.2 with ⟨h1, h2⟩ | ⟨g, cap, cur, h1, _⟩
    · exact ⟨none, 0, 0, h1, h2.symm⟩
    · exact ⟨_, _, _, h1, rfl⟩
  obtain ⟨av, nv, cv, rfl, hnv⟩ := hvl
  have HNV := Lib.hid hnv
  have hnv8 : nv ≤ 2048 := by omega
  have hL2 : nv ≤ 2047 := by omega
  have hL3 : L.length ≤ 2047 := by omega
  have tf : ((nv : Int) == 2048) = false := by rw [beq_eq_false_iff_ne]; omega
  have hcr : (c :: rest).length ≤ 16384 := by rw [← hb]; exact Nat.le_trans (cut_bl l).1 hl
  have hcv : validD (c :: rest) = true := by rw [← hb]; exact (cut_bl l).2 hv
  have hcc : (c.toNat : Int) = 116 := by rw [hc]; rfl
  have HZ : Hid (valJ d name.data.toList l L = .error 40) := Lib.hid (by
    rw [valJ_leaf d _ l L c rest hb hf hbg (by rw [hc]; decide)]
    have ht' := ht
    rw [hc] at ht' ⊢
    unfold leafJ
    rw [if_neg (by decide), if_pos (by decide), ht'])
  have HM := Lib.hid (fun (u : Value) (W : World) (hW : PS p (c :: rest) u op W) => must_no (what := ⟨#[116, 114, 117, 101]⟩) ht W hW)
  rw [hb] at HBL
  clear h hv hown hE hb hnv hf hc ht
  go_enter Tryz.func85, Tryz.ntmps85
  go_wp2_with fail
  refine (HBL.out _ HV0.out.st).mono ?_; rintro x w1 ⟨rfl, hst, hk⟩
  have HV1 := Lib.hid (HV0.out.rk hst hk)
  obtain ⟨b, hbl, hr⟩ := hst
  obtain ⟨c0, c1, c2⟩ := hr.cells
  obtain ⟨hb1, hb2, hb3, hb4, -⟩ := tl_cons hbl
  have h00 : b[0]'hb4 = c := at_zero hbl hb4
  obtain ⟨k, hkk⟩ : ∃ k, Lib.indexByte [123, 91, 34, 116, 102, 110, 45, 48, 49, 50, 51, 52, 53, 54, 55, 56, 57] c = k := ⟨_, rfl⟩
  have tk := beg_ix c
  rw [hkk, hbg] at tk
  simp only [Bool.not_true, Bool.not_false] at tk
  have HX1 : Hid (∀ W, Calls Tryz.prog 21 #[.string ⟨#[123, 91, 34, 116, 102, 110, 45, 48, 49, 50, 51, 52, 53, 54, 55, 56, 57]⟩, .int .u8 ((b[0]'hb4).toNat : Int)] W fun x w' => x = .returned (.int .i64 k) ∧ W = w') := Lib.hid fun W => by
    have := ix_any ⟨#[123, 91, 34, 116, 102, 110, 45, 48, 49, 50, 51, 52, 53, 54, 55, 56, 57]⟩ c W
    rw [show (⟨#[123, 91, 34, 116, 102, 110, 45, 48, 49, 50, 51, 52, 53, 54, 55, 56, 57]⟩ : ByteArray).data.toList = [123, 91, 34, 116, 102, 110, 45, 48, 49, 50, 51, 52, 53, 54, 55, 56, 57] from rfl, hkk] at this
    rw [h00]; exact this
  clear hk hr hbl h00 hkk
  go_wp2_with fail
  refine (HX1.out _).mono ?_; rintro x w2 ⟨rfl, rfl⟩
  have HVA : Hid (VP p W (.slice av nv cv) (.slice av nv cv) L (c :: rest) op (World.alloc w1 (.cells #[.int .u8 0, .string name, .string ⟨#[]⟩, .int .i64 0, .int .i64 0] 124))) := Lib.hid (HV1.out.alloc _)
  have hszp := HVA.out.st.lt
  go_wp2_with (at_builtin; refine wpList_pushC rfl _ _ rfl (p + 1) (.slice av nv cv) L rfl HVA.out.own _ 1 name.data.toList rfl (heap_alloc_new _ _) ?c1 ?c2 ?_)
  case c1 => omega
  case c2 => exact hszp
  intro v5 w4 hown' hgrow hat
  obtain ⟨hst4, hv5⟩ := HVA.out.grown hown' hgrow hat (by simp)
  obtain ⟨w5, hw5⟩ : ∃ w5, (w4.setCell ⟨p, 1, none⟩ v5) = w5 := ⟨_, rfl⟩
  have HW5 := Lib.hid hw5
  rw [hw5] at hv5
  have HV5 := Lib.hid hv5
  obtain ⟨c14, c24, f14, f24⟩ := hst4.c12
  clear hown' hgrow hat hst4 hv5 HVA hszp hw5 c0 c1 c2
  have hkl : nv < (L ++ [(⟨0, name.data.toList, [], 0, 0⟩ : Cel)]).length := by rw [HNV.out]; simp
  obtain ⟨n5, hn5⟩ : ∃ n5, (L ++ [(⟨0, name.data.toList, [], 0, 0⟩ : Cel)]).length = n5 := ⟨_, rfl⟩
  have hk5 : n5 = nv + 1 := by rw [← hn5, HNV.out]; simp
  obtain ⟨g, cap, hvg, hBg, hgl, -⟩ := HV5.out.own.form nv hkl
  rw [hn5] at hvg
  subst hvg
  obtain ⟨c15, c25, f15, f25⟩ := HV5.out.st.c12
  have hpg : p < g := by omega
  have q1 : (n5 : Int) - 1 = (nv : Int) := by omega
  have q2 : IntKind.i64.wrap (nv : Int) = (nv : Int) := IntWalk.i64_in _ (by omega)
  have q3 : (0 : Int) ≤ (nv : Int) := by omega
  have q4 : (nv : Int) < (n5 : Int) := by omega
  have q5 : (nv : Int).toNat = nv := by omega
  clear hn5 hk5
  go_wp2_with fail
  try rw [HW5.out]
  refine wp_region_held_drew (S := fun W => W.cell? ⟨p, 1, none⟩ = some (.slice (some ⟨g, 0, none⟩) n5 cap)) (by kernel_rfl) (c15) (fun hHeld => ?_)
  refine tky 0 (some 40) (v := ?_) rfl (by kernel_rfl) (by kernel_rfl) (by kernel_rfl) (fun _ _ _ h => h) ?_ hHeld ?_
  rotate_left
  focus (intro w hSw; (try dsimp only at hSw); go_simp; (try with_reducible rfl); done)
  simp only [Act.put, List.setIfInBounds_toArray, List.set_cons_zero, List.set_cons_succ]
  refine tky 1 (some 41) (v := ?_) rfl (by kernel_rfl) (by kernel_rfl) (by kernel_rfl) (fun _ _ _ h => h) ?_ hHeld ?_
  rotate_left
  focus (intro w hSw; (try dsimp only at hSw); go_simp; (try with_reducible rfl); done)
  simp only [Act.put, List.setIfInBounds_toArray, List.set_cons_zero, List.set_cons_succ]
  refine tky 2 (some 42) (v := ?_) rfl (by kernel_rfl) (by kernel_rfl) (by kernel_rfl) (fun _ _ _ h => h) ?_ hHeld ?_
  rotate_left
  focus (intro w hSw; (try dsimp only at hSw); go_simp; (try with_reducible rfl); done)
  simp only [Act.put, List.setIfInBounds_toArray, List.set_cons_zero, List.set_cons_succ]
  refine tky 3 (some 43) (v := ?_) rfl (by kernel_rfl) (by kernel_rfl) (by kernel_rfl) (fun _ _ _ h => h) ?_ hHeld ?_
  rotate_left
  focus (intro w hSw; (try dsimp only at hSw); go_simp; (try with_reducible rfl); done)
  simp only [Act.put, List.setIfInBounds_toArray, List.set_cons_zero, List.set_cons_succ]
  refine tky 4 (some 44) (v := ?_) rfl (by kernel_rfl) (by kernel_rfl) (by kernel_rfl) (fun _ _ _ h => h) ?_ hHeld ?_
  rotate_left
  focus (intro w hSw; (try dsimp only at hSw); go_simp; (try with_reducible rfl); done)
  simp only [Act.put, List.setIfInBounds_toArray, List.set_cons_zero, List.set_cons_succ]
  refine tky 5 (some 45) (v := ?_) rfl (by kernel_rfl) (by kernel_rfl) (by kernel_rfl) (fun _ _ _ h => h) ?_ hHeld ?_
  rotate_left
  focus (intro w hSw; (try dsimp only at hSw); go_simp; (try with_reducible rfl); done)
  simp only [Act.put, List.setIfInBounds_toArray, List.set_cons_zero, List.set_cons_succ]
  refine tky 6 (some 46) (v := ?_) rfl (by kernel_rfl) (by kernel_rfl) (by kernel_rfl) (fun _ _ _ h => h) ?_ hHeld ?_
  rotate_left
  focus (intro w hSw; (try dsimp only at hSw); go_simp; (try with_reducible rfl); done)
  simp only [Act.put, List.setIfInBounds_toArray, List.set_cons_zero, List.set_cons_succ]
  refine tky 7 (some 47) (v := ?_) rfl (by kernel_rfl) (by kernel_rfl) (by kernel_rfl) (fun _ _ _ h => h) ?_ hHeld ?_
  rotate_left
  focus (intro w hSw; (try dsimp only at hSw); go_simp; (try with_reducible rfl); done)
  simp only [Act.put, List.setIfInBounds_toArray, List.set_cons_zero, List.set_cons_succ]
  refine tky 8 (some 48) (v := ?_) rfl (by kernel_rfl) (by kernel_rfl) (by kernel_rfl) (fun _ _ _ h => h) ?_ hHeld ?_
  rotate_left
  focus (intro w hSw; (try dsimp only at hSw); go_simp; (try with_reducible rfl); done)
  simp only [Act.put, List.setIfInBounds_toArray, List.set_cons_zero, List.set_cons_succ]
  refine tky 9 (some 49) (v := ?_) rfl (by kernel_rfl) (by kernel_rfl) (by kernel_rfl) (fun _ _ _ h => h) ?_ hHeld ?_
  rotate_left
  focus (intro w hSw; (try dsimp only at hSw); go_simp; (try with_reducible rfl); done)
  simp only [Act.put, List.setIfInBounds_toArray, List.set_cons_zero, List.set_cons_succ]
  refine tky 10 (some 50) (v := ?_) rfl (by kernel_rfl) (by kernel_rfl) (by kernel_rfl) (fun _ _ _ h => h) ?_ hHeld ?_
  rotate_left
  focus (intro w hSw; (try dsimp only at hSw); go_simp; (try with_reducible rfl); done)
  simp only [Act.put, List.setIfInBounds_toArray, List.set_cons_zero, List.set_cons_succ]
  refine tky 11 (some 4) (v := ?_) rfl (by kernel_rfl) (by kernel_rfl) (by kernel_rfl) (fun _ _ _ h => h) ?_ hHeld ?_
  rotate_left
  focus (intro w hSw; (try dsimp only at hSw); go_simp; (try with_reducible rfl); done)
  simp only [Act.put, List.setIfInBounds_toArray, List.set_cons_zero, List.set_cons_succ]
  refine wpAnyH_done (by kernel_rfl) ?_ _
  obtain ⟨w6, hw6⟩ : ∃ w6, w5.drew = w6 := ⟨_, rfl⟩
  have HV6 : Hid (VP p W (.slice av nv cv) (.slice (some ⟨g, 0, none⟩) n5 cap) (L ++ [⟨0, name.data.toList, [], 0, 0⟩]) (c :: rest) op w6) := Lib.hid (by rw [← hw6]; exact HV5.out.below ⟨rfl, rfl, rfl, Nat.le_refl _, fun _ _ => rfl⟩)
  rw [hw6]
  obtain ⟨b6, hb6l, hr6⟩ := HV6.out.st
  have HR6 := Lib.hid hr6
  have HB6 := Lib.hid hb6l
  obtain ⟨d0, d1, d2⟩ := hr6.cells
  have e0 := hr6.frozen 0
  obtain ⟨y1, y2, y3, y4, -⟩ := tl_cons hb6l
  have h06 : b6[0]'y4 = c := at_zero hb6l y4
  obtain ⟨hfz, ck0, ck2, ck3⟩ := HV6.out.own.at_ rfl nv hkl
  have hfz0 := hfz (nv * 5)
  have hfz2 := hfz (nv * 5 + 2)
  have hfz3 := hfz (nv * 5 + 3)
  obtain ⟨z0, hz0⟩ : ∃ z : Int, (((L ++ [(⟨0, name.data.toList, [], 0, 0⟩ : Cel)])[nv]'hkl).kind.toNat : Int) = z := ⟨_, rfl⟩
  rw [hz0] at ck0
  clear hw6 hr6 hfz hz0 c14 c24 f14 f24 c15 c25 f15 f25 q1 q2 q3 q4 q5 HW5
  have t06 : ((b6[0]'y4).toNat : Int) = (c.toNat : Int) := by rw [h06]
  rw [hcc] at t06
  clear h06 hb6l hHeld
  go_wp2_with fail
  have HV6n : Hid (VP p W (.slice av nv cv) (.slice (some ⟨g, 0, none⟩) n5 cap) ((((L ++ [(⟨0, name.data.toList, [], 0, 0⟩ : Cel)])).modify nv fun c => { c with kind := 1 })) (c :: rest) op (w6.setCell ⟨g, nv * 5, none⟩ (.int .u8 1))) := Lib.hid (HV6.out.set rfl hpg (by rw [List.length_modify]) (by exact celFlat_set0 _ _ 1))
  have HV6nn : Hid (VP p W (.slice av nv cv) (.slice (some ⟨g, 0, none⟩) n5 cap) ((((((L ++ [(⟨0, name.data.toList, [], 0, 0⟩ : Cel)])).modify nv fun c => { c with kind := 1 })).modify nv fun c => { c with num := 1 })) (c :: rest) op ((w6.setCell ⟨g, nv * 5, none⟩ (.int .u8 1)).setCell ⟨g, nv * 5 + 3, none⟩ (.int .i64 1))) := Lib.hid (HV6n.out.set rfl hpg (by rw [List.length_modify]) (by exact celFlat_set3 _ _ 1))
  have HOUT : Hid ((((((L ++ [(⟨0, name.data.toList, [], 0, 0⟩ : Cel)])).modify nv fun c => { c with kind := 1 })).modify nv fun c => { c with num := 1 }) = L ++ [⟨1, name.data.toList, [], 1, 0⟩]) := Lib.hid (by
    have hnl := HNV.out
    rw [modify_end' _ _ _ _ hnl, modify_end' _ _ _ _ hnl])
  refine (HM.out _ _ HV6nn.out.st).mono ?_; rintro x w8 ⟨rfl, hb⟩
  have HB8 := Lib.hid (HV6nn.out.vk.1.trans hb)
  clear hb
  go_wp2_with fail
  refine ⟨rfl, ?_⟩
  rw [HZ.out]
  exact ⟨rfl, HB8.out⟩
set_option maxRecDepth 100000 in
set_option maxHeartbeats 4000000 in
theorem p_value_false (d p : Nat) (name : ByteArray) (op : Int) (v : Value) (L : List Cel) (l : List UInt8) (W : World) (hl : l.length ≤ 16384) (hv : validD l = true) (h : PS p l v op W) (hown : OwnC (p + 1) v L W) (hL : L.length ≤ 2048) (hE : EnvB p W) (c : UInt8) (rest : List UInt8) (hb : blJ l = c :: rest) (hbg : begJ c = true) (hf : L.length ≠ 2048) (hc : c = UInt8.ofNat 102) (t : List UInt8) (ht : tkJ [102, 97, 108, 115, 101] (c :: rest) = some t) :
    Calls Tryz.prog 85 #[.pointer (some ⟨p, 0, none⟩), .string name] W (VPE p W v op (valJ d name.data.toList l L)) := by
  have HV0 : Hid (VP p W v v L l op W) := Lib.hid ⟨h, hown, VK.refl _ _ _, fun k hk => Or.inl hk⟩
  have HBL := Lib.hid (fun (W : World) (hW : PS p l v op W) => p_blanks p l v op W hW)
  have HNO : Hid (∀ (e : Int) W, Calls Tryz.prog 87 #[.int .i64 e] W fun x w' => x = .panicked (stopL e) ∧ W = w') := Lib.hid fun e W => p_no e W
  have HEE := Lib.hid hE
  have hvl : ∃ a n c, v = .slice a n c ∧ n = L.length := by
    rcases HV0.out.own.2 with ⟨h1, h2⟩ | ⟨g, cap, cur, h1, _⟩
    · exact ⟨none, 0, 0, h1, h2.symm⟩
    · exact ⟨_, _, _, h1, rfl⟩
  obtain ⟨av, nv, cv, rfl, hnv⟩ := hvl
  have HNV := Lib.hid hnv
  have hnv8 : nv ≤ 2048 := by omega
  have hL2 : nv ≤ 2047 := by omega
  have hL3 : L.length ≤ 2047 := by omega
  have tf : ((nv : Int) == 2048) = false := by rw [beq_eq_false_iff_ne]; omega
  have hcr : (c :: rest).length ≤ 16384 := by rw [← hb]; exact Nat.le_trans (cut_bl l).1 hl
  have hcv : validD (c :: rest) = true := by rw [← hb]; exact (cut_bl l).2 hv
  have hcc : (c.toNat : Int) = 102 := by rw [hc]; rfl
  have HZ : Hid (valJ d name.data.toList l L = .ok (t, L ++ [⟨1, name.data.toList, [], 0, 0⟩])) := Lib.hid (by
    rw [valJ_leaf d _ l L c rest hb hf hbg (by rw [hc]; decide)]
    have ht' := ht
    rw [hc] at ht' ⊢
    unfold leafJ
    rw [if_neg (by decide), if_neg (by decide), if_pos (by decide), ht'])
  have HM := Lib.hid (fun (u : Value) (W : World) (hW : PS p (c :: rest) u op W) => must_ok (what := ⟨#[102, 97, 108, 115, 101]⟩) ht W hW)
  rw [hb] at HBL
  clear h hv hown hE hb hnv hf hc ht
  go_enter Tryz.func85, Tryz.ntmps85
  go_wp2_with fail
  refine (HBL.out _ HV0.out.st).mono ?_; rintro x w1 ⟨rfl, hst, hk⟩
  have HV1 := Lib.hid (HV0.out.rk hst hk)
  obtain ⟨b, hbl, hr⟩ := hst
  obtain ⟨c0, c1, c2⟩ := hr.cells
  obtain ⟨hb1, hb2, hb3, hb4, -⟩ := tl_cons hbl
  have h00 : b[0]'hb4 = c := at_zero hbl hb4
  obtain ⟨k, hkk⟩ : ∃ k, Lib.indexByte [123, 91, 34, 116, 102, 110, 45, 48, 49, 50, 51, 52, 53, 54, 55, 56, 57] c = k := ⟨_, rfl⟩
  have tk := beg_ix c
  rw [hkk, hbg] at tk
  simp only [Bool.not_true, Bool.not_false] at tk
  have HX1 : Hid (∀ W, Calls Tryz.prog 21 #[.string ⟨#[123, 91, 34, 116, 102, 110, 45, 48, 49, 50, 51, 52, 53, 54, 55, 56, 57]⟩, .int .u8 ((b[0]'hb4).toNat : Int)] W fun x w' => x = .returned (.int .i64 k) ∧ W = w') := Lib.hid fun W => by
    have := ix_any ⟨#[123, 91, 34, 116, 102, 110, 45, 48, 49, 50, 51, 52, 53, 54, 55, 56, 57]⟩ c W
    rw [show (⟨#[123, 91, 34, 116, 102, 110, 45, 48, 49, 50, 51, 52, 53, 54, 55, 56, 57]⟩ : ByteArray).data.toList = [123, 91, 34, 116, 102, 110, 45, 48, 49, 50, 51, 52, 53, 54, 55, 56, 57] from rfl, hkk] at this
    rw [h00]; exact this
  clear hk hr hbl h00 hkk
  go_wp2_with fail
  refine (HX1.out _).mono ?_; rintro x w2 ⟨rfl, rfl⟩
  have HVA : Hid (VP p W (.slice av nv cv) (.slice av nv cv) L (c :: rest) op (World.alloc w1 (.cells #[.int .u8 0, .string name, .string ⟨#[]⟩, .int .i64 0, .int .i64 0] 124))) := Lib.hid (HV1.out.alloc _)
  have hszp := HVA.out.st.lt
  go_wp2_with (at_builtin; refine wpList_pushC rfl _ _ rfl (p + 1) (.slice av nv cv) L rfl HVA.out.own _ 1 name.data.toList rfl (heap_alloc_new _ _) ?c1 ?c2 ?_)
  case c1 => omega
  case c2 => exact hszp
  intro v5 w4 hown' hgrow hat
  obtain ⟨hst4, hv5⟩ := HVA.out.grown hown' hgrow hat (by simp)
  obtain ⟨w5, hw5⟩ : ∃ w5, (w4.setCell ⟨p, 1, none⟩ v5) = w5 := ⟨_, rfl⟩
  have HW5 := Lib.hid hw5
  rw [hw5] at hv5
  have HV5 := Lib.hid hv5
  obtain ⟨c14, c24, f14, f24⟩ := hst4.c12
  clear hown' hgrow hat hst4 hv5 HVA hszp hw5 c0 c1 c2
  have hkl : nv < (L ++ [(⟨0, name.data.toList, [], 0, 0⟩ : Cel)]).length := by rw [HNV.out]; simp
  obtain ⟨n5, hn5⟩ : ∃ n5, (L ++ [(⟨0, name.data.toList, [], 0, 0⟩ : Cel)]).length = n5 := ⟨_, rfl⟩
  have hk5 : n5 = nv + 1 := by rw [← hn5, HNV.out]; simp
  obtain ⟨g, cap, hvg, hBg, hgl, -⟩ := HV5.out.own.form nv hkl
  rw [hn5] at hvg
  subst hvg
  obtain ⟨c15, c25, f15, f25⟩ := HV5.out.st.c12
  have hpg : p < g := by omega
  have q1 : (n5 : Int) - 1 = (nv : Int) := by omega
  have q2 : IntKind.i64.wrap (nv : Int) = (nv : Int) := IntWalk.i64_in _ (by omega)
  have q3 : (0 : Int) ≤ (nv : Int) := by omega
  have q4 : (nv : Int) < (n5 : Int) := by omega
  have q5 : (nv : Int).toNat = nv := by omega
  clear hn5 hk5
  go_wp2_with fail
  try rw [HW5.out]
  refine wp_region_held_drew (S := fun W => W.cell? ⟨p, 1, none⟩ = some (.slice (some ⟨g, 0, none⟩) n5 cap)) (by kernel_rfl) (c15) (fun hHeld => ?_)
  refine tky 0 (some 40) (v := ?_) rfl (by kernel_rfl) (by kernel_rfl) (by kernel_rfl) (fun _ _ _ h => h) ?_ hHeld ?_
  rotate_left
  focus (intro w hSw; (try dsimp only at hSw); go_simp; (try with_reducible rfl); done)
  simp only [Act.put, List.setIfInBounds_toArray, List.set_cons_zero, List.set_cons_succ]
  refine tky 1 (some 41) (v := ?_) rfl (by kernel_rfl) (by kernel_rfl) (by kernel_rfl) (fun _ _ _ h => h) ?_ hHeld ?_
  rotate_left
  focus (intro w hSw; (try dsimp only at hSw); go_simp; (try with_reducible rfl); done)
  simp only [Act.put, List.setIfInBounds_toArray, List.set_cons_zero, List.set_cons_succ]
  refine tky 2 (some 42) (v := ?_) rfl (by kernel_rfl) (by kernel_rfl) (by kernel_rfl) (fun _ _ _ h => h) ?_ hHeld ?_
  rotate_left
  focus (intro w hSw; (try dsimp only at hSw); go_simp; (try with_reducible rfl); done)
  simp only [Act.put, List.setIfInBounds_toArray, List.set_cons_zero, List.set_cons_succ]
  refine tky 3 (some 43) (v := ?_) rfl (by kernel_rfl) (by kernel_rfl) (by kernel_rfl) (fun _ _ _ h => h) ?_ hHeld ?_
  rotate_left
  focus (intro w hSw; (try dsimp only at hSw); go_simp; (try with_reducible rfl); done)
  simp only [Act.put, List.setIfInBounds_toArray, List.set_cons_zero, List.set_cons_succ]
  refine tky 4 (some 44) (v := ?_) rfl (by kernel_rfl) (by kernel_rfl) (by kernel_rfl) (fun _ _ _ h => h) ?_ hHeld ?_
  rotate_left
  focus (intro w hSw; (try dsimp only at hSw); go_simp; (try with_reducible rfl); done)
  simp only [Act.put, List.setIfInBounds_toArray, List.set_cons_zero, List.set_cons_succ]
  refine tky 5 (some 45) (v := ?_) rfl (by kernel_rfl) (by kernel_rfl) (by kernel_rfl) (fun _ _ _ h => h) ?_ hHeld ?_
  rotate_left
  focus (intro w hSw; (try dsimp only at hSw); go_simp; (try with_reducible rfl); done)
  simp only [Act.put, List.setIfInBounds_toArray, List.set_cons_zero, List.set_cons_succ]
  refine tky 6 (some 46) (v := ?_) rfl (by kernel_rfl) (by kernel_rfl) (by kernel_rfl) (fun _ _ _ h => h) ?_ hHeld ?_
  rotate_left
  focus (intro w hSw; (try dsimp only at hSw); go_simp; (try with_reducible rfl); done)
  simp only [Act.put, List.setIfInBounds_toArray, List.set_cons_zero, List.set_cons_succ]
  refine tky 7 (some 47) (v := ?_) rfl (by kernel_rfl) (by kernel_rfl) (by kernel_rfl) (fun _ _ _ h => h) ?_ hHeld ?_
  rotate_left
  focus (intro w hSw; (try dsimp only at hSw); go_simp; (try with_reducible rfl); done)
  simp only [Act.put, List.setIfInBounds_toArray, List.set_cons_zero, List.set_cons_succ]
  refine tky 8 (some 48) (v := ?_) rfl (by kernel_rfl) (by kernel_rfl) (by kernel_rfl) (fun _ _ _ h => h) ?_ hHeld ?_
  rotate_left
  focus (intro w hSw; (try dsimp only at hSw); go_simp; (try with_reducible rfl); done)
  simp only [Act.put, List.setIfInBounds_toArray, List.set_cons_zero, List.set_cons_succ]
  refine tky 9 (some 49) (v := ?_) rfl (by kernel_rfl) (by kernel_rfl) (by kernel_rfl) (fun _ _ _ h => h) ?_ hHeld ?_
  rotate_left
  focus (intro w hSw; (try dsimp only at hSw); go_simp; (try with_reducible rfl); done)
  simp only [Act.put, List.setIfInBounds_toArray, List.set_cons_zero, List.set_cons_succ]
  refine tky 10 (some 50) (v := ?_) rfl (by kernel_rfl) (by kernel_rfl) (by kernel_rfl) (fun _ _ _ h => h) ?_ hHeld ?_
  rotate_left
  focus (intro w hSw; (try dsimp only at hSw); go_simp; (try with_reducible rfl); done)
  simp only [Act.put, List.setIfInBounds_toArray, List.set_cons_zero, List.set_cons_succ]
  refine tky 11 (some 4) (v := ?_) rfl (by kernel_rfl) (by kernel_rfl) (by kernel_rfl) (fun _ _ _ h => h) ?_ hHeld ?_
  rotate_left
  focus (intro w hSw; (try dsimp only at hSw); go_simp; (try with_reducible rfl); done)
  simp only [Act.put, List.setIfInBounds_toArray, List.set_cons_zero, List.set_cons_succ]
  refine wpAnyH_done (by kernel_rfl) ?_ _
  obtain ⟨w6, hw6⟩ : ∃ w6, w5.drew = w6 := ⟨_, rfl⟩
  have HV6 : Hid (VP p W (.slice av nv cv) (.slice (some ⟨g, 0, none⟩) n5 cap) (L ++ [⟨0, name.data.toList, [], 0, 0⟩]) (c :: rest) op w6) := Lib.hid (by rw [← hw6]; exact HV5.out.below ⟨rfl, rfl, rfl, Nat.le_refl _, fun _ _ => rfl⟩)
  rw [hw6]
  obtain ⟨b6, hb6l, hr6⟩ := HV6.out.st
  have HR6 := Lib.hid hr6
  have HB6 := Lib.hid hb6l
  obtain ⟨d0, d1, d2⟩ := hr6.cells
  have e0 := hr6.frozen 0
  obtain ⟨y1, y2, y3, y4, -⟩ := tl_cons hb6l
  have h06 : b6[0]'y4 = c := at_zero hb6l y4
  obtain ⟨hfz, ck0, ck2, ck3⟩ := HV6.out.own.at_ rfl nv hkl
  have hfz0 := hfz (nv * 5)
  have hfz2 := hfz (nv * 5 + 2)
  have hfz3 := hfz (nv * 5 + 3)
  obtain ⟨z0, hz0⟩ : ∃ z : Int, (((L ++ [(⟨0, name.data.toList, [], 0, 0⟩ : Cel)])[nv]'hkl).kind.toNat : Int) = z := ⟨_, rfl⟩
  rw [hz0] at ck0
  clear hw6 hr6 hfz hz0 c14 c24 f14 f24 c15 c25 f15 f25 q1 q2 q3 q4 q5 HW5
  have t06 : ((b6[0]'y4).toNat : Int) = (c.toNat : Int) := by rw [h06]
  rw [hcc] at t06
  clear h06 hb6l hHeld
  go_wp2_with fail
  have HV6n : Hid (VP p W (.slice av nv cv) (.slice (some ⟨g, 0, none⟩) n5 cap) ((((L ++ [(⟨0, name.data.toList, [], 0, 0⟩ : Cel)])).modify nv fun c => { c with kind := 1 })) (c :: rest) op (w6.setCell ⟨g, nv * 5, none⟩ (.int .u8 1))) := Lib.hid (HV6.out.set rfl hpg (by rw [List.length_modify]) (by exact celFlat_set0 _ _ 1))
  have HOUT : Hid ((((L ++ [(⟨0, name.data.toList, [], 0, 0⟩ : Cel)])).modify nv fun c => { c with kind := 1 }) = L ++ [⟨1, name.data.toList, [], 0, 0⟩]) := Lib.hid (by
    have hnl := HNV.out
    rw [modify_end' _ _ _ _ hnl])
  refine (HM.out _ _ HV6n.out.st).mono ?_; rintro x w8 ⟨rfl, hst, hk⟩
  have HV8 := Lib.hid (HV6n.out.rk hst hk)
  clear hst hk
  go_wp2_with fail
  go_end0
  rw [HZ.out]
  rw [HOUT.out] at HV8
  exact ⟨rfl, by simp; omega, _, HV8.out⟩
set_option maxRecDepth 100000 in
set_option maxHeartbeats 4000000 in
theorem p_value_false_no (d p : Nat) (name : ByteArray) (op : Int) (v : Value) (L : List Cel) (l : List UInt8) (W : World) (hl : l.length ≤ 16384) (hv : validD l = true) (h : PS p l v op W) (hown : OwnC (p + 1) v L W) (hL : L.length ≤ 2048) (hE : EnvB p W) (c : UInt8) (rest : List UInt8) (hb : blJ l = c :: rest) (hbg : begJ c = true) (hf : L.length ≠ 2048) (hc : c = UInt8.ofNat 102) (ht : tkJ [102, 97, 108, 115, 101] (c :: rest) = none) :
    Calls Tryz.prog 85 #[.pointer (some ⟨p, 0, none⟩), .string name] W (VPE p W v op (valJ d name.data.toList l L)) := by
  have HV0 : Hid (VP p W v v L l op W) := Lib.hid ⟨h, hown, VK.refl _ _ _, fun k hk => Or.inl hk⟩
  have HBL := Lib.hid (fun (W : World) (hW : PS p l v op W) => p_blanks p l v op W hW)
  have HNO : Hid (∀ (e : Int) W, Calls Tryz.prog 87 #[.int .i64 e] W fun x w' => x = .panicked (stopL e) ∧ W = w') := Lib.hid fun e W => p_no e W
  have HEE := Lib.hid hE
  have hvl : ∃ a n c, v = .slice a n c ∧ n = L.length := by
    rcases HV0.out.own.2 with ⟨h1, h2⟩ | ⟨g, cap, cur, h1, _⟩
    · exact ⟨none, 0, 0, h1, h2.symm⟩
    · exact ⟨_, _, _, h1, rfl⟩
  obtain ⟨av, nv, cv, rfl, hnv⟩ := hvl
  have HNV := Lib.hid hnv
  have hnv8 : nv ≤ 2048 := by omega
  have hL2 : nv ≤ 2047 := by omega
  have hL3 : L.length ≤ 2047 := by omega
  have tf : ((nv : Int) == 2048) = false := by rw [beq_eq_false_iff_ne]; omega
  have hcr : (c :: rest).length ≤ 16384 := by rw [← hb]; exact Nat.le_trans (cut_bl l).1 hl
  have hcv : validD (c :: rest) = true := by rw [← hb]; exact (cut_bl l).2 hv
  have hcc : (c.toNat : Int) = 102 := by rw [hc]; rfl
  have HZ : Hid (valJ d name.data.toList l L = .error 40) := Lib.hid (by
    rw [valJ_leaf d _ l L c rest hb hf hbg (by rw [hc]; decide)]
    have ht' := ht
    rw [hc] at ht' ⊢
    unfold leafJ
    rw [if_neg (by decide), if_neg (by decide), if_pos (by decide), ht'])
  have HM := Lib.hid (fun (u : Value) (W : World) (hW : PS p (c :: rest) u op W) => must_no (what := ⟨#[102, 97, 108, 115, 101]⟩) ht W hW)
  rw [hb] at HBL
  clear h hv hown hE hb hnv hf hc ht
  go_enter Tryz.func85, Tryz.ntmps85
  go_wp2_with fail
  refine (HBL.out _ HV0.out.st).mono ?_; rintro x w1 ⟨rfl, hst, hk⟩
  have HV1 := Lib.hid (HV0.out.rk hst hk)
  obtain ⟨b, hbl, hr⟩ := hst
  obtain ⟨c0, c1, c2⟩ := hr.cells
  obtain ⟨hb1, hb2, hb3, hb4, -⟩ := tl_cons hbl
  have h00 : b[0]'hb4 = c := at_zero hbl hb4
  obtain ⟨k, hkk⟩ : ∃ k, Lib.indexByte [123, 91, 34, 116, 102, 110, 45, 48, 49, 50, 51, 52, 53, 54, 55, 56, 57] c = k := ⟨_, rfl⟩
  have tk := beg_ix c
  rw [hkk, hbg] at tk
  simp only [Bool.not_true, Bool.not_false] at tk
  have HX1 : Hid (∀ W, Calls Tryz.prog 21 #[.string ⟨#[123, 91, 34, 116, 102, 110, 45, 48, 49, 50, 51, 52, 53, 54, 55, 56, 57]⟩, .int .u8 ((b[0]'hb4).toNat : Int)] W fun x w' => x = .returned (.int .i64 k) ∧ W = w') := Lib.hid fun W => by
    have := ix_any ⟨#[123, 91, 34, 116, 102, 110, 45, 48, 49, 50, 51, 52, 53, 54, 55, 56, 57]⟩ c W
    rw [show (⟨#[123, 91, 34, 116, 102, 110, 45, 48, 49, 50, 51, 52, 53, 54, 55, 56, 57]⟩ : ByteArray).data.toList = [123, 91, 34, 116, 102, 110, 45, 48, 49, 50, 51, 52, 53, 54, 55, 56, 57] from rfl, hkk] at this
    rw [h00]; exact this
  clear hk hr hbl h00 hkk
  go_wp2_with fail
  refine (HX1.out _).mono ?_; rintro x w2 ⟨rfl, rfl⟩
  have HVA : Hid (VP p W (.slice av nv cv) (.slice av nv cv) L (c :: rest) op (World.alloc w1 (.cells #[.int .u8 0, .string name, .string ⟨#[]⟩, .int .i64 0, .int .i64 0] 124))) := Lib.hid (HV1.out.alloc _)
  have hszp := HVA.out.st.lt
  go_wp2_with (at_builtin; refine wpList_pushC rfl _ _ rfl (p + 1) (.slice av nv cv) L rfl HVA.out.own _ 1 name.data.toList rfl (heap_alloc_new _ _) ?c1 ?c2 ?_)
  case c1 => omega
  case c2 => exact hszp
  intro v5 w4 hown' hgrow hat
  obtain ⟨hst4, hv5⟩ := HVA.out.grown hown' hgrow hat (by simp)
  obtain ⟨w5, hw5⟩ : ∃ w5, (w4.setCell ⟨p, 1, none⟩ v5) = w5 := ⟨_, rfl⟩
  have HW5 := Lib.hid hw5
  rw [hw5] at hv5
  have HV5 := Lib.hid hv5
  obtain ⟨c14, c24, f14, f24⟩ := hst4.c12
  clear hown' hgrow hat hst4 hv5 HVA hszp hw5 c0 c1 c2
  have hkl : nv < (L ++ [(⟨0, name.data.toList, [], 0, 0⟩ : Cel)]).length := by rw [HNV.out]; simp
  obtain ⟨n5, hn5⟩ : ∃ n5, (L ++ [(⟨0, name.data.toList, [], 0, 0⟩ : Cel)]).length = n5 := ⟨_, rfl⟩
  have hk5 : n5 = nv + 1 := by rw [← hn5, HNV.out]; simp
  obtain ⟨g, cap, hvg, hBg, hgl, -⟩ := HV5.out.own.form nv hkl
  rw [hn5] at hvg
  subst hvg
  obtain ⟨c15, c25, f15, f25⟩ := HV5.out.st.c12
  have hpg : p < g := by omega
  have q1 : (n5 : Int) - 1 = (nv : Int) := by omega
  have q2 : IntKind.i64.wrap (nv : Int) = (nv : Int) := IntWalk.i64_in _ (by omega)
  have q3 : (0 : Int) ≤ (nv : Int) := by omega
  have q4 : (nv : Int) < (n5 : Int) := by omega
  have q5 : (nv : Int).toNat = nv := by omega
  clear hn5 hk5
  go_wp2_with fail
  try rw [HW5.out]
  refine wp_region_held_drew (S := fun W => W.cell? ⟨p, 1, none⟩ = some (.slice (some ⟨g, 0, none⟩) n5 cap)) (by kernel_rfl) (c15) (fun hHeld => ?_)
  refine tky 0 (some 40) (v := ?_) rfl (by kernel_rfl) (by kernel_rfl) (by kernel_rfl) (fun _ _ _ h => h) ?_ hHeld ?_
  rotate_left
  focus (intro w hSw; (try dsimp only at hSw); go_simp; (try with_reducible rfl); done)
  simp only [Act.put, List.setIfInBounds_toArray, List.set_cons_zero, List.set_cons_succ]
  refine tky 1 (some 41) (v := ?_) rfl (by kernel_rfl) (by kernel_rfl) (by kernel_rfl) (fun _ _ _ h => h) ?_ hHeld ?_
  rotate_left
  focus (intro w hSw; (try dsimp only at hSw); go_simp; (try with_reducible rfl); done)
  simp only [Act.put, List.setIfInBounds_toArray, List.set_cons_zero, List.set_cons_succ]
  refine tky 2 (some 42) (v := ?_) rfl (by kernel_rfl) (by kernel_rfl) (by kernel_rfl) (fun _ _ _ h => h) ?_ hHeld ?_
  rotate_left
  focus (intro w hSw; (try dsimp only at hSw); go_simp; (try with_reducible rfl); done)
  simp only [Act.put, List.setIfInBounds_toArray, List.set_cons_zero, List.set_cons_succ]
  refine tky 3 (some 43) (v := ?_) rfl (by kernel_rfl) (by kernel_rfl) (by kernel_rfl) (fun _ _ _ h => h) ?_ hHeld ?_
  rotate_left
  focus (intro w hSw; (try dsimp only at hSw); go_simp; (try with_reducible rfl); done)
  simp only [Act.put, List.setIfInBounds_toArray, List.set_cons_zero, List.set_cons_succ]
  refine tky 4 (some 44) (v := ?_) rfl (by kernel_rfl) (by kernel_rfl) (by kernel_rfl) (fun _ _ _ h => h) ?_ hHeld ?_
  rotate_left
  focus (intro w hSw; (try dsimp only at hSw); go_simp; (try with_reducible rfl); done)
  simp only [Act.put, List.setIfInBounds_toArray, List.set_cons_zero, List.set_cons_succ]
  refine tky 5 (some 45) (v := ?_) rfl (by kernel_rfl) (by kernel_rfl) (by kernel_rfl) (fun _ _ _ h => h) ?_ hHeld ?_
  rotate_left
  focus (intro w hSw; (try dsimp only at hSw); go_simp; (try with_reducible rfl); done)
  simp only [Act.put, List.setIfInBounds_toArray, List.set_cons_zero, List.set_cons_succ]
  refine tky 6 (some 46) (v := ?_) rfl (by kernel_rfl) (by kernel_rfl) (by kernel_rfl) (fun _ _ _ h => h) ?_ hHeld ?_
  rotate_left
  focus (intro w hSw; (try dsimp only at hSw); go_simp; (try with_reducible rfl); done)
  simp only [Act.put, List.setIfInBounds_toArray, List.set_cons_zero, List.set_cons_succ]
  refine tky 7 (some 47) (v := ?_) rfl (by kernel_rfl) (by kernel_rfl) (by kernel_rfl) (fun _ _ _ h => h) ?_ hHeld ?_
  rotate_left
  focus (intro w hSw; (try dsimp only at hSw); go_simp; (try with_reducible rfl); done)
  simp only [Act.put, List.setIfInBounds_toArray, List.set_cons_zero, List.set_cons_succ]
  refine tky 8 (some 48) (v := ?_) rfl (by kernel_rfl) (by kernel_rfl) (by kernel_rfl) (fun _ _ _ h => h) ?_ hHeld ?_
  rotate_left
  focus (intro w hSw; (try dsimp only at hSw); go_simp; (try with_reducible rfl); done)
  simp only [Act.put, List.setIfInBounds_toArray, List.set_cons_zero, List.set_cons_succ]
  refine tky 9 (some 49) (v := ?_) rfl (by kernel_rfl) (by kernel_rfl) (by kernel_rfl) (fun _ _ _ h => h) ?_ hHeld ?_
  rotate_left
  focus (intro w hSw; (try dsimp only at hSw); go_simp; (try with_reducible rfl); done)
  simp only [Act.put, List.setIfInBounds_toArray, List.set_cons_zero, List.set_cons_succ]
  refine tky 10 (some 50) (v := ?_) rfl (by kernel_rfl) (by kernel_rfl) (by kernel_rfl) (fun _ _ _ h => h) ?_ hHeld ?_
  rotate_left
  focus (intro w hSw; (try dsimp only at hSw); go_simp; (try with_reducible rfl); done)
  simp only [Act.put, List.setIfInBounds_toArray, List.set_cons_zero, List.set_cons_succ]
  refine tky 11 (some 4) (v := ?_) rfl (by kernel_rfl) (by kernel_rfl) (by kernel_rfl) (fun _ _ _ h => h) ?_ hHeld ?_
  rotate_left
  focus (intro w hSw; (try dsimp only at hSw); go_simp; (try with_reducible rfl); done)
  simp only [Act.put, List.setIfInBounds_toArray, List.set_cons_zero, List.set_cons_succ]
  refine wpAnyH_done (by kernel_rfl) ?_ _
  obtain ⟨w6, hw6⟩ : ∃ w6, w5.drew = w6 := ⟨_, rfl⟩
  have HV6 : Hid (VP p W (.slice av nv cv) (.slice (some ⟨g, 0, none⟩) n5 cap) (L ++ [⟨0, name.data.toList, [], 0, 0⟩]) (c :: rest) op w6) := Lib.hid (by rw [← hw6]; exact HV5.out.below ⟨rfl, rfl, rfl, Nat.le_refl _, fun _ _ => rfl⟩)
  rw [hw6]
  obtain ⟨b6, hb6l, hr6⟩ := HV6.out.st
  have HR6 := Lib.hid hr6
  have HB6 := Lib.hid hb6l
  obtain ⟨d0, d1, d2⟩ := hr6.cells
  have e0 := hr6.frozen 0
  obtain ⟨y1, y2, y3, y4, -⟩ := tl_cons hb6l
  have h06 : b6[0]'y4 = c := at_zero hb6l y4
  obtain ⟨hfz, ck0, ck2, ck3⟩ := HV6.out.own.at_ rfl nv hkl
  have hfz0 := hfz (nv * 5)
  have hfz2 := hfz (nv * 5 + 2)
  have hfz3 := hfz (nv * 5 + 3)
  obtain ⟨z0, hz0⟩ : ∃ z : Int, (((L ++ [(⟨0, name.data.toList, [], 0, 0⟩ : Cel)])[nv]'hkl).kind.toNat : Int) = z := ⟨_, rfl⟩
  rw [hz0] at ck0
  clear hw6 hr6 hfz hz0 c14 c24 f14 f24 c15 c25 f15 f25 q1 q2 q3 q4 q5 HW5
  have t06 : ((b6[0]'y4).toNat : Int) = (c.toNat : Int) := by rw [h06]
  rw [hcc] at t06
  clear h06 hb6l hHeld
  go_wp2_with fail
  have HV6n : Hid (VP p W (.slice av nv cv) (.slice (some ⟨g, 0, none⟩) n5 cap) ((((L ++ [(⟨0, name.data.toList, [], 0, 0⟩ : Cel)])).modify nv fun c => { c with kind := 1 })) (c :: rest) op (w6.setCell ⟨g, nv * 5, none⟩ (.int .u8 1))) := Lib.hid (HV6.out.set rfl hpg (by rw [List.length_modify]) (by exact celFlat_set0 _ _ 1))
  have HOUT : Hid ((((L ++ [(⟨0, name.data.toList, [], 0, 0⟩ : Cel)])).modify nv fun c => { c with kind := 1 }) = L ++ [⟨1, name.data.toList, [], 0, 0⟩]) := Lib.hid (by
    have hnl := HNV.out
    rw [modify_end' _ _ _ _ hnl])
  refine (HM.out _ _ HV6n.out.st).mono ?_; rintro x w8 ⟨rfl, hb⟩
  have HB8 := Lib.hid (HV6n.out.vk.1.trans hb)
  clear hb
  go_wp2_with fail
  refine ⟨rfl, ?_⟩
  rw [HZ.out]
  exact ⟨rfl, HB8.out⟩
set_option maxRecDepth 100000 in
set_option maxHeartbeats 4000000 in
theorem p_value_null (d p : Nat) (name : ByteArray) (op : Int) (v : Value) (L : List Cel) (l : List UInt8) (W : World) (hl : l.length ≤ 16384) (hv : validD l = true) (h : PS p l v op W) (hown : OwnC (p + 1) v L W) (hL : L.length ≤ 2048) (hE : EnvB p W) (c : UInt8) (rest : List UInt8) (hb : blJ l = c :: rest) (hbg : begJ c = true) (hf : L.length ≠ 2048) (hc : c = UInt8.ofNat 110) (t : List UInt8) (ht : tkJ [110, 117, 108, 108] (c :: rest) = some t) :
    Calls Tryz.prog 85 #[.pointer (some ⟨p, 0, none⟩), .string name] W (VPE p W v op (valJ d name.data.toList l L)) := by
  have HV0 : Hid (VP p W v v L l op W) := Lib.hid ⟨h, hown, VK.refl _ _ _, fun k hk => Or.inl hk⟩
  have HBL := Lib.hid (fun (W : World) (hW : PS p l v op W) => p_blanks p l v op W hW)
  have HNO : Hid (∀ (e : Int) W, Calls Tryz.prog 87 #[.int .i64 e] W fun x w' => x = .panicked (stopL e) ∧ W = w') := Lib.hid fun e W => p_no e W
  have HEE := Lib.hid hE
  have hvl : ∃ a n c, v = .slice a n c ∧ n = L.length := by
    rcases HV0.out.own.2 with ⟨h1, h2⟩ | ⟨g, cap, cur, h1, _⟩
    · exact ⟨none, 0, 0, h1, h2.symm⟩
    · exact ⟨_, _, _, h1, rfl⟩
  obtain ⟨av, nv, cv, rfl, hnv⟩ := hvl
  have HNV := Lib.hid hnv
  have hnv8 : nv ≤ 2048 := by omega
  have hL2 : nv ≤ 2047 := by omega
  have hL3 : L.length ≤ 2047 := by omega
  have tf : ((nv : Int) == 2048) = false := by rw [beq_eq_false_iff_ne]; omega
  have hcr : (c :: rest).length ≤ 16384 := by rw [← hb]; exact Nat.le_trans (cut_bl l).1 hl
  have hcv : validD (c :: rest) = true := by rw [← hb]; exact (cut_bl l).2 hv
  have hcc : (c.toNat : Int) = 110 := by rw [hc]; rfl
  have HZ : Hid (valJ d name.data.toList l L = .ok (t, L ++ [⟨0, name.data.toList, [], 0, 0⟩])) := Lib.hid (by
    rw [valJ_leaf d _ l L c rest hb hf hbg (by rw [hc]; decide)]
    have ht' := ht
    rw [hc] at ht' ⊢
    unfold leafJ
    rw [if_neg (by decide), if_neg (by decide), if_neg (by decide), if_pos (by decide), ht'])
  have HM := Lib.hid (fun (u : Value) (W : World) (hW : PS p (c :: rest) u op W) => must_ok (what := ⟨#[110, 117, 108, 108]⟩) ht W hW)
  rw [hb] at HBL
  clear h hv hown hE hb hnv hf hc ht
  go_enter Tryz.func85, Tryz.ntmps85
  go_wp2_with fail
  refine (HBL.out _ HV0.out.st).mono ?_; rintro x w1 ⟨rfl, hst, hk⟩
  have HV1 := Lib.hid (HV0.out.rk hst hk)
  obtain ⟨b, hbl, hr⟩ := hst
  obtain ⟨c0, c1, c2⟩ := hr.cells
  obtain ⟨hb1, hb2, hb3, hb4, -⟩ := tl_cons hbl
  have h00 : b[0]'hb4 = c := at_zero hbl hb4
  obtain ⟨k, hkk⟩ : ∃ k, Lib.indexByte [123, 91, 34, 116, 102, 110, 45, 48, 49, 50, 51, 52, 53, 54, 55, 56, 57] c = k := ⟨_, rfl⟩
  have tk := beg_ix c
  rw [hkk, hbg] at tk
  simp only [Bool.not_true, Bool.not_false] at tk
  have HX1 : Hid (∀ W, Calls Tryz.prog 21 #[.string ⟨#[123, 91, 34, 116, 102, 110, 45, 48, 49, 50, 51, 52, 53, 54, 55, 56, 57]⟩, .int .u8 ((b[0]'hb4).toNat : Int)] W fun x w' => x = .returned (.int .i64 k) ∧ W = w') := Lib.hid fun W => by
    have := ix_any ⟨#[123, 91, 34, 116, 102, 110, 45, 48, 49, 50, 51, 52, 53, 54, 55, 56, 57]⟩ c W
    rw [show (⟨#[123, 91, 34, 116, 102, 110, 45, 48, 49, 50, 51, 52, 53, 54, 55, 56, 57]⟩ : ByteArray).data.toList = [123, 91, 34, 116, 102, 110, 45, 48, 49, 50, 51, 52, 53, 54, 55, 56, 57] from rfl, hkk] at this
    rw [h00]; exact this
  clear hk hr hbl h00 hkk
  go_wp2_with fail
  refine (HX1.out _).mono ?_; rintro x w2 ⟨rfl, rfl⟩
  have HVA : Hid (VP p W (.slice av nv cv) (.slice av nv cv) L (c :: rest) op (World.alloc w1 (.cells #[.int .u8 0, .string name, .string ⟨#[]⟩, .int .i64 0, .int .i64 0] 124))) := Lib.hid (HV1.out.alloc _)
  have hszp := HVA.out.st.lt
  go_wp2_with (at_builtin; refine wpList_pushC rfl _ _ rfl (p + 1) (.slice av nv cv) L rfl HVA.out.own _ 1 name.data.toList rfl (heap_alloc_new _ _) ?c1 ?c2 ?_)
  case c1 => omega
  case c2 => exact hszp
  intro v5 w4 hown' hgrow hat
  obtain ⟨hst4, hv5⟩ := HVA.out.grown hown' hgrow hat (by simp)
  obtain ⟨w5, hw5⟩ : ∃ w5, (w4.setCell ⟨p, 1, none⟩ v5) = w5 := ⟨_, rfl⟩
  have HW5 := Lib.hid hw5
  rw [hw5] at hv5
  have HV5 := Lib.hid hv5
  obtain ⟨c14, c24, f14, f24⟩ := hst4.c12
  clear hown' hgrow hat hst4 hv5 HVA hszp hw5 c0 c1 c2
  have hkl : nv < (L ++ [(⟨0, name.data.toList, [], 0, 0⟩ : Cel)]).length := by rw [HNV.out]; simp
  obtain ⟨n5, hn5⟩ : ∃ n5, (L ++ [(⟨0, name.data.toList, [], 0, 0⟩ : Cel)]).length = n5 := ⟨_, rfl⟩
  have hk5 : n5 = nv + 1 := by rw [← hn5, HNV.out]; simp
  obtain ⟨g, cap, hvg, hBg, hgl, -⟩ := HV5.out.own.form nv hkl
  rw [hn5] at hvg
  subst hvg
  obtain ⟨c15, c25, f15, f25⟩ := HV5.out.st.c12
  have hpg : p < g := by omega
  have q1 : (n5 : Int) - 1 = (nv : Int) := by omega
  have q2 : IntKind.i64.wrap (nv : Int) = (nv : Int) := IntWalk.i64_in _ (by omega)
  have q3 : (0 : Int) ≤ (nv : Int) := by omega
  have q4 : (nv : Int) < (n5 : Int) := by omega
  have q5 : (nv : Int).toNat = nv := by omega
  clear hn5 hk5
  go_wp2_with fail
  try rw [HW5.out]
  refine wp_region_held_drew (S := fun W => W.cell? ⟨p, 1, none⟩ = some (.slice (some ⟨g, 0, none⟩) n5 cap)) (by kernel_rfl) (c15) (fun hHeld => ?_)
  refine tky 0 (some 40) (v := ?_) rfl (by kernel_rfl) (by kernel_rfl) (by kernel_rfl) (fun _ _ _ h => h) ?_ hHeld ?_
  rotate_left
  focus (intro w hSw; (try dsimp only at hSw); go_simp; (try with_reducible rfl); done)
  simp only [Act.put, List.setIfInBounds_toArray, List.set_cons_zero, List.set_cons_succ]
  refine tky 1 (some 41) (v := ?_) rfl (by kernel_rfl) (by kernel_rfl) (by kernel_rfl) (fun _ _ _ h => h) ?_ hHeld ?_
  rotate_left
  focus (intro w hSw; (try dsimp only at hSw); go_simp; (try with_reducible rfl); done)
  simp only [Act.put, List.setIfInBounds_toArray, List.set_cons_zero, List.set_cons_succ]
  refine tky 2 (some 42) (v := ?_) rfl (by kernel_rfl) (by kernel_rfl) (by kernel_rfl) (fun _ _ _ h => h) ?_ hHeld ?_
  rotate_left
  focus (intro w hSw; (try dsimp only at hSw); go_simp; (try with_reducible rfl); done)
  simp only [Act.put, List.setIfInBounds_toArray, List.set_cons_zero, List.set_cons_succ]
  refine tky 3 (some 43) (v := ?_) rfl (by kernel_rfl) (by kernel_rfl) (by kernel_rfl) (fun _ _ _ h => h) ?_ hHeld ?_
  rotate_left
  focus (intro w hSw; (try dsimp only at hSw); go_simp; (try with_reducible rfl); done)
  simp only [Act.put, List.setIfInBounds_toArray, List.set_cons_zero, List.set_cons_succ]
  refine tky 4 (some 44) (v := ?_) rfl (by kernel_rfl) (by kernel_rfl) (by kernel_rfl) (fun _ _ _ h => h) ?_ hHeld ?_
  rotate_left
  focus (intro w hSw; (try dsimp only at hSw); go_simp; (try with_reducible rfl); done)
  simp only [Act.put, List.setIfInBounds_toArray, List.set_cons_zero, List.set_cons_succ]
  refine tky 5 (some 45) (v := ?_) rfl (by kernel_rfl) (by kernel_rfl) (by kernel_rfl) (fun _ _ _ h => h) ?_ hHeld ?_
  rotate_left
  focus (intro w hSw; (try dsimp only at hSw); go_simp; (try with_reducible rfl); done)
  simp only [Act.put, List.setIfInBounds_toArray, List.set_cons_zero, List.set_cons_succ]
  refine tky 6 (some 46) (v := ?_) rfl (by kernel_rfl) (by kernel_rfl) (by kernel_rfl) (fun _ _ _ h => h) ?_ hHeld ?_
  rotate_left
  focus (intro w hSw; (try dsimp only at hSw); go_simp; (try with_reducible rfl); done)
  simp only [Act.put, List.setIfInBounds_toArray, List.set_cons_zero, List.set_cons_succ]
  refine tky 7 (some 47) (v := ?_) rfl (by kernel_rfl) (by kernel_rfl) (by kernel_rfl) (fun _ _ _ h => h) ?_ hHeld ?_
  rotate_left
  focus (intro w hSw; (try dsimp only at hSw); go_simp; (try with_reducible rfl); done)
  simp only [Act.put, List.setIfInBounds_toArray, List.set_cons_zero, List.set_cons_succ]
  refine tky 8 (some 48) (v := ?_) rfl (by kernel_rfl) (by kernel_rfl) (by kernel_rfl) (fun _ _ _ h => h) ?_ hHeld ?_
  rotate_left
  focus (intro w hSw; (try dsimp only at hSw); go_simp; (try with_reducible rfl); done)
  simp only [Act.put, List.setIfInBounds_toArray, List.set_cons_zero, List.set_cons_succ]
  refine tky 9 (some 49) (v := ?_) rfl (by kernel_rfl) (by kernel_rfl) (by kernel_rfl) (fun _ _ _ h => h) ?_ hHeld ?_
  rotate_left
  focus (intro w hSw; (try dsimp only at hSw); go_simp; (try with_reducible rfl); done)
  simp only [Act.put, List.setIfInBounds_toArray, List.set_cons_zero, List.set_cons_succ]
  refine tky 10 (some 50) (v := ?_) rfl (by kernel_rfl) (by kernel_rfl) (by kernel_rfl) (fun _ _ _ h => h) ?_ hHeld ?_
  rotate_left
  focus (intro w hSw; (try dsimp only at hSw); go_simp; (try with_reducible rfl); done)
  simp only [Act.put, List.setIfInBounds_toArray, List.set_cons_zero, List.set_cons_succ]
  refine tky 11 (some 4) (v := ?_) rfl (by kernel_rfl) (by kernel_rfl) (by kernel_rfl) (fun _ _ _ h => h) ?_ hHeld ?_
  rotate_left
  focus (intro w hSw; (try dsimp only at hSw); go_simp; (try with_reducible rfl); done)
  simp only [Act.put, List.setIfInBounds_toArray, List.set_cons_zero, List.set_cons_succ]
  refine wpAnyH_done (by kernel_rfl) ?_ _
  obtain ⟨w6, hw6⟩ : ∃ w6, w5.drew = w6 := ⟨_, rfl⟩
  have HV6 : Hid (VP p W (.slice av nv cv) (.slice (some ⟨g, 0, none⟩) n5 cap) (L ++ [⟨0, name.data.toList, [], 0, 0⟩]) (c :: rest) op w6) := Lib.hid (by rw [← hw6]; exact HV5.out.below ⟨rfl, rfl, rfl, Nat.le_refl _, fun _ _ => rfl⟩)
  rw [hw6]
  obtain ⟨b6, hb6l, hr6⟩ := HV6.out.st
  have HR6 := Lib.hid hr6
  have HB6 := Lib.hid hb6l
  obtain ⟨d0, d1, d2⟩ := hr6.cells
  have e0 := hr6.frozen 0
  obtain ⟨y1, y2, y3, y4, -⟩ := tl_cons hb6l
  have h06 : b6[0]'y4 = c := at_zero hb6l y4
  obtain ⟨hfz, ck0, ck2, ck3⟩ := HV6.out.own.at_ rfl nv hkl
  have hfz0 := hfz (nv * 5)
  have hfz2 := hfz (nv * 5 + 2)
  have hfz3 := hfz (nv * 5 + 3)
  obtain ⟨z0, hz0⟩ : ∃ z : Int, (((L ++ [(⟨0, name.data.toList, [], 0, 0⟩ : Cel)])[nv]'hkl).kind.toNat : Int) = z := ⟨_, rfl⟩
  rw [hz0] at ck0
  clear hw6 hr6 hfz hz0 c14 c24 f14 f24 c15 c25 f15 f25 q1 q2 q3 q4 q5 HW5
  have t06 : ((b6[0]'y4).toNat : Int) = (c.toNat : Int) := by rw [h06]
  rw [hcc] at t06
  clear h06 hb6l hHeld
  go_wp2_with fail
  have HOUT : Hid ((L ++ [(⟨0, name.data.toList, [], 0, 0⟩ : Cel)]) = L ++ [⟨0, name.data.toList, [], 0, 0⟩]) := Lib.hid (by
    have hnl := HNV.out
    rfl)
  refine (HM.out _ _ HV6.out.st).mono ?_; rintro x w8 ⟨rfl, hst, hk⟩
  have HV8 := Lib.hid (HV6.out.rk hst hk)
  clear hst hk
  go_wp2_with fail
  go_end0
  rw [HZ.out]
  exact ⟨rfl, by simp; omega, _, HV8.out⟩
set_option maxRecDepth 100000 in
set_option maxHeartbeats 4000000 in
theorem p_value_null_no (d p : Nat) (name : ByteArray) (op : Int) (v : Value) (L : List Cel) (l : List UInt8) (W : World) (hl : l.length ≤ 16384) (hv : validD l = true) (h : PS p l v op W) (hown : OwnC (p + 1) v L W) (hL : L.length ≤ 2048) (hE : EnvB p W) (c : UInt8) (rest : List UInt8) (hb : blJ l = c :: rest) (hbg : begJ c = true) (hf : L.length ≠ 2048) (hc : c = UInt8.ofNat 110) (ht : tkJ [110, 117, 108, 108] (c :: rest) = none) :
    Calls Tryz.prog 85 #[.pointer (some ⟨p, 0, none⟩), .string name] W (VPE p W v op (valJ d name.data.toList l L)) := by
  have HV0 : Hid (VP p W v v L l op W) := Lib.hid ⟨h, hown, VK.refl _ _ _, fun k hk => Or.inl hk⟩
  have HBL := Lib.hid (fun (W : World) (hW : PS p l v op W) => p_blanks p l v op W hW)
  have HNO : Hid (∀ (e : Int) W, Calls Tryz.prog 87 #[.int .i64 e] W fun x w' => x = .panicked (stopL e) ∧ W = w') := Lib.hid fun e W => p_no e W
  have HEE := Lib.hid hE
  have hvl : ∃ a n c, v = .slice a n c ∧ n = L.length := by
    rcases HV0.out.own.2 with ⟨h1, h2⟩ | ⟨g, cap, cur, h1, _⟩
    · exact ⟨none, 0, 0, h1, h2.symm⟩
    · exact ⟨_, _, _, h1, rfl⟩
  obtain ⟨av, nv, cv, rfl, hnv⟩ := hvl
  have HNV := Lib.hid hnv
  have hnv8 : nv ≤ 2048 := by omega
  have hL2 : nv ≤ 2047 := by omega
  have hL3 : L.length ≤ 2047 := by omega
  have tf : ((nv : Int) == 2048) = false := by rw [beq_eq_false_iff_ne]; omega
  have hcr : (c :: rest).length ≤ 16384 := by rw [← hb]; exact Nat.le_trans (cut_bl l).1 hl
  have hcv : validD (c :: rest) = true := by rw [← hb]; exact (cut_bl l).2 hv
  have hcc : (c.toNat : Int) = 110 := by rw [hc]; rfl
  have HZ : Hid (valJ d name.data.toList l L = .error 40) := Lib.hid (by
    rw [valJ_leaf d _ l L c rest hb hf hbg (by rw [hc]; decide)]
    have ht' := ht
    rw [hc] at ht' ⊢
    unfold leafJ
    rw [if_neg (by decide), if_neg (by decide), if_neg (by decide), if_pos (by decide), ht'])
  have HM := Lib.hid (fun (u : Value) (W : World) (hW : PS p (c :: rest) u op W) => must_no (what := ⟨#[110, 117, 108, 108]⟩) ht W hW)
  rw [hb] at HBL
  clear h hv hown hE hb hnv hf hc ht
  go_enter Tryz.func85, Tryz.ntmps85
  go_wp2_with fail
  refine (HBL.out _ HV0.out.st).mono ?_; rintro x w1 ⟨rfl, hst, hk⟩
  have HV1 := Lib.hid (HV0.out.rk hst hk)
  obtain ⟨b, hbl, hr⟩ := hst
  obtain ⟨c0, c1, c2⟩ := hr.cells
  obtain ⟨hb1, hb2, hb3, hb4, -⟩ := tl_cons hbl
  have h00 : b[0]'hb4 = c := at_zero hbl hb4
  obtain ⟨k, hkk⟩ : ∃ k, Lib.indexByte [123, 91, 34, 116, 102, 110, 45, 48, 49, 50, 51, 52, 53, 54, 55, 56, 57] c = k := ⟨_, rfl⟩
  have tk := beg_ix c
  rw [hkk, hbg] at tk
  simp only [Bool.not_true, Bool.not_false] at tk
  have HX1 : Hid (∀ W, Calls Tryz.prog 21 #[.string ⟨#[123, 91, 34, 116, 102, 110, 45, 48, 49, 50, 51, 52, 53, 54, 55, 56, 57]⟩, .int .u8 ((b[0]'hb4).toNat : Int)] W fun x w' => x = .returned (.int .i64 k) ∧ W = w') := Lib.hid fun W => by
    have := ix_any ⟨#[123, 91, 34, 116, 102, 110, 45, 48, 49, 50, 51, 52, 53, 54, 55, 56, 57]⟩ c W
    rw [show (⟨#[123, 91, 34, 116, 102, 110, 45, 48, 49, 50, 51, 52, 53, 54, 55, 56, 57]⟩ : ByteArray).data.toList = [123, 91, 34, 116, 102, 110, 45, 48, 49, 50, 51, 52, 53, 54, 55, 56, 57] from rfl, hkk] at this
    rw [h00]; exact this
  clear hk hr hbl h00 hkk
  go_wp2_with fail
  refine (HX1.out _).mono ?_; rintro x w2 ⟨rfl, rfl⟩
  have HVA : Hid (VP p W (.slice av nv cv) (.slice av nv cv) L (c :: rest) op (World.alloc w1 (.cells #[.int .u8 0, .string name, .string ⟨#[]⟩, .int .i64 0, .int .i64 0] 124))) := Lib.hid (HV1.out.alloc _)
  have hszp := HVA.out.st.lt
  go_wp2_with (at_builtin; refine wpList_pushC rfl _ _ rfl (p + 1) (.slice av nv cv) L rfl HVA.out.own _ 1 name.data.toList rfl (heap_alloc_new _ _) ?c1 ?c2 ?_)
  case c1 => omega
  case c2 => exact hszp
  intro v5 w4 hown' hgrow hat
  obtain ⟨hst4, hv5⟩ := HVA.out.grown hown' hgrow hat (by simp)
  obtain ⟨w5, hw5⟩ : ∃ w5, (w4.setCell ⟨p, 1, none⟩ v5) = w5 := ⟨_, rfl⟩
  have HW5 := Lib.hid hw5
  rw [hw5] at hv5
  have HV5 := Lib.hid hv5
  obtain ⟨c14, c24, f14, f24⟩ := hst4.c12
  clear hown' hgrow hat hst4 hv5 HVA hszp hw5 c0 c1 c2
  have hkl : nv < (L ++ [(⟨0, name.data.toList, [], 0, 0⟩ : Cel)]).length := by rw [HNV.out]; simp
  obtain ⟨n5, hn5⟩ : ∃ n5, (L ++ [(⟨0, name.data.toList, [], 0, 0⟩ : Cel)]).length = n5 := ⟨_, rfl⟩
  have hk5 : n5 = nv + 1 := by rw [← hn5, HNV.out]; simp
  obtain ⟨g, cap, hvg, hBg, hgl, -⟩ := HV5.out.own.form nv hkl
  rw [hn5] at hvg
  subst hvg
  obtain ⟨c15, c25, f15, f25⟩ := HV5.out.st.c12
  have hpg : p < g := by omega
  have q1 : (n5 : Int) - 1 = (nv : Int) := by omega
  have q2 : IntKind.i64.wrap (nv : Int) = (nv : Int) := IntWalk.i64_in _ (by omega)
  have q3 : (0 : Int) ≤ (nv : Int) := by omega
  have q4 : (nv : Int) < (n5 : Int) := by omega
  have q5 : (nv : Int).toNat = nv := by omega
  clear hn5 hk5
  go_wp2_with fail
  try rw [HW5.out]
  refine wp_region_held_drew (S := fun W => W.cell? ⟨p, 1, none⟩ = some (.slice (some ⟨g, 0, none⟩) n5 cap)) (by kernel_rfl) (c15) (fun hHeld => ?_)
  refine tky 0 (some 40) (v := ?_) rfl (by kernel_rfl) (by kernel_rfl) (by kernel_rfl) (fun _ _ _ h => h) ?_ hHeld ?_
  rotate_left
  focus (intro w hSw; (try dsimp only at hSw); go_simp; (try with_reducible rfl); done)
  simp only [Act.put, List.setIfInBounds_toArray, List.set_cons_zero, List.set_cons_succ]
  refine tky 1 (some 41) (v := ?_) rfl (by kernel_rfl) (by kernel_rfl) (by kernel_rfl) (fun _ _ _ h => h) ?_ hHeld ?_
  rotate_left
  focus (intro w hSw; (try dsimp only at hSw); go_simp; (try with_reducible rfl); done)
  simp only [Act.put, List.setIfInBounds_toArray, List.set_cons_zero, List.set_cons_succ]
  refine tky 2 (some 42) (v := ?_) rfl (by kernel_rfl) (by kernel_rfl) (by kernel_rfl) (fun _ _ _ h => h) ?_ hHeld ?_
  rotate_left
  focus (intro w hSw; (try dsimp only at hSw); go_simp; (try with_reducible rfl); done)
  simp only [Act.put, List.setIfInBounds_toArray, List.set_cons_zero, List.set_cons_succ]
  refine tky 3 (some 43) (v := ?_) rfl (by kernel_rfl) (by kernel_rfl) (by kernel_rfl) (fun _ _ _ h => h) ?_ hHeld ?_
  rotate_left
  focus (intro w hSw; (try dsimp only at hSw); go_simp; (try with_reducible rfl); done)
  simp only [Act.put, List.setIfInBounds_toArray, List.set_cons_zero, List.set_cons_succ]
  refine tky 4 (some 44) (v := ?_) rfl (by kernel_rfl) (by kernel_rfl) (by kernel_rfl) (fun _ _ _ h => h) ?_ hHeld ?_
  rotate_left
  focus (intro w hSw; (try dsimp only at hSw); go_simp; (try with_reducible rfl); done)
  simp only [Act.put, List.setIfInBounds_toArray, List.set_cons_zero, List.set_cons_succ]
  refine tky 5 (some 45) (v := ?_) rfl (by kernel_rfl) (by kernel_rfl) (by kernel_rfl) (fun _ _ _ h => h) ?_ hHeld ?_
  rotate_left
  focus (intro w hSw; (try dsimp only at hSw); go_simp; (try with_reducible rfl); done)
  simp only [Act.put, List.setIfInBounds_toArray, List.set_cons_zero, List.set_cons_succ]
  refine tky 6 (some 46) (v := ?_) rfl (by kernel_rfl) (by kernel_rfl) (by kernel_rfl) (fun _ _ _ h => h) ?_ hHeld ?_
  rotate_left
  focus (intro w hSw; (try dsimp only at hSw); go_simp; (try with_reducible rfl); done)
  simp only [Act.put, List.setIfInBounds_toArray, List.set_cons_zero, List.set_cons_succ]
  refine tky 7 (some 47) (v := ?_) rfl (by kernel_rfl) (by kernel_rfl) (by kernel_rfl) (fun _ _ _ h => h) ?_ hHeld ?_
  rotate_left
  focus (intro w hSw; (try dsimp only at hSw); go_simp; (try with_reducible rfl); done)
  simp only [Act.put, List.setIfInBounds_toArray, List.set_cons_zero, List.set_cons_succ]
  refine tky 8 (some 48) (v := ?_) rfl (by kernel_rfl) (by kernel_rfl) (by kernel_rfl) (fun _ _ _ h => h) ?_ hHeld ?_
  rotate_left
  focus (intro w hSw; (try dsimp only at hSw); go_simp; (try with_reducible rfl); done)
  simp only [Act.put, List.setIfInBounds_toArray, List.set_cons_zero, List.set_cons_succ]
  refine tky 9 (some 49) (v := ?_) rfl (by kernel_rfl) (by kernel_rfl) (by kernel_rfl) (fun _ _ _ h => h) ?_ hHeld ?_
  rotate_left
  focus (intro w hSw; (try dsimp only at hSw); go_simp; (try with_reducible rfl); done)
  simp only [Act.put, List.setIfInBounds_toArray, List.set_cons_zero, List.set_cons_succ]
  refine tky 10 (some 50) (v := ?_) rfl (by kernel_rfl) (by kernel_rfl) (by kernel_rfl) (fun _ _ _ h => h) ?_ hHeld ?_
  rotate_left
  focus (intro w hSw; (try dsimp only at hSw); go_simp; (try with_reducible rfl); done)
  simp only [Act.put, List.setIfInBounds_toArray, List.set_cons_zero, List.set_cons_succ]
  refine tky 11 (some 4) (v := ?_) rfl (by kernel_rfl) (by kernel_rfl) (by kernel_rfl) (fun _ _ _ h => h) ?_ hHeld ?_
  rotate_left
  focus (intro w hSw; (try dsimp only at hSw); go_simp; (try with_reducible rfl); done)
  simp only [Act.put, List.setIfInBounds_toArray, List.set_cons_zero, List.set_cons_succ]
  refine wpAnyH_done (by kernel_rfl) ?_ _
  obtain ⟨w6, hw6⟩ : ∃ w6, w5.drew = w6 := ⟨_, rfl⟩
  have HV6 : Hid (VP p W (.slice av nv cv) (.slice (some ⟨g, 0, none⟩) n5 cap) (L ++ [⟨0, name.data.toList, [], 0, 0⟩]) (c :: rest) op w6) := Lib.hid (by rw [← hw6]; exact HV5.out.below ⟨rfl, rfl, rfl, Nat.le_refl _, fun _ _ => rfl⟩)
  rw [hw6]
  obtain ⟨b6, hb6l, hr6⟩ := HV6.out.st
  have HR6 := Lib.hid hr6
  have HB6 := Lib.hid hb6l
  obtain ⟨d0, d1, d2⟩ := hr6.cells
  have e0 := hr6.frozen 0
  obtain ⟨y1, y2, y3, y4, -⟩ := tl_cons hb6l
  have h06 : b6[0]'y4 = c := at_zero hb6l y4
  obtain ⟨hfz, ck0, ck2, ck3⟩ := HV6.out.own.at_ rfl nv hkl
  have hfz0 := hfz (nv * 5)
  have hfz2 := hfz (nv * 5 + 2)
  have hfz3 := hfz (nv * 5 + 3)
  obtain ⟨z0, hz0⟩ : ∃ z : Int, (((L ++ [(⟨0, name.data.toList, [], 0, 0⟩ : Cel)])[nv]'hkl).kind.toNat : Int) = z := ⟨_, rfl⟩
  rw [hz0] at ck0
  clear hw6 hr6 hfz hz0 c14 c24 f14 f24 c15 c25 f15 f25 q1 q2 q3 q4 q5 HW5
  have t06 : ((b6[0]'y4).toNat : Int) = (c.toNat : Int) := by rw [h06]
  rw [hcc] at t06
  clear h06 hb6l hHeld
  go_wp2_with fail
  have HOUT : Hid ((L ++ [(⟨0, name.data.toList, [], 0, 0⟩ : Cel)]) = L ++ [⟨0, name.data.toList, [], 0, 0⟩]) := Lib.hid (by
    have hnl := HNV.out
    rfl)
  refine (HM.out _ _ HV6.out.st).mono ?_; rintro x w8 ⟨rfl, hb⟩
  have HB8 := Lib.hid (HV6.out.vk.1.trans hb)
  clear hb
  go_wp2_with fail
  refine ⟨rfl, ?_⟩
  rw [HZ.out]
  exact ⟨rfl, HB8.out⟩
set_option maxRecDepth 100000 in
set_option maxHeartbeats 4000000 in
theorem p_value_text (d p : Nat) (name : ByteArray) (op : Int) (v : Value) (L : List Cel) (l : List UInt8) (W : World) (hl : l.length ≤ 16384) (hv : validD l = true) (h : PS p l v op W) (hown : OwnC (p + 1) v L W) (hL : L.length ≤ 2048) (hE : EnvB p W) (c : UInt8) (rest : List UInt8) (hb : blJ l = c :: rest) (hbg : begJ c = true) (hf : L.length ≠ 2048) (hc : c = UInt8.ofNat 34) (s t : List UInt8) (ht : strJ (c :: rest) = some (s, t)) :
    Calls Tryz.prog 85 #[.pointer (some ⟨p, 0, none⟩), .string name] W (VPE p W v op (valJ d name.data.toList l L)) := by
  have HV0 : Hid (VP p W v v L l op W) := Lib.hid ⟨h, hown, VK.refl _ _ _, fun k hk => Or.inl hk⟩
  have HBL := Lib.hid (fun (W : World) (hW : PS p l v op W) => p_blanks p l v op W hW)
  have HNO : Hid (∀ (e : Int) W, Calls Tryz.prog 87 #[.int .i64 e] W fun x w' => x = .panicked (stopL e) ∧ W = w') := Lib.hid fun e W => p_no e W
  have HEE := Lib.hid hE
  have hvl : ∃ a n c, v = .slice a n c ∧ n = L.length := by
    rcases HV0.out.own.2 with ⟨h1, h2⟩ | ⟨g, cap, cur, h1, _⟩
    · exact ⟨none, 0, 0, h1, h2.symm⟩
    · exact ⟨_, _, _, h1, rfl⟩
  obtain ⟨av, nv, cv, rfl, hnv⟩ := hvl
  have HNV := Lib.hid hnv
  have hnv8 : nv ≤ 2048 := by omega
  have hL2 : nv ≤ 2047 := by omega
  have hL3 : L.length ≤ 2047 := by omega
  have tf : ((nv : Int) == 2048) = false := by rw [beq_eq_false_iff_ne]; omega
  have hcr : (c :: rest).length ≤ 16384 := by rw [← hb]; exact Nat.le_trans (cut_bl l).1 hl
  have hcv : validD (c :: rest) = true := by rw [← hb]; exact (cut_bl l).2 hv
  have hcc : (c.toNat : Int) = 34 := by rw [hc]; rfl
  have HZ : Hid (valJ d name.data.toList l L = .ok (t, L ++ [⟨3, name.data.toList, s, 0, 0⟩])) := Lib.hid (by
    rw [valJ_leaf d _ l L c rest hb hf hbg (by rw [hc]; decide)]
    unfold leafJ
    rw [if_pos (by rw [hc]; decide), ht])
  have HM := Lib.hid (fun (u : Value) (W : World) (hW : PS p (c :: rest) u op W) (hE : ∀ W', RK p W W' → EnvU W') => text_ok hcr hcv ht W hW hE)
  rw [hb] at HBL
  clear h hv hown hE hb hnv hf hc ht
  go_enter Tryz.func85, Tryz.ntmps85
  go_wp2_with fail
  refine (HBL.out _ HV0.out.st).mono ?_; rintro x w1 ⟨rfl, hst, hk⟩
  have HV1 := Lib.hid (HV0.out.rk hst hk)
  obtain ⟨b, hbl, hr⟩ := hst
  obtain ⟨c0, c1, c2⟩ := hr.cells
  obtain ⟨hb1, hb2, hb3, hb4, -⟩ := tl_cons hbl
  have h00 : b[0]'hb4 = c := at_zero hbl hb4
  obtain ⟨k, hkk⟩ : ∃ k, Lib.indexByte [123, 91, 34, 116, 102, 110, 45, 48, 49, 50, 51, 52, 53, 54, 55, 56, 57] c = k := ⟨_, rfl⟩
  have tk := beg_ix c
  rw [hkk, hbg] at tk
  simp only [Bool.not_true, Bool.not_false] at tk
  have HX1 : Hid (∀ W, Calls Tryz.prog 21 #[.string ⟨#[123, 91, 34, 116, 102, 110, 45, 48, 49, 50, 51, 52, 53, 54, 55, 56, 57]⟩, .int .u8 ((b[0]'hb4).toNat : Int)] W fun x w' => x = .returned (.int .i64 k) ∧ W = w') := Lib.hid fun W => by
    have := ix_any ⟨#[123, 91, 34, 116, 102, 110, 45, 48, 49, 50, 51, 52, 53, 54, 55, 56, 57]⟩ c W
    rw [show (⟨#[123, 91, 34, 116, 102, 110, 45, 48, 49, 50, 51, 52, 53, 54, 55, 56, 57]⟩ : ByteArray).data.toList = [123, 91, 34, 116, 102, 110, 45, 48, 49, 50, 51, 52, 53, 54, 55, 56, 57] from rfl, hkk] at this
    rw [h00]; exact this
  clear hk hr hbl h00 hkk
  go_wp2_with fail
  refine (HX1.out _).mono ?_; rintro x w2 ⟨rfl, rfl⟩
  have HVA : Hid (VP p W (.slice av nv cv) (.slice av nv cv) L (c :: rest) op (World.alloc w1 (.cells #[.int .u8 0, .string name, .string ⟨#[]⟩, .int .i64 0, .int .i64 0] 124))) := Lib.hid (HV1.out.alloc _)
  have hszp := HVA.out.st.lt
  go_wp2_with (at_builtin; refine wpList_pushC rfl _ _ rfl (p + 1) (.slice av nv cv) L rfl HVA.out.own _ 1 name.data.toList rfl (heap_alloc_new _ _) ?c1 ?c2 ?_)
  case c1 => omega
  case c2 => exact hszp
  intro v5 w4 hown' hgrow hat
  obtain ⟨hst4, hv5⟩ := HVA.out.grown hown' hgrow hat (by simp)
  obtain ⟨w5, hw5⟩ : ∃ w5, (w4.setCell ⟨p, 1, none⟩ v5) = w5 := ⟨_, rfl⟩
  have HW5 := Lib.hid hw5
  rw [hw5] at hv5
  have HV5 := Lib.hid hv5
  obtain ⟨c14, c24, f14, f24⟩ := hst4.c12
  clear hown' hgrow hat hst4 hv5 HVA hszp hw5 c0 c1 c2
  have hkl : nv < (L ++ [(⟨0, name.data.toList, [], 0, 0⟩ : Cel)]).length := by rw [HNV.out]; simp
  obtain ⟨n5, hn5⟩ : ∃ n5, (L ++ [(⟨0, name.data.toList, [], 0, 0⟩ : Cel)]).length = n5 := ⟨_, rfl⟩
  have hk5 : n5 = nv + 1 := by rw [← hn5, HNV.out]; simp
  obtain ⟨g, cap, hvg, hBg, hgl, -⟩ := HV5.out.own.form nv hkl
  rw [hn5] at hvg
  subst hvg
  obtain ⟨c15, c25, f15, f25⟩ := HV5.out.st.c12
  have hpg : p < g := by omega
  have q1 : (n5 : Int) - 1 = (nv : Int) := by omega
  have q2 : IntKind.i64.wrap (nv : Int) = (nv : Int) := IntWalk.i64_in _ (by omega)
  have q3 : (0 : Int) ≤ (nv : Int) := by omega
  have q4 : (nv : Int) < (n5 : Int) := by omega
  have q5 : (nv : Int).toNat = nv := by omega
  clear hn5 hk5
  go_wp2_with fail
  try rw [HW5.out]
  refine wp_region_held_drew (S := fun W => W.cell? ⟨p, 1, none⟩ = some (.slice (some ⟨g, 0, none⟩) n5 cap)) (by kernel_rfl) (c15) (fun hHeld => ?_)
  refine tky 0 (some 40) (v := ?_) rfl (by kernel_rfl) (by kernel_rfl) (by kernel_rfl) (fun _ _ _ h => h) ?_ hHeld ?_
  rotate_left
  focus (intro w hSw; (try dsimp only at hSw); go_simp; (try with_reducible rfl); done)
  simp only [Act.put, List.setIfInBounds_toArray, List.set_cons_zero, List.set_cons_succ]
  refine tky 1 (some 41) (v := ?_) rfl (by kernel_rfl) (by kernel_rfl) (by kernel_rfl) (fun _ _ _ h => h) ?_ hHeld ?_
  rotate_left
  focus (intro w hSw; (try dsimp only at hSw); go_simp; (try with_reducible rfl); done)
  simp only [Act.put, List.setIfInBounds_toArray, List.set_cons_zero, List.set_cons_succ]
  refine tky 2 (some 42) (v := ?_) rfl (by kernel_rfl) (by kernel_rfl) (by kernel_rfl) (fun _ _ _ h => h) ?_ hHeld ?_
  rotate_left
  focus (intro w hSw; (try dsimp only at hSw); go_simp; (try with_reducible rfl); done)
  simp only [Act.put, List.setIfInBounds_toArray, List.set_cons_zero, List.set_cons_succ]
  refine tky 3 (some 43) (v := ?_) rfl (by kernel_rfl) (by kernel_rfl) (by kernel_rfl) (fun _ _ _ h => h) ?_ hHeld ?_
  rotate_left
  focus (intro w hSw; (try dsimp only at hSw); go_simp; (try with_reducible rfl); done)
  simp only [Act.put, List.setIfInBounds_toArray, List.set_cons_zero, List.set_cons_succ]
  refine tky 4 (some 44) (v := ?_) rfl (by kernel_rfl) (by kernel_rfl) (by kernel_rfl) (fun _ _ _ h => h) ?_ hHeld ?_
  rotate_left
  focus (intro w hSw; (try dsimp only at hSw); go_simp; (try with_reducible rfl); done)
  simp only [Act.put, List.setIfInBounds_toArray, List.set_cons_zero, List.set_cons_succ]
  refine tky 5 (some 45) (v := ?_) rfl (by kernel_rfl) (by kernel_rfl) (by kernel_rfl) (fun _ _ _ h => h) ?_ hHeld ?_
  rotate_left
  focus (intro w hSw; (try dsimp only at hSw); go_simp; (try with_reducible rfl); done)
  simp only [Act.put, List.setIfInBounds_toArray, List.set_cons_zero, List.set_cons_succ]
  refine tky 6 (some 46) (v := ?_) rfl (by kernel_rfl) (by kernel_rfl) (by kernel_rfl) (fun _ _ _ h => h) ?_ hHeld ?_
  rotate_left
  focus (intro w hSw; (try dsimp only at hSw); go_simp; (try with_reducible rfl); done)
  simp only [Act.put, List.setIfInBounds_toArray, List.set_cons_zero, List.set_cons_succ]
  refine tky 7 (some 47) (v := ?_) rfl (by kernel_rfl) (by kernel_rfl) (by kernel_rfl) (fun _ _ _ h => h) ?_ hHeld ?_
  rotate_left
  focus (intro w hSw; (try dsimp only at hSw); go_simp; (try with_reducible rfl); done)
  simp only [Act.put, List.setIfInBounds_toArray, List.set_cons_zero, List.set_cons_succ]
  refine tky 8 (some 48) (v := ?_) rfl (by kernel_rfl) (by kernel_rfl) (by kernel_rfl) (fun _ _ _ h => h) ?_ hHeld ?_
  rotate_left
  focus (intro w hSw; (try dsimp only at hSw); go_simp; (try with_reducible rfl); done)
  simp only [Act.put, List.setIfInBounds_toArray, List.set_cons_zero, List.set_cons_succ]
  refine tky 9 (some 49) (v := ?_) rfl (by kernel_rfl) (by kernel_rfl) (by kernel_rfl) (fun _ _ _ h => h) ?_ hHeld ?_
  rotate_left
  focus (intro w hSw; (try dsimp only at hSw); go_simp; (try with_reducible rfl); done)
  simp only [Act.put, List.setIfInBounds_toArray, List.set_cons_zero, List.set_cons_succ]
  refine tky 10 (some 50) (v := ?_) rfl (by kernel_rfl) (by kernel_rfl) (by kernel_rfl) (fun _ _ _ h => h) ?_ hHeld ?_
  rotate_left
  focus (intro w hSw; (try dsimp only at hSw); go_simp; (try with_reducible rfl); done)
  simp only [Act.put, List.setIfInBounds_toArray, List.set_cons_zero, List.set_cons_succ]
  refine tky 11 (some 4) (v := ?_) rfl (by kernel_rfl) (by kernel_rfl) (by kernel_rfl) (fun _ _ _ h => h) ?_ hHeld ?_
  rotate_left
  focus (intro w hSw; (try dsimp only at hSw); go_simp; (try with_reducible rfl); done)
  simp only [Act.put, List.setIfInBounds_toArray, List.set_cons_zero, List.set_cons_succ]
  refine wpAnyH_done (by kernel_rfl) ?_ _
  obtain ⟨w6, hw6⟩ : ∃ w6, w5.drew = w6 := ⟨_, rfl⟩
  have HV6 : Hid (VP p W (.slice av nv cv) (.slice (some ⟨g, 0, none⟩) n5 cap) (L ++ [⟨0, name.data.toList, [], 0, 0⟩]) (c :: rest) op w6) := Lib.hid (by rw [← hw6]; exact HV5.out.below ⟨rfl, rfl, rfl, Nat.le_refl _, fun _ _ => rfl⟩)
  rw [hw6]
  obtain ⟨b6, hb6l, hr6⟩ := HV6.out.st
  have HR6 := Lib.hid hr6
  have HB6 := Lib.hid hb6l
  obtain ⟨d0, d1, d2⟩ := hr6.cells
  have e0 := hr6.frozen 0
  obtain ⟨y1, y2, y3, y4, -⟩ := tl_cons hb6l
  have h06 : b6[0]'y4 = c := at_zero hb6l y4
  obtain ⟨hfz, ck0, ck2, ck3⟩ := HV6.out.own.at_ rfl nv hkl
  have hfz0 := hfz (nv * 5)
  have hfz2 := hfz (nv * 5 + 2)
  have hfz3 := hfz (nv * 5 + 3)
  obtain ⟨z0, hz0⟩ : ∃ z : Int, (((L ++ [(⟨0, name.data.toList, [], 0, 0⟩ : Cel)])[nv]'hkl).kind.toNat : Int) = z := ⟨_, rfl⟩
  rw [hz0] at ck0
  clear hw6 hr6 hfz hz0 c14 c24 f14 f24 c15 c25 f15 f25 q1 q2 q3 q4 q5 HW5
  have t06 : ((b6[0]'y4).toNat : Int) = (c.toNat : Int) := by rw [h06]
  rw [hcc] at t06
  clear h06 hb6l hHeld
  go_wp2_with fail
  have HV7 : Hid (VP p W (.slice av nv cv) (.slice (some ⟨g, 0, none⟩) n5 cap) ((((L ++ [(⟨0, name.data.toList, [], 0, 0⟩ : Cel)])).modify nv fun c => { c with kind := 3 })) (c :: rest) op (w6.setCell ⟨g, nv * 5, none⟩ (.int .u8 3))) := Lib.hid (HV6.out.set rfl hpg (by rw [List.length_modify]) (by exact celFlat_set0 _ _ 3))
  refine (HM.out _ _ HV7.out.st (HEE.out.to HV7.out.vk.1).u).mono ?_; rintro x w8 ⟨rfl, hst, hk⟩
  have HV8 := Lib.hid (HV7.out.rk hst hk)
  clear hst hk d0 d1 d2 e0 ck0 ck2 ck3 hfz0 hfz2 hfz3
  have hkl2 : nv < ((((L ++ [(⟨0, name.data.toList, [], 0, 0⟩ : Cel)])).modify nv fun c => { c with kind := 3 })).length := by rw [List.length_modify]; exact hkl
  obtain ⟨hfz, ck0, ck2, ck3⟩ := HV8.out.own.at_ rfl nv hkl2
  have hfz2 := hfz (nv * 5 + 2)
  obtain ⟨z2, hz2⟩ : ∃ z, Value.string ⟨(((((L ++ [(⟨0, name.data.toList, [], 0, 0⟩ : Cel)])).modify nv fun c => { c with kind := 3 }))[nv]'hkl2).text.toArray⟩ = z := ⟨_, rfl⟩
  rw [hz2] at ck2
  clear ck0 ck3 hfz hz2
  have HV9 : Hid (VP p W (.slice av nv cv) (.slice (some ⟨g, 0, none⟩) n5 cap) ((((((L ++ [(⟨0, name.data.toList, [], 0, 0⟩ : Cel)])).modify nv fun c => { c with kind := 3 })).modify nv fun c => { c with text := s })) t op (w8.setCell ⟨g, nv * 5 + 2, none⟩ (.string ⟨s.toArray⟩))) := Lib.hid (HV8.out.set rfl hpg (by rw [List.length_modify]) (by exact celFlat_set2 _ _ s))
  have HOUT : Hid ((((((L ++ [(⟨0, name.data.toList, [], 0, 0⟩ : Cel)])).modify nv fun c => { c with kind := 3 })).modify nv fun c => { c with text := s }) = L ++ [⟨3, name.data.toList, s, 0, 0⟩]) := Lib.hid (by
    have hnl := HNV.out
    rw [modify_end' _ _ _ _ hnl, modify_end' _ _ _ _ hnl])
  go_wp2_with fail
  go_end0
  rw [HZ.out]
  rw [HOUT.out] at HV9
  exact ⟨rfl, by simp; omega, _, HV9.out⟩
set_option maxRecDepth 100000 in
set_option maxHeartbeats 4000000 in
theorem p_value_text_no (d p : Nat) (name : ByteArray) (op : Int) (v : Value) (L : List Cel) (l : List UInt8) (W : World) (hl : l.length ≤ 16384) (hv : validD l = true) (h : PS p l v op W) (hown : OwnC (p + 1) v L W) (hL : L.length ≤ 2048) (hE : EnvB p W) (c : UInt8) (rest : List UInt8) (hb : blJ l = c :: rest) (hbg : begJ c = true) (hf : L.length ≠ 2048) (hc : c = UInt8.ofNat 34) (ht : strJ (c :: rest) = none) :
    Calls Tryz.prog 85 #[.pointer (some ⟨p, 0, none⟩), .string name] W (VPE p W v op (valJ d name.data.toList l L)) := by
  have HV0 : Hid (VP p W v v L l op W) := Lib.hid ⟨h, hown, VK.refl _ _ _, fun k hk => Or.inl hk⟩
  have HBL := Lib.hid (fun (W : World) (hW : PS p l v op W) => p_blanks p l v op W hW)
  have HNO : Hid (∀ (e : Int) W, Calls Tryz.prog 87 #[.int .i64 e] W fun x w' => x = .panicked (stopL e) ∧ W = w') := Lib.hid fun e W => p_no e W
  have HEE := Lib.hid hE
  have hvl : ∃ a n c, v = .slice a n c ∧ n = L.length := by
    rcases HV0.out.own.2 with ⟨h1, h2⟩ | ⟨g, cap, cur, h1, _⟩
    · exact ⟨none, 0, 0, h1, h2.symm⟩
    · exact ⟨_, _, _, h1, rfl⟩
  obtain ⟨av, nv, cv, rfl, hnv⟩ := hvl
  have HNV := Lib.hid hnv
  have hnv8 : nv ≤ 2048 := by omega
  have hL2 : nv ≤ 2047 := by omega
  have hL3 : L.length ≤ 2047 := by omega
  have tf : ((nv : Int) == 2048) = false := by rw [beq_eq_false_iff_ne]; omega
  have hcr : (c :: rest).length ≤ 16384 := by rw [← hb]; exact Nat.le_trans (cut_bl l).1 hl
  have hcv : validD (c :: rest) = true := by rw [← hb]; exact (cut_bl l).2 hv
  have hcc : (c.toNat : Int) = 34 := by rw [hc]; rfl
  have HZ : Hid (valJ d name.data.toList l L = .error 40) := Lib.hid (by
    rw [valJ_leaf d _ l L c rest hb hf hbg (by rw [hc]; decide)]
    unfold leafJ
    rw [if_pos (by rw [hc]; decide), ht])
  have HM := Lib.hid (fun (u : Value) (W : World) (hW : PS p (c :: rest) u op W) (hE : ∀ W', RK p W W' → EnvU W') => text_no hcr hcv ht W hW hE)
  rw [hb] at HBL
  clear h hv hown hE hb hnv hf hc ht
  go_enter Tryz.func85, Tryz.ntmps85
  go_wp2_with fail
  refine (HBL.out _ HV0.out.st).mono ?_; rintro x w1 ⟨rfl, hst, hk⟩
  have HV1 := Lib.hid (HV0.out.rk hst hk)
  obtain ⟨b, hbl, hr⟩ := hst
  obtain ⟨c0, c1, c2⟩ := hr.cells
  obtain ⟨hb1, hb2, hb3, hb4, -⟩ := tl_cons hbl
  have h00 : b[0]'hb4 = c := at_zero hbl hb4
  obtain ⟨k, hkk⟩ : ∃ k, Lib.indexByte [123, 91, 34, 116, 102, 110, 45, 48, 49, 50, 51, 52, 53, 54, 55, 56, 57] c = k := ⟨_, rfl⟩
  have tk := beg_ix c
  rw [hkk, hbg] at tk
  simp only [Bool.not_true, Bool.not_false] at tk
  have HX1 : Hid (∀ W, Calls Tryz.prog 21 #[.string ⟨#[123, 91, 34, 116, 102, 110, 45, 48, 49, 50, 51, 52, 53, 54, 55, 56, 57]⟩, .int .u8 ((b[0]'hb4).toNat : Int)] W fun x w' => x = .returned (.int .i64 k) ∧ W = w') := Lib.hid fun W => by
    have := ix_any ⟨#[123, 91, 34, 116, 102, 110, 45, 48, 49, 50, 51, 52, 53, 54, 55, 56, 57]⟩ c W
    rw [show (⟨#[123, 91, 34, 116, 102, 110, 45, 48, 49, 50, 51, 52, 53, 54, 55, 56, 57]⟩ : ByteArray).data.toList = [123, 91, 34, 116, 102, 110, 45, 48, 49, 50, 51, 52, 53, 54, 55, 56, 57] from rfl, hkk] at this
    rw [h00]; exact this
  clear hk hr hbl h00 hkk
  go_wp2_with fail
  refine (HX1.out _).mono ?_; rintro x w2 ⟨rfl, rfl⟩
  have HVA : Hid (VP p W (.slice av nv cv) (.slice av nv cv) L (c :: rest) op (World.alloc w1 (.cells #[.int .u8 0, .string name, .string ⟨#[]⟩, .int .i64 0, .int .i64 0] 124))) := Lib.hid (HV1.out.alloc _)
  have hszp := HVA.out.st.lt
  go_wp2_with (at_builtin; refine wpList_pushC rfl _ _ rfl (p + 1) (.slice av nv cv) L rfl HVA.out.own _ 1 name.data.toList rfl (heap_alloc_new _ _) ?c1 ?c2 ?_)
  case c1 => omega
  case c2 => exact hszp
  intro v5 w4 hown' hgrow hat
  obtain ⟨hst4, hv5⟩ := HVA.out.grown hown' hgrow hat (by simp)
  obtain ⟨w5, hw5⟩ : ∃ w5, (w4.setCell ⟨p, 1, none⟩ v5) = w5 := ⟨_, rfl⟩
  have HW5 := Lib.hid hw5
  rw [hw5] at hv5
  have HV5 := Lib.hid hv5
  obtain ⟨c14, c24, f14, f24⟩ := hst4.c12
  clear hown' hgrow hat hst4 hv5 HVA hszp hw5 c0 c1 c2
  have hkl : nv < (L ++ [(⟨0, name.data.toList, [], 0, 0⟩ : Cel)]).length := by rw [HNV.out]; simp
  obtain ⟨n5, hn5⟩ : ∃ n5, (L ++ [(⟨0, name.data.toList, [], 0, 0⟩ : Cel)]).length = n5 := ⟨_, rfl⟩
  have hk5 : n5 = nv + 1 := by rw [← hn5, HNV.out]; simp
  obtain ⟨g, cap, hvg, hBg, hgl, -⟩ := HV5.out.own.form nv hkl
  rw [hn5] at hvg
  subst hvg
  obtain ⟨c15, c25, f15, f25⟩ := HV5.out.st.c12
  have hpg : p < g := by omega
  have q1 : (n5 : Int) - 1 = (nv : Int) := by omega
  have q2 : IntKind.i64.wrap (nv : Int) = (nv : Int) := IntWalk.i64_in _ (by omega)
  have q3 : (0 : Int) ≤ (nv : Int) := by omega
  have q4 : (nv : Int) < (n5 : Int) := by omega
  have q5 : (nv : Int).toNat = nv := by omega
  clear hn5 hk5
  go_wp2_with fail
  try rw [HW5.out]
  refine wp_region_held_drew (S := fun W => W.cell? ⟨p, 1, none⟩ = some (.slice (some ⟨g, 0, none⟩) n5 cap)) (by kernel_rfl) (c15) (fun hHeld => ?_)
  refine tky 0 (some 40) (v := ?_) rfl (by kernel_rfl) (by kernel_rfl) (by kernel_rfl) (fun _ _ _ h => h) ?_ hHeld ?_
  rotate_left
  focus (intro w hSw; (try dsimp only at hSw); go_simp; (try with_reducible rfl); done)
  simp only [Act.put, List.setIfInBounds_toArray, List.set_cons_zero, List.set_cons_succ]
  refine tky 1 (some 41) (v := ?_) rfl (by kernel_rfl) (by kernel_rfl) (by kernel_rfl) (fun _ _ _ h => h) ?_ hHeld ?_
  rotate_left
  focus (intro w hSw; (try dsimp only at hSw); go_simp; (try with_reducible rfl); done)
  simp only [Act.put, List.setIfInBounds_toArray, List.set_cons_zero, List.set_cons_succ]
  refine tky 2 (some 42) (v := ?_) rfl (by kernel_rfl) (by kernel_rfl) (by kernel_rfl) (fun _ _ _ h => h) ?_ hHeld ?_
  rotate_left
  focus (intro w hSw; (try dsimp only at hSw); go_simp; (try with_reducible rfl); done)
  simp only [Act.put, List.setIfInBounds_toArray, List.set_cons_zero, List.set_cons_succ]
  refine tky 3 (some 43) (v := ?_) rfl (by kernel_rfl) (by kernel_rfl) (by kernel_rfl) (fun _ _ _ h => h) ?_ hHeld ?_
  rotate_left
  focus (intro w hSw; (try dsimp only at hSw); go_simp; (try with_reducible rfl); done)
  simp only [Act.put, List.setIfInBounds_toArray, List.set_cons_zero, List.set_cons_succ]
  refine tky 4 (some 44) (v := ?_) rfl (by kernel_rfl) (by kernel_rfl) (by kernel_rfl) (fun _ _ _ h => h) ?_ hHeld ?_
  rotate_left
  focus (intro w hSw; (try dsimp only at hSw); go_simp; (try with_reducible rfl); done)
  simp only [Act.put, List.setIfInBounds_toArray, List.set_cons_zero, List.set_cons_succ]
  refine tky 5 (some 45) (v := ?_) rfl (by kernel_rfl) (by kernel_rfl) (by kernel_rfl) (fun _ _ _ h => h) ?_ hHeld ?_
  rotate_left
  focus (intro w hSw; (try dsimp only at hSw); go_simp; (try with_reducible rfl); done)
  simp only [Act.put, List.setIfInBounds_toArray, List.set_cons_zero, List.set_cons_succ]
  refine tky 6 (some 46) (v := ?_) rfl (by kernel_rfl) (by kernel_rfl) (by kernel_rfl) (fun _ _ _ h => h) ?_ hHeld ?_
  rotate_left
  focus (intro w hSw; (try dsimp only at hSw); go_simp; (try with_reducible rfl); done)
  simp only [Act.put, List.setIfInBounds_toArray, List.set_cons_zero, List.set_cons_succ]
  refine tky 7 (some 47) (v := ?_) rfl (by kernel_rfl) (by kernel_rfl) (by kernel_rfl) (fun _ _ _ h => h) ?_ hHeld ?_
  rotate_left
  focus (intro w hSw; (try dsimp only at hSw); go_simp; (try with_reducible rfl); done)
  simp only [Act.put, List.setIfInBounds_toArray, List.set_cons_zero, List.set_cons_succ]
  refine tky 8 (some 48) (v := ?_) rfl (by kernel_rfl) (by kernel_rfl) (by kernel_rfl) (fun _ _ _ h => h) ?_ hHeld ?_
  rotate_left
  focus (intro w hSw; (try dsimp only at hSw); go_simp; (try with_reducible rfl); done)
  simp only [Act.put, List.setIfInBounds_toArray, List.set_cons_zero, List.set_cons_succ]
  refine tky 9 (some 49) (v := ?_) rfl (by kernel_rfl) (by kernel_rfl) (by kernel_rfl) (fun _ _ _ h => h) ?_ hHeld ?_
  rotate_left
  focus (intro w hSw; (try dsimp only at hSw); go_simp; (try with_reducible rfl); done)
  simp only [Act.put, List.setIfInBounds_toArray, List.set_cons_zero, List.set_cons_succ]
  refine tky 10 (some 50) (v := ?_) rfl (by kernel_rfl) (by kernel_rfl) (by kernel_rfl) (fun _ _ _ h => h) ?_ hHeld ?_
  rotate_left
  focus (intro w hSw; (try dsimp only at hSw); go_simp; (try with_reducible rfl); done)
  simp only [Act.put, List.setIfInBounds_toArray, List.set_cons_zero, List.set_cons_succ]
  refine tky 11 (some 4) (v := ?_) rfl (by kernel_rfl) (by kernel_rfl) (by kernel_rfl) (fun _ _ _ h => h) ?_ hHeld ?_
  rotate_left
  focus (intro w hSw; (try dsimp only at hSw); go_simp; (try with_reducible rfl); done)
  simp only [Act.put, List.setIfInBounds_toArray, List.set_cons_zero, List.set_cons_succ]
  refine wpAnyH_done (by kernel_rfl) ?_ _
  obtain ⟨w6, hw6⟩ : ∃ w6, w5.drew = w6 := ⟨_, rfl⟩
  have HV6 : Hid (VP p W (.slice av nv cv) (.slice (some ⟨g, 0, none⟩) n5 cap) (L ++ [⟨0, name.data.toList, [], 0, 0⟩]) (c :: rest) op w6) := Lib.hid (by rw [← hw6]; exact HV5.out.below ⟨rfl, rfl, rfl, Nat.le_refl _, fun _ _ => rfl⟩)
  rw [hw6]
  obtain ⟨b6, hb6l, hr6⟩ := HV6.out.st
  have HR6 := Lib.hid hr6
  have HB6 := Lib.hid hb6l
  obtain ⟨d0, d1, d2⟩ := hr6.cells
  have e0 := hr6.frozen 0
  obtain ⟨y1, y2, y3, y4, -⟩ := tl_cons hb6l
  have h06 : b6[0]'y4 = c := at_zero hb6l y4
  obtain ⟨hfz, ck0, ck2, ck3⟩ := HV6.out.own.at_ rfl nv hkl
  have hfz0 := hfz (nv * 5)
  have hfz2 := hfz (nv * 5 + 2)
  have hfz3 := hfz (nv * 5 + 3)
  obtain ⟨z0, hz0⟩ : ∃ z : Int, (((L ++ [(⟨0, name.data.toList, [], 0, 0⟩ : Cel)])[nv]'hkl).kind.toNat : Int) = z := ⟨_, rfl⟩
  rw [hz0] at ck0
  clear hw6 hr6 hfz hz0 c14 c24 f14 f24 c15 c25 f15 f25 q1 q2 q3 q4 q5 HW5
  have t06 : ((b6[0]'y4).toNat : Int) = (c.toNat : Int) := by rw [h06]
  rw [hcc] at t06
  clear h06 hb6l hHeld
  go_wp2_with fail
  have HV7 : Hid (VP p W (.slice av nv cv) (.slice (some ⟨g, 0, none⟩) n5 cap) ((((L ++ [(⟨0, name.data.toList, [], 0, 0⟩ : Cel)])).modify nv fun c => { c with kind := 3 })) (c :: rest) op (w6.setCell ⟨g, nv * 5, none⟩ (.int .u8 3))) := Lib.hid (HV6.out.set rfl hpg (by rw [List.length_modify]) (by exact celFlat_set0 _ _ 3))
  refine (HM.out _ _ HV7.out.st (HEE.out.to HV7.out.vk.1).u).mono ?_; rintro x w8 ⟨rfl, hb⟩
  have HB8 := Lib.hid (HV7.out.vk.1.trans hb)
  clear hb
  go_wp2_with fail
  refine ⟨rfl, ?_⟩
  rw [HZ.out]
  exact ⟨rfl, HB8.out⟩
set_option maxRecDepth 100000 in
set_option maxHeartbeats 4000000 in
theorem p_value_num (d p : Nat) (name : ByteArray) (op : Int) (v : Value) (L : List Cel) (l : List UInt8) (W : World) (hl : l.length ≤ 16384) (hv : validD l = true) (h : PS p l v op W) (hown : OwnC (p + 1) v L W) (hL : L.length ≤ 2048) (hE : EnvB p W) (c : UInt8) (rest : List UInt8) (hb : blJ l = c :: rest) (hbg : begJ c = true) (hf : L.length ≠ 2048) (hc : c = 45 ∨ isDig c = true) (n : Int) (t : List UInt8) (ht : numJ (c :: rest) = .ok (n, t)) :
    Calls Tryz.prog 85 #[.pointer (some ⟨p, 0, none⟩), .string name] W (VPE p W v op (valJ d name.data.toList l L)) := by
  have HV0 : Hid (VP p W v v L l op W) := Lib.hid ⟨h, hown, VK.refl _ _ _, fun k hk => Or.inl hk⟩
  have HBL := Lib.hid (fun (W : World) (hW : PS p l v op W) => p_blanks p l v op W hW)
  have HNO : Hid (∀ (e : Int) W, Calls Tryz.prog 87 #[.int .i64 e] W fun x w' => x = .panicked (stopL e) ∧ W = w') := Lib.hid fun e W => p_no e W
  have HEE := Lib.hid hE
  have hvl : ∃ a n c, v = .slice a n c ∧ n = L.length := by
    rcases HV0.out.own.2 with ⟨h1, h2⟩ | ⟨g, cap, cur, h1, _⟩
    · exact ⟨none, 0, 0, h1, h2.symm⟩
    · exact ⟨_, _, _, h1, rfl⟩
  obtain ⟨av, nv, cv, rfl, hnv⟩ := hvl
  have HNV := Lib.hid hnv
  have hnv8 : nv ≤ 2048 := by omega
  have hL2 : nv ≤ 2047 := by omega
  have hL3 : L.length ≤ 2047 := by omega
  have tf : ((nv : Int) == 2048) = false := by rw [beq_eq_false_iff_ne]; omega
  have hcr : (c :: rest).length ≤ 16384 := by rw [← hb]; exact Nat.le_trans (cut_bl l).1 hl
  have hcv : validD (c :: rest) = true := by rw [← hb]; exact (cut_bl l).2 hv
  have hcr2 : c.toNat = 45 ∨ (48 ≤ c.toNat ∧ c.toNat ≤ 57) := by
    rcases hc with h | h
    · exact Or.inl (by rw [h]; rfl)
    · exact Or.inr ((isDig_iff c).1 h)
  have HZ : Hid (valJ d name.data.toList l L = .ok (t, L ++ [⟨2, name.data.toList, [], n, 0⟩])) := Lib.hid (by
    have g1 : ∀ x : Nat, x < 256 → x ≠ 45 → ¬ (48 ≤ x ∧ x ≤ 57) → ¬ c = UInt8.ofNat x := fun x hx h1 h2 e => by
      have := congrArg UInt8.toNat e
      rw [ofN x hx] at this
      omega
    rw [valJ_leaf d _ l L c rest hb hf hbg (by
      rintro (e | e)
      · exact g1 123 (by decide) (by decide) (by decide) e
      · exact g1 91 (by decide) (by decide) (by decide) e)]
    unfold leafJ
    rw [if_neg (show ¬ c = 34 from g1 34 (by decide) (by decide) (by decide)), if_neg (show ¬ c = 116 from g1 116 (by decide) (by decide) (by decide)), if_neg (show ¬ c = 102 from g1 102 (by decide) (by decide) (by decide)), if_neg (show ¬ c = 110 from g1 110 (by decide) (by decide) (by decide)), ht])
  have HM := Lib.hid (fun (u : Value) (out : List Cel) (W : World) (h0 : out.length ≤ 2048) (h1 : 0 < out.length) (hW : PS p (c :: rest) u op W) (ho : OwnC (p + 1) u out W) (hE : ∀ W', VK p u W W' → Env W') => p_number p u op (c :: rest) out (by omega) h0 h1 W hW ho hE)
  unfold nuJ at HM
  rw [ht] at HM
  rw [hb] at HBL
  clear h hv hown hE hb hnv hf hc ht
  go_enter Tryz.func85, Tryz.ntmps85
  go_wp2_with fail
  refine (HBL.out _ HV0.out.st).mono ?_; rintro x w1 ⟨rfl, hst, hk⟩
  have HV1 := Lib.hid (HV0.out.rk hst hk)
  obtain ⟨b, hbl, hr⟩ := hst
  obtain ⟨c0, c1, c2⟩ := hr.cells
  obtain ⟨hb1, hb2, hb3, hb4, -⟩ := tl_cons hbl
  have h00 : b[0]'hb4 = c := at_zero hbl hb4
  obtain ⟨k, hkk⟩ : ∃ k, Lib.indexByte [123, 91, 34, 116, 102, 110, 45, 48, 49, 50, 51, 52, 53, 54, 55, 56, 57] c = k := ⟨_, rfl⟩
  have tk := beg_ix c
  rw [hkk, hbg] at tk
  simp only [Bool.not_true, Bool.not_false] at tk
  have HX1 : Hid (∀ W, Calls Tryz.prog 21 #[.string ⟨#[123, 91, 34, 116, 102, 110, 45, 48, 49, 50, 51, 52, 53, 54, 55, 56, 57]⟩, .int .u8 ((b[0]'hb4).toNat : Int)] W fun x w' => x = .returned (.int .i64 k) ∧ W = w') := Lib.hid fun W => by
    have := ix_any ⟨#[123, 91, 34, 116, 102, 110, 45, 48, 49, 50, 51, 52, 53, 54, 55, 56, 57]⟩ c W
    rw [show (⟨#[123, 91, 34, 116, 102, 110, 45, 48, 49, 50, 51, 52, 53, 54, 55, 56, 57]⟩ : ByteArray).data.toList = [123, 91, 34, 116, 102, 110, 45, 48, 49, 50, 51, 52, 53, 54, 55, 56, 57] from rfl, hkk] at this
    rw [h00]; exact this
  clear hk hr hbl h00 hkk
  go_wp2_with fail
  refine (HX1.out _).mono ?_; rintro x w2 ⟨rfl, rfl⟩
  have HVA : Hid (VP p W (.slice av nv cv) (.slice av nv cv) L (c :: rest) op (World.alloc w1 (.cells #[.int .u8 0, .string name, .string ⟨#[]⟩, .int .i64 0, .int .i64 0] 124))) := Lib.hid (HV1.out.alloc _)
  have hszp := HVA.out.st.lt
  go_wp2_with (at_builtin; refine wpList_pushC rfl _ _ rfl (p + 1) (.slice av nv cv) L rfl HVA.out.own _ 1 name.data.toList rfl (heap_alloc_new _ _) ?c1 ?c2 ?_)
  case c1 => omega
  case c2 => exact hszp
  intro v5 w4 hown' hgrow hat
  obtain ⟨hst4, hv5⟩ := HVA.out.grown hown' hgrow hat (by simp)
  obtain ⟨w5, hw5⟩ : ∃ w5, (w4.setCell ⟨p, 1, none⟩ v5) = w5 := ⟨_, rfl⟩
  have HW5 := Lib.hid hw5
  rw [hw5] at hv5
  have HV5 := Lib.hid hv5
  obtain ⟨c14, c24, f14, f24⟩ := hst4.c12
  clear hown' hgrow hat hst4 hv5 HVA hszp hw5 c0 c1 c2
  have hkl : nv < (L ++ [(⟨0, name.data.toList, [], 0, 0⟩ : Cel)]).length := by rw [HNV.out]; simp
  obtain ⟨n5, hn5⟩ : ∃ n5, (L ++ [(⟨0, name.data.toList, [], 0, 0⟩ : Cel)]).length = n5 := ⟨_, rfl⟩
  have hk5 : n5 = nv + 1 := by rw [← hn5, HNV.out]; simp
  obtain ⟨g, cap, hvg, hBg, hgl, -⟩ := HV5.out.own.form nv hkl
  rw [hn5] at hvg
  subst hvg
  obtain ⟨c15, c25, f15, f25⟩ := HV5.out.st.c12
  have hpg : p < g := by omega
  have q1 : (n5 : Int) - 1 = (nv : Int) := by omega
  have q2 : IntKind.i64.wrap (nv : Int) = (nv : Int) := IntWalk.i64_in _ (by omega)
  have q3 : (0 : Int) ≤ (nv : Int) := by omega
  have q4 : (nv : Int) < (n5 : Int) := by omega
  have q5 : (nv : Int).toNat = nv := by omega
  clear hn5 hk5
  go_wp2_with fail
  try rw [HW5.out]
  refine wp_region_held_drew (S := fun W => W.cell? ⟨p, 1, none⟩ = some (.slice (some ⟨g, 0, none⟩) n5 cap)) (by kernel_rfl) (c15) (fun hHeld => ?_)
  refine tky 0 (some 40) (v := ?_) rfl (by kernel_rfl) (by kernel_rfl) (by kernel_rfl) (fun _ _ _ h => h) ?_ hHeld ?_
  rotate_left
  focus (intro w hSw; (try dsimp only at hSw); go_simp; (try with_reducible rfl); done)
  simp only [Act.put, List.setIfInBounds_toArray, List.set_cons_zero, List.set_cons_succ]
  refine tky 1 (some 41) (v := ?_) rfl (by kernel_rfl) (by kernel_rfl) (by kernel_rfl) (fun _ _ _ h => h) ?_ hHeld ?_
  rotate_left
  focus (intro w hSw; (try dsimp only at hSw); go_simp; (try with_reducible rfl); done)
  simp only [Act.put, List.setIfInBounds_toArray, List.set_cons_zero, List.set_cons_succ]
  refine tky 2 (some 42) (v := ?_) rfl (by kernel_rfl) (by kernel_rfl) (by kernel_rfl) (fun _ _ _ h => h) ?_ hHeld ?_
  rotate_left
  focus (intro w hSw; (try dsimp only at hSw); go_simp; (try with_reducible rfl); done)
  simp only [Act.put, List.setIfInBounds_toArray, List.set_cons_zero, List.set_cons_succ]
  refine tky 3 (some 43) (v := ?_) rfl (by kernel_rfl) (by kernel_rfl) (by kernel_rfl) (fun _ _ _ h => h) ?_ hHeld ?_
  rotate_left
  focus (intro w hSw; (try dsimp only at hSw); go_simp; (try with_reducible rfl); done)
  simp only [Act.put, List.setIfInBounds_toArray, List.set_cons_zero, List.set_cons_succ]
  refine tky 4 (some 44) (v := ?_) rfl (by kernel_rfl) (by kernel_rfl) (by kernel_rfl) (fun _ _ _ h => h) ?_ hHeld ?_
  rotate_left
  focus (intro w hSw; (try dsimp only at hSw); go_simp; (try with_reducible rfl); done)
  simp only [Act.put, List.setIfInBounds_toArray, List.set_cons_zero, List.set_cons_succ]
  refine tky 5 (some 45) (v := ?_) rfl (by kernel_rfl) (by kernel_rfl) (by kernel_rfl) (fun _ _ _ h => h) ?_ hHeld ?_
  rotate_left
  focus (intro w hSw; (try dsimp only at hSw); go_simp; (try with_reducible rfl); done)
  simp only [Act.put, List.setIfInBounds_toArray, List.set_cons_zero, List.set_cons_succ]
  refine tky 6 (some 46) (v := ?_) rfl (by kernel_rfl) (by kernel_rfl) (by kernel_rfl) (fun _ _ _ h => h) ?_ hHeld ?_
  rotate_left
  focus (intro w hSw; (try dsimp only at hSw); go_simp; (try with_reducible rfl); done)
  simp only [Act.put, List.setIfInBounds_toArray, List.set_cons_zero, List.set_cons_succ]
  refine tky 7 (some 47) (v := ?_) rfl (by kernel_rfl) (by kernel_rfl) (by kernel_rfl) (fun _ _ _ h => h) ?_ hHeld ?_
  rotate_left
  focus (intro w hSw; (try dsimp only at hSw); go_simp; (try with_reducible rfl); done)
  simp only [Act.put, List.setIfInBounds_toArray, List.set_cons_zero, List.set_cons_succ]
  refine tky 8 (some 48) (v := ?_) rfl (by kernel_rfl) (by kernel_rfl) (by kernel_rfl) (fun _ _ _ h => h) ?_ hHeld ?_
  rotate_left
  focus (intro w hSw; (try dsimp only at hSw); go_simp; (try with_reducible rfl); done)
  simp only [Act.put, List.setIfInBounds_toArray, List.set_cons_zero, List.set_cons_succ]
  refine tky 9 (some 49) (v := ?_) rfl (by kernel_rfl) (by kernel_rfl) (by kernel_rfl) (fun _ _ _ h => h) ?_ hHeld ?_
  rotate_left
  focus (intro w hSw; (try dsimp only at hSw); go_simp; (try with_reducible rfl); done)
  simp only [Act.put, List.setIfInBounds_toArray, List.set_cons_zero, List.set_cons_succ]
  refine tky 10 (some 50) (v := ?_) rfl (by kernel_rfl) (by kernel_rfl) (by kernel_rfl) (fun _ _ _ h => h) ?_ hHeld ?_
  rotate_left
  focus (intro w hSw; (try dsimp only at hSw); go_simp; (try with_reducible rfl); done)
  simp only [Act.put, List.setIfInBounds_toArray, List.set_cons_zero, List.set_cons_succ]
  refine tky 11 (some 4) (v := ?_) rfl (by kernel_rfl) (by kernel_rfl) (by kernel_rfl) (fun _ _ _ h => h) ?_ hHeld ?_
  rotate_left
  focus (intro w hSw; (try dsimp only at hSw); go_simp; (try with_reducible rfl); done)
  simp only [Act.put, List.setIfInBounds_toArray, List.set_cons_zero, List.set_cons_succ]
  refine wpAnyH_done (by kernel_rfl) ?_ _
  obtain ⟨w6, hw6⟩ : ∃ w6, w5.drew = w6 := ⟨_, rfl⟩
  have HV6 : Hid (VP p W (.slice av nv cv) (.slice (some ⟨g, 0, none⟩) n5 cap) (L ++ [⟨0, name.data.toList, [], 0, 0⟩]) (c :: rest) op w6) := Lib.hid (by rw [← hw6]; exact HV5.out.below ⟨rfl, rfl, rfl, Nat.le_refl _, fun _ _ => rfl⟩)
  rw [hw6]
  obtain ⟨b6, hb6l, hr6⟩ := HV6.out.st
  have HR6 := Lib.hid hr6
  have HB6 := Lib.hid hb6l
  obtain ⟨d0, d1, d2⟩ := hr6.cells
  have e0 := hr6.frozen 0
  obtain ⟨y1, y2, y3, y4, -⟩ := tl_cons hb6l
  have h06 : b6[0]'y4 = c := at_zero hb6l y4
  obtain ⟨hfz, ck0, ck2, ck3⟩ := HV6.out.own.at_ rfl nv hkl
  have hfz0 := hfz (nv * 5)
  have hfz2 := hfz (nv * 5 + 2)
  have hfz3 := hfz (nv * 5 + 3)
  obtain ⟨z0, hz0⟩ : ∃ z : Int, (((L ++ [(⟨0, name.data.toList, [], 0, 0⟩ : Cel)])[nv]'hkl).kind.toNat : Int) = z := ⟨_, rfl⟩
  rw [hz0] at ck0
  clear hw6 hr6 hfz hz0 c14 c24 f14 f24 c15 c25 f15 f25 q1 q2 q3 q4 q5 HW5
  have u123 : (((b6[0]'y4).toNat : Int) == 123) = false := by rw [h06, beq_eq_false_iff_ne]; omega
  have u91 : (((b6[0]'y4).toNat : Int) == 91) = false := by rw [h06, beq_eq_false_iff_ne]; omega
  have u34 : (((b6[0]'y4).toNat : Int) == 34) = false := by rw [h06, beq_eq_false_iff_ne]; omega
  have u116 : (((b6[0]'y4).toNat : Int) == 116) = false := by rw [h06, beq_eq_false_iff_ne]; omega
  have u102 : (((b6[0]'y4).toNat : Int) == 102) = false := by rw [h06, beq_eq_false_iff_ne]; omega
  have u110 : (((b6[0]'y4).toNat : Int) == 110) = false := by rw [h06, beq_eq_false_iff_ne]; omega
  clear h06 hb6l hHeld hcr2
  go_wp2_with fail
  have HV7 : Hid (VP p W (.slice av nv cv) (.slice (some ⟨g, 0, none⟩) n5 cap) ((((L ++ [(⟨0, name.data.toList, [], 0, 0⟩ : Cel)])).modify nv fun c => { c with kind := 2 })) (c :: rest) op (w6.setCell ⟨g, nv * 5, none⟩ (.int .u8 2))) := Lib.hid (HV6.out.set rfl hpg (by rw [List.length_modify]) (by exact celFlat_set0 _ _ 2))
  refine (HM.out _ _ _ (by rw [List.length_modify]; simp; omega) (by rw [List.length_modify]; simp) HV7.out.st HV7.out.own (HEE.out.to HV7.out.vk.1).e).mono ?_; rintro x w8 ⟨rfl, hol, v8, hv8⟩
  have HV8 := Lib.hid (HV7.out.join hv8)
  have HOUT : Hid (((((L ++ [(⟨0, name.data.toList, [], 0, 0⟩ : Cel)])).modify nv fun c => { c with kind := 2 })).modify (((((L ++ [(⟨0, name.data.toList, [], 0, 0⟩ : Cel)])).modify nv fun c => { c with kind := 2 })).length - 1) (fun c => { c with num := n }) = L ++ [⟨2, name.data.toList, [], n, 0⟩]) := Lib.hid (by
    have hnl := HNV.out
    rw [List.length_modify, show (L ++ [(⟨0, name.data.toList, [], 0, 0⟩ : Cel)]).length - 1 = nv from by rw [hnl]; simp]
    rw [modify_end' _ _ _ _ hnl, modify_end' _ _ _ _ hnl])
  clear hol hv8
  go_wp2_with fail
  go_end0
  rw [HZ.out]
  rw [HOUT.out] at HV8
  exact ⟨rfl, by simp; omega, _, HV8.out⟩
set_option maxRecDepth 100000 in
set_option maxHeartbeats 4000000 in
theorem p_value_num_no (d p : Nat) (name : ByteArray) (op : Int) (v : Value) (L : List Cel) (l : List UInt8) (W : World) (hl : l.length ≤ 16384) (hv : validD l = true) (h : PS p l v op W) (hown : OwnC (p + 1) v L W) (hL : L.length ≤ 2048) (hE : EnvB p W) (c : UInt8) (rest : List UInt8) (hb : blJ l = c :: rest) (hbg : begJ c = true) (hf : L.length ≠ 2048) (hc : c = 45 ∨ isDig c = true) (e : Int) (ht : numJ (c :: rest) = .error e) :
    Calls Tryz.prog 85 #[.pointer (some ⟨p, 0, none⟩), .string name] W (VPE p W v op (valJ d name.data.toList l L)) := by
  have HV0 : Hid (VP p W v v L l op W) := Lib.hid ⟨h, hown, VK.refl _ _ _, fun k hk => Or.inl hk⟩
  have HBL := Lib.hid (fun (W : World) (hW : PS p l v op W) => p_blanks p l v op W hW)
  have HNO : Hid (∀ (e : Int) W, Calls Tryz.prog 87 #[.int .i64 e] W fun x w' => x = .panicked (stopL e) ∧ W = w') := Lib.hid fun e W => p_no e W
  have HEE := Lib.hid hE
  have hvl : ∃ a n c, v = .slice a n c ∧ n = L.length := by
    rcases HV0.out.own.2 with ⟨h1, h2⟩ | ⟨g, cap, cur, h1, _⟩
    · exact ⟨none, 0, 0, h1, h2.symm⟩
    · exact ⟨_, _, _, h1, rfl⟩
  obtain ⟨av, nv, cv, rfl, hnv⟩ := hvl
  have HNV := Lib.hid hnv
  have hnv8 : nv ≤ 2048 := by omega
  have hL2 : nv ≤ 2047 := by omega
  have hL3 : L.length ≤ 2047 := by omega
  have tf : ((nv : Int) == 2048) = false := by rw [beq_eq_false_iff_ne]; omega
  have hcr : (c :: rest).length ≤ 16384 := by rw [← hb]; exact Nat.le_trans (cut_bl l).1 hl
  have hcv : validD (c :: rest) = true := by rw [← hb]; exact (cut_bl l).2 hv
  have hcr2 : c.toNat = 45 ∨ (48 ≤ c.toNat ∧ c.toNat ≤ 57) := by
    rcases hc with h | h
    · exact Or.inl (by rw [h]; rfl)
    · exact Or.inr ((isDig_iff c).1 h)
  have HZ : Hid (valJ d name.data.toList l L = .error e) := Lib.hid (by
    have g1 : ∀ x : Nat, x < 256 → x ≠ 45 → ¬ (48 ≤ x ∧ x ≤ 57) → ¬ c = UInt8.ofNat x := fun x hx h1 h2 e => by
      have := congrArg UInt8.toNat e
      rw [ofN x hx] at this
      omega
    rw [valJ_leaf d _ l L c rest hb hf hbg (by
      rintro (e | e)
      · exact g1 123 (by decide) (by decide) (by decide) e
      · exact g1 91 (by decide) (by decide) (by decide) e)]
    unfold leafJ
    rw [if_neg (show ¬ c = 34 from g1 34 (by decide) (by decide) (by decide)), if_neg (show ¬ c = 116 from g1 116 (by decide) (by decide) (by decide)), if_neg (show ¬ c = 102 from g1 102 (by decide) (by decide) (by decide)), if_neg (show ¬ c = 110 from g1 110 (by decide) (by decide) (by decide)), ht])
  have HM := Lib.hid (fun (u : Value) (out : List Cel) (W : World) (h0 : out.length ≤ 2048) (h1 : 0 < out.length) (hW : PS p (c :: rest) u op W) (ho : OwnC (p + 1) u out W) (hE : ∀ W', VK p u W W' → Env W') => p_number p u op (c :: rest) out (by omega) h0 h1 W hW ho hE)
  unfold nuJ at HM
  rw [ht] at HM
  rw [hb] at HBL
  clear h hv hown hE hb hnv hf hc ht
  go_enter Tryz.func85, Tryz.ntmps85
  go_wp2_with fail
  refine (HBL.out _ HV0.out.st).mono ?_; rintro x w1 ⟨rfl, hst, hk⟩
  have HV1 := Lib.hid (HV0.out.rk hst hk)
  obtain ⟨b, hbl, hr⟩ := hst
  obtain ⟨c0, c1, c2⟩ := hr.cells
  obtain ⟨hb1, hb2, hb3, hb4, -⟩ := tl_cons hbl
  have h00 : b[0]'hb4 = c := at_zero hbl hb4
  obtain ⟨k, hkk⟩ : ∃ k, Lib.indexByte [123, 91, 34, 116, 102, 110, 45, 48, 49, 50, 51, 52, 53, 54, 55, 56, 57] c = k := ⟨_, rfl⟩
  have tk := beg_ix c
  rw [hkk, hbg] at tk
  simp only [Bool.not_true, Bool.not_false] at tk
  have HX1 : Hid (∀ W, Calls Tryz.prog 21 #[.string ⟨#[123, 91, 34, 116, 102, 110, 45, 48, 49, 50, 51, 52, 53, 54, 55, 56, 57]⟩, .int .u8 ((b[0]'hb4).toNat : Int)] W fun x w' => x = .returned (.int .i64 k) ∧ W = w') := Lib.hid fun W => by
    have := ix_any ⟨#[123, 91, 34, 116, 102, 110, 45, 48, 49, 50, 51, 52, 53, 54, 55, 56, 57]⟩ c W
    rw [show (⟨#[123, 91, 34, 116, 102, 110, 45, 48, 49, 50, 51, 52, 53, 54, 55, 56, 57]⟩ : ByteArray).data.toList = [123, 91, 34, 116, 102, 110, 45, 48, 49, 50, 51, 52, 53, 54, 55, 56, 57] from rfl, hkk] at this
    rw [h00]; exact this
  clear hk hr hbl h00 hkk
  go_wp2_with fail
  refine (HX1.out _).mono ?_; rintro x w2 ⟨rfl, rfl⟩
  have HVA : Hid (VP p W (.slice av nv cv) (.slice av nv cv) L (c :: rest) op (World.alloc w1 (.cells #[.int .u8 0, .string name, .string ⟨#[]⟩, .int .i64 0, .int .i64 0] 124))) := Lib.hid (HV1.out.alloc _)
  have hszp := HVA.out.st.lt
  go_wp2_with (at_builtin; refine wpList_pushC rfl _ _ rfl (p + 1) (.slice av nv cv) L rfl HVA.out.own _ 1 name.data.toList rfl (heap_alloc_new _ _) ?c1 ?c2 ?_)
  case c1 => omega
  case c2 => exact hszp
  intro v5 w4 hown' hgrow hat
  obtain ⟨hst4, hv5⟩ := HVA.out.grown hown' hgrow hat (by simp)
  obtain ⟨w5, hw5⟩ : ∃ w5, (w4.setCell ⟨p, 1, none⟩ v5) = w5 := ⟨_, rfl⟩
  have HW5 := Lib.hid hw5
  rw [hw5] at hv5
  have HV5 := Lib.hid hv5
  obtain ⟨c14, c24, f14, f24⟩ := hst4.c12
  clear hown' hgrow hat hst4 hv5 HVA hszp hw5 c0 c1 c2
  have hkl : nv < (L ++ [(⟨0, name.data.toList, [], 0, 0⟩ : Cel)]).length := by rw [HNV.out]; simp
  obtain ⟨n5, hn5⟩ : ∃ n5, (L ++ [(⟨0, name.data.toList, [], 0, 0⟩ : Cel)]).length = n5 := ⟨_, rfl⟩
  have hk5 : n5 = nv + 1 := by rw [← hn5, HNV.out]; simp
  obtain ⟨g, cap, hvg, hBg, hgl, -⟩ := HV5.out.own.form nv hkl
  rw [hn5] at hvg
  subst hvg
  obtain ⟨c15, c25, f15, f25⟩ := HV5.out.st.c12
  have hpg : p < g := by omega
  have q1 : (n5 : Int) - 1 = (nv : Int) := by omega
  have q2 : IntKind.i64.wrap (nv : Int) = (nv : Int) := IntWalk.i64_in _ (by omega)
  have q3 : (0 : Int) ≤ (nv : Int) := by omega
  have q4 : (nv : Int) < (n5 : Int) := by omega
  have q5 : (nv : Int).toNat = nv := by omega
  clear hn5 hk5
  go_wp2_with fail
  try rw [HW5.out]
  refine wp_region_held_drew (S := fun W => W.cell? ⟨p, 1, none⟩ = some (.slice (some ⟨g, 0, none⟩) n5 cap)) (by kernel_rfl) (c15) (fun hHeld => ?_)
  refine tky 0 (some 40) (v := ?_) rfl (by kernel_rfl) (by kernel_rfl) (by kernel_rfl) (fun _ _ _ h => h) ?_ hHeld ?_
  rotate_left
  focus (intro w hSw; (try dsimp only at hSw); go_simp; (try with_reducible rfl); done)
  simp only [Act.put, List.setIfInBounds_toArray, List.set_cons_zero, List.set_cons_succ]
  refine tky 1 (some 41) (v := ?_) rfl (by kernel_rfl) (by kernel_rfl) (by kernel_rfl) (fun _ _ _ h => h) ?_ hHeld ?_
  rotate_left
  focus (intro w hSw; (try dsimp only at hSw); go_simp; (try with_reducible rfl); done)
  simp only [Act.put, List.setIfInBounds_toArray, List.set_cons_zero, List.set_cons_succ]
  refine tky 2 (some 42) (v := ?_) rfl (by kernel_rfl) (by kernel_rfl) (by kernel_rfl) (fun _ _ _ h => h) ?_ hHeld ?_
  rotate_left
  focus (intro w hSw; (try dsimp only at hSw); go_simp; (try with_reducible rfl); done)
  simp only [Act.put, List.setIfInBounds_toArray, List.set_cons_zero, List.set_cons_succ]
  refine tky 3 (some 43) (v := ?_) rfl (by kernel_rfl) (by kernel_rfl) (by kernel_rfl) (fun _ _ _ h => h) ?_ hHeld ?_
  rotate_left
  focus (intro w hSw; (try dsimp only at hSw); go_simp; (try with_reducible rfl); done)
  simp only [Act.put, List.setIfInBounds_toArray, List.set_cons_zero, List.set_cons_succ]
  refine tky 4 (some 44) (v := ?_) rfl (by kernel_rfl) (by kernel_rfl) (by kernel_rfl) (fun _ _ _ h => h) ?_ hHeld ?_
  rotate_left
  focus (intro w hSw; (try dsimp only at hSw); go_simp; (try with_reducible rfl); done)
  simp only [Act.put, List.setIfInBounds_toArray, List.set_cons_zero, List.set_cons_succ]
  refine tky 5 (some 45) (v := ?_) rfl (by kernel_rfl) (by kernel_rfl) (by kernel_rfl) (fun _ _ _ h => h) ?_ hHeld ?_
  rotate_left
  focus (intro w hSw; (try dsimp only at hSw); go_simp; (try with_reducible rfl); done)
  simp only [Act.put, List.setIfInBounds_toArray, List.set_cons_zero, List.set_cons_succ]
  refine tky 6 (some 46) (v := ?_) rfl (by kernel_rfl) (by kernel_rfl) (by kernel_rfl) (fun _ _ _ h => h) ?_ hHeld ?_
  rotate_left
  focus (intro w hSw; (try dsimp only at hSw); go_simp; (try with_reducible rfl); done)
  simp only [Act.put, List.setIfInBounds_toArray, List.set_cons_zero, List.set_cons_succ]
  refine tky 7 (some 47) (v := ?_) rfl (by kernel_rfl) (by kernel_rfl) (by kernel_rfl) (fun _ _ _ h => h) ?_ hHeld ?_
  rotate_left
  focus (intro w hSw; (try dsimp only at hSw); go_simp; (try with_reducible rfl); done)
  simp only [Act.put, List.setIfInBounds_toArray, List.set_cons_zero, List.set_cons_succ]
  refine tky 8 (some 48) (v := ?_) rfl (by kernel_rfl) (by kernel_rfl) (by kernel_rfl) (fun _ _ _ h => h) ?_ hHeld ?_
  rotate_left
  focus (intro w hSw; (try dsimp only at hSw); go_simp; (try with_reducible rfl); done)
  simp only [Act.put, List.setIfInBounds_toArray, List.set_cons_zero, List.set_cons_succ]
  refine tky 9 (some 49) (v := ?_) rfl (by kernel_rfl) (by kernel_rfl) (by kernel_rfl) (fun _ _ _ h => h) ?_ hHeld ?_
  rotate_left
  focus (intro w hSw; (try dsimp only at hSw); go_simp; (try with_reducible rfl); done)
  simp only [Act.put, List.setIfInBounds_toArray, List.set_cons_zero, List.set_cons_succ]
  refine tky 10 (some 50) (v := ?_) rfl (by kernel_rfl) (by kernel_rfl) (by kernel_rfl) (fun _ _ _ h => h) ?_ hHeld ?_
  rotate_left
  focus (intro w hSw; (try dsimp only at hSw); go_simp; (try with_reducible rfl); done)
  simp only [Act.put, List.setIfInBounds_toArray, List.set_cons_zero, List.set_cons_succ]
  refine tky 11 (some 4) (v := ?_) rfl (by kernel_rfl) (by kernel_rfl) (by kernel_rfl) (fun _ _ _ h => h) ?_ hHeld ?_
  rotate_left
  focus (intro w hSw; (try dsimp only at hSw); go_simp; (try with_reducible rfl); done)
  simp only [Act.put, List.setIfInBounds_toArray, List.set_cons_zero, List.set_cons_succ]
  refine wpAnyH_done (by kernel_rfl) ?_ _
  obtain ⟨w6, hw6⟩ : ∃ w6, w5.drew = w6 := ⟨_, rfl⟩
  have HV6 : Hid (VP p W (.slice av nv cv) (.slice (some ⟨g, 0, none⟩) n5 cap) (L ++ [⟨0, name.data.toList, [], 0, 0⟩]) (c :: rest) op w6) := Lib.hid (by rw [← hw6]; exact HV5.out.below ⟨rfl, rfl, rfl, Nat.le_refl _, fun _ _ => rfl⟩)
  rw [hw6]
  obtain ⟨b6, hb6l, hr6⟩ := HV6.out.st
  have HR6 := Lib.hid hr6
  have HB6 := Lib.hid hb6l
  obtain ⟨d0, d1, d2⟩ := hr6.cells
  have e0 := hr6.frozen 0
  obtain ⟨y1, y2, y3, y4, -⟩ := tl_cons hb6l
  have h06 : b6[0]'y4 = c := at_zero hb6l y4
  obtain ⟨hfz, ck0, ck2, ck3⟩ := HV6.out.own.at_ rfl nv hkl
  have hfz0 := hfz (nv * 5)
  have hfz2 := hfz (nv * 5 + 2)
  have hfz3 := hfz (nv * 5 + 3)
  obtain ⟨z0, hz0⟩ : ∃ z : Int, (((L ++ [(⟨0, name.data.toList, [], 0, 0⟩ : Cel)])[nv]'hkl).kind.toNat : Int) = z := ⟨_, rfl⟩
  rw [hz0] at ck0
  clear hw6 hr6 hfz hz0 c14 c24 f14 f24 c15 c25 f15 f25 q1 q2 q3 q4 q5 HW5
  have u123 : (((b6[0]'y4).toNat : Int) == 123) = false := by rw [h06, beq_eq_false_iff_ne]; omega
  have u91 : (((b6[0]'y4).toNat : Int) == 91) = false := by rw [h06, beq_eq_false_iff_ne]; omega
  have u34 : (((b6[0]'y4).toNat : Int) == 34) = false := by rw [h06, beq_eq_false_iff_ne]; omega
  have u116 : (((b6[0]'y4).toNat : Int) == 116) = false := by rw [h06, beq_eq_false_iff_ne]; omega
  have u102 : (((b6[0]'y4).toNat : Int) == 102) = false := by rw [h06, beq_eq_false_iff_ne]; omega
  have u110 : (((b6[0]'y4).toNat : Int) == 110) = false := by rw [h06, beq_eq_false_iff_ne]; omega
  clear h06 hb6l hHeld hcr2
  go_wp2_with fail
  have HV7 : Hid (VP p W (.slice av nv cv) (.slice (some ⟨g, 0, none⟩) n5 cap) ((((L ++ [(⟨0, name.data.toList, [], 0, 0⟩ : Cel)])).modify nv fun c => { c with kind := 2 })) (c :: rest) op (w6.setCell ⟨g, nv * 5, none⟩ (.int .u8 2))) := Lib.hid (HV6.out.set rfl hpg (by rw [List.length_modify]) (by exact celFlat_set0 _ _ 2))
  refine (HM.out _ _ _ (by rw [List.length_modify]; simp; omega) (by rw [List.length_modify]; simp) HV7.out.st HV7.out.own (HEE.out.to HV7.out.vk.1).e).mono ?_; rintro x w8 ⟨rfl, hb⟩
  have HB8 := Lib.hid (HV7.out.vk.1.trans hb)
  clear hb
  go_wp2_with fail
  refine ⟨rfl, ?_⟩
  rw [HZ.out]
  exact ⟨rfl, HB8.out⟩
set_option maxRecDepth 100000 in
set_option maxHeartbeats 4000000 in
theorem p_value_obj (d p : Nat) (name : ByteArray) (op : Int) (v : Value) (L : List Cel) (l : List UInt8) (W : World) (hl : l.length ≤ 16384) (hv : validD l = true) (h : PS p l v op W) (hown : OwnC (p + 1) v L W) (hL : L.length ≤ 2048) (hE : EnvB p W) (c : UInt8) (rest : List UInt8) (hb : blJ l = c :: rest) (hbg : begJ c = true) (hf : L.length ≠ 2048) (hc : c = UInt8.ofNat 123) (hop : op + (d : Int) = 16) (h0 : 0 ≤ op) (hit : PItO d) :
    Calls Tryz.prog 85 #[.pointer (some ⟨p, 0, none⟩), .string name] W (VPE p W v op (valJ d name.data.toList l L)) := by
  have HV0 : Hid (VP p W v v L l op W) := Lib.hid ⟨h, hown, VK.refl _ _ _, fun k hk => Or.inl hk⟩
  have HBL := Lib.hid (fun (W : World) (hW : PS p l v op W) => p_blanks p l v op W hW)
  have HNO : Hid (∀ (e : Int) W, Calls Tryz.prog 87 #[.int .i64 e] W fun x w' => x = .panicked (stopL e) ∧ W = w') := Lib.hid fun e W => p_no e W
  have HEE := Lib.hid hE
  have hvl : ∃ a n c, v = .slice a n c ∧ n = L.length := by
    rcases HV0.out.own.2 with ⟨h1, h2⟩ | ⟨g, cap, cur, h1, _⟩
    · exact ⟨none, 0, 0, h1, h2.symm⟩
    · exact ⟨_, _, _, h1, rfl⟩
  obtain ⟨av, nv, cv, rfl, hnv⟩ := hvl
  have HNV := Lib.hid hnv
  have hnv8 : nv ≤ 2048 := by omega
  have hL2 : nv ≤ 2047 := by omega
  have hL3 : L.length ≤ 2047 := by omega
  have tf : ((nv : Int) == 2048) = false := by rw [beq_eq_false_iff_ne]; omega
  have hcr : (c :: rest).length ≤ 16384 := by rw [← hb]; exact Nat.le_trans (cut_bl l).1 hl
  have hcv : validD (c :: rest) = true := by rw [← hb]; exact (cut_bl l).2 hv
  have hcc : (c.toNat : Int) = 123 := by rw [hc]; rfl
  have HZ : Hid (valJ d name.data.toList l L = manyJ d true L.length rest (L ++ [⟨7, name.data.toList, [], 0, 0⟩])) := Lib.hid (by
    rw [valJ_nest d _ l L c rest hb hf (by rw [hc]; decide), hc]
    rfl)
  have hrl : rest.length ≤ 16384 := by simp only [List.length_cons] at hcr; omega
  have hrv : validD rest = true := by rw [valid_cons c rest (by rw [hc]; decide)] at hcv; exact hcv
  have HIT := Lib.hid hit
  have hmf : ∀ (fn : Fn) (first cap : Array Value) (w : World), (Instr.makeFunc fn first cap).run Tryz.prog w = .ok (.func fn first cap) w := fun _ _ _ _ => rfl
  have HOP := Lib.hid hop
  rw [hb] at HBL
  clear h hv hown hE hb hnv hf hc hit hop
  go_enter Tryz.func85, Tryz.ntmps85
  go_wp2_with fail
  refine (HBL.out _ HV0.out.st).mono ?_; rintro x w1 ⟨rfl, hst, hk⟩
  have HV1 := Lib.hid (HV0.out.rk hst hk)
  obtain ⟨b, hbl, hr⟩ := hst
  obtain ⟨c0, c1, c2⟩ := hr.cells
  obtain ⟨hb1, hb2, hb3, hb4, -⟩ := tl_cons hbl
  have h00 : b[0]'hb4 = c := at_zero hbl hb4
  obtain ⟨k, hkk⟩ : ∃ k, Lib.indexByte [123, 91, 34, 116, 102, 110, 45, 48, 49, 50, 51, 52, 53, 54, 55, 56, 57] c = k := ⟨_, rfl⟩
  have tk := beg_ix c
  rw [hkk, hbg] at tk
  simp only [Bool.not_true, Bool.not_false] at tk
  have HX1 : Hid (∀ W, Calls Tryz.prog 21 #[.string ⟨#[123, 91, 34, 116, 102, 110, 45, 48, 49, 50, 51, 52, 53, 54, 55, 56, 57]⟩, .int .u8 ((b[0]'hb4).toNat : Int)] W fun x w' => x = .returned (.int .i64 k) ∧ W = w') := Lib.hid fun W => by
    have := ix_any ⟨#[123, 91, 34, 116, 102, 110, 45, 48, 49, 50, 51, 52, 53, 54, 55, 56, 57]⟩ c W
    rw [show (⟨#[123, 91, 34, 116, 102, 110, 45, 48, 49, 50, 51, 52, 53, 54, 55, 56, 57]⟩ : ByteArray).data.toList = [123, 91, 34, 116, 102, 110, 45, 48, 49, 50, 51, 52, 53, 54, 55, 56, 57] from rfl, hkk] at this
    rw [h00]; exact this
  clear hk hr hbl h00 hkk
  go_wp2_with fail
  refine (HX1.out _).mono ?_; rintro x w2 ⟨rfl, rfl⟩
  have HVA : Hid (VP p W (.slice av nv cv) (.slice av nv cv) L (c :: rest) op (World.alloc w1 (.cells #[.int .u8 0, .string name, .string ⟨#[]⟩, .int .i64 0, .int .i64 0] 124))) := Lib.hid (HV1.out.alloc _)
  have hszp := HVA.out.st.lt
  go_wp2_with (at_builtin; refine wpList_pushC rfl _ _ rfl (p + 1) (.slice av nv cv) L rfl HVA.out.own _ 1 name.data.toList rfl (heap_alloc_new _ _) ?c1 ?c2 ?_)
  case c1 => omega
  case c2 => exact hszp
  intro v5 w4 hown' hgrow hat
  obtain ⟨hst4, hv5⟩ := HVA.out.grown hown' hgrow hat (by simp)
  obtain ⟨w5, hw5⟩ : ∃ w5, (w4.setCell ⟨p, 1, none⟩ v5) = w5 := ⟨_, rfl⟩
  have HW5 := Lib.hid hw5
  rw [hw5] at hv5
  have HV5 := Lib.hid hv5
  obtain ⟨c14, c24, f14, f24⟩ := hst4.c12
  clear hown' hgrow hat hst4 hv5 HVA hszp hw5 c0 c1 c2
  have hkl : nv < (L ++ [(⟨0, name.data.toList, [], 0, 0⟩ : Cel)]).length := by rw [HNV.out]; simp
  obtain ⟨n5, hn5⟩ : ∃ n5, (L ++ [(⟨0, name.data.toList, [], 0, 0⟩ : Cel)]).length = n5 := ⟨_, rfl⟩
  have hk5 : n5 = nv + 1 := by rw [← hn5, HNV.out]; simp
  obtain ⟨g, cap, hvg, hBg, hgl, -⟩ := HV5.out.own.form nv hkl
  rw [hn5] at hvg
  subst hvg
  obtain ⟨c15, c25, f15, f25⟩ := HV5.out.st.c12
  have hpg : p < g := by omega
  have q1 : (n5 : Int) - 1 = (nv : Int) := by omega
  have q2 : IntKind.i64.wrap (nv : Int) = (nv : Int) := IntWalk.i64_in _ (by omega)
  have q3 : (0 : Int) ≤ (nv : Int) := by omega
  have q4 : (nv : Int) < (n5 : Int) := by omega
  have q5 : (nv : Int).toNat = nv := by omega
  clear hn5 hk5
  go_wp2_with fail
  try rw [HW5.out]
  refine wp_region_held_drew (S := fun W => W.cell? ⟨p, 1, none⟩ = some (.slice (some ⟨g, 0, none⟩) n5 cap)) (by kernel_rfl) (c15) (fun hHeld => ?_)
  refine tky 0 (some 40) (v := ?_) rfl (by kernel_rfl) (by kernel_rfl) (by kernel_rfl) (fun _ _ _ h => h) ?_ hHeld ?_
  rotate_left
  focus (intro w hSw; (try dsimp only at hSw); go_simp; (try with_reducible rfl); done)
  simp only [Act.put, List.setIfInBounds_toArray, List.set_cons_zero, List.set_cons_succ]
  refine tky 1 (some 41) (v := ?_) rfl (by kernel_rfl) (by kernel_rfl) (by kernel_rfl) (fun _ _ _ h => h) ?_ hHeld ?_
  rotate_left
  focus (intro w hSw; (try dsimp only at hSw); go_simp; (try with_reducible rfl); done)
  simp only [Act.put, List.setIfInBounds_toArray, List.set_cons_zero, List.set_cons_succ]
  refine tky 2 (some 42) (v := ?_) rfl (by kernel_rfl) (by kernel_rfl) (by kernel_rfl) (fun _ _ _ h => h) ?_ hHeld ?_
  rotate_left
  focus (intro w hSw; (try dsimp only at hSw); go_simp; (try with_reducible rfl); done)
  simp only [Act.put, List.setIfInBounds_toArray, List.set_cons_zero, List.set_cons_succ]
  refine tky 3 (some 43) (v := ?_) rfl (by kernel_rfl) (by kernel_rfl) (by kernel_rfl) (fun _ _ _ h => h) ?_ hHeld ?_
  rotate_left
  focus (intro w hSw; (try dsimp only at hSw); go_simp; (try with_reducible rfl); done)
  simp only [Act.put, List.setIfInBounds_toArray, List.set_cons_zero, List.set_cons_succ]
  refine tky 4 (some 44) (v := ?_) rfl (by kernel_rfl) (by kernel_rfl) (by kernel_rfl) (fun _ _ _ h => h) ?_ hHeld ?_
  rotate_left
  focus (intro w hSw; (try dsimp only at hSw); go_simp; (try with_reducible rfl); done)
  simp only [Act.put, List.setIfInBounds_toArray, List.set_cons_zero, List.set_cons_succ]
  refine tky 5 (some 45) (v := ?_) rfl (by kernel_rfl) (by kernel_rfl) (by kernel_rfl) (fun _ _ _ h => h) ?_ hHeld ?_
  rotate_left
  focus (intro w hSw; (try dsimp only at hSw); go_simp; (try with_reducible rfl); done)
  simp only [Act.put, List.setIfInBounds_toArray, List.set_cons_zero, List.set_cons_succ]
  refine tky 6 (some 46) (v := ?_) rfl (by kernel_rfl) (by kernel_rfl) (by kernel_rfl) (fun _ _ _ h => h) ?_ hHeld ?_
  rotate_left
  focus (intro w hSw; (try dsimp only at hSw); go_simp; (try with_reducible rfl); done)
  simp only [Act.put, List.setIfInBounds_toArray, List.set_cons_zero, List.set_cons_succ]
  refine tky 7 (some 47) (v := ?_) rfl (by kernel_rfl) (by kernel_rfl) (by kernel_rfl) (fun _ _ _ h => h) ?_ hHeld ?_
  rotate_left
  focus (intro w hSw; (try dsimp only at hSw); go_simp; (try with_reducible rfl); done)
  simp only [Act.put, List.setIfInBounds_toArray, List.set_cons_zero, List.set_cons_succ]
  refine tky 8 (some 48) (v := ?_) rfl (by kernel_rfl) (by kernel_rfl) (by kernel_rfl) (fun _ _ _ h => h) ?_ hHeld ?_
  rotate_left
  focus (intro w hSw; (try dsimp only at hSw); go_simp; (try with_reducible rfl); done)
  simp only [Act.put, List.setIfInBounds_toArray, List.set_cons_zero, List.set_cons_succ]
  refine tky 9 (some 49) (v := ?_) rfl (by kernel_rfl) (by kernel_rfl) (by kernel_rfl) (fun _ _ _ h => h) ?_ hHeld ?_
  rotate_left
  focus (intro w hSw; (try dsimp only at hSw); go_simp; (try with_reducible rfl); done)
  simp only [Act.put, List.setIfInBounds_toArray, List.set_cons_zero, List.set_cons_succ]
  refine tky 10 (some 50) (v := ?_) rfl (by kernel_rfl) (by kernel_rfl) (by kernel_rfl) (fun _ _ _ h => h) ?_ hHeld ?_
  rotate_left
  focus (intro w hSw; (try dsimp only at hSw); go_simp; (try with_reducible rfl); done)
  simp only [Act.put, List.setIfInBounds_toArray, List.set_cons_zero, List.set_cons_succ]
  refine tky 11 (some 4) (v := ?_) rfl (by kernel_rfl) (by kernel_rfl) (by kernel_rfl) (fun _ _ _ h => h) ?_ hHeld ?_
  rotate_left
  focus (intro w hSw; (try dsimp only at hSw); go_simp; (try with_reducible rfl); done)
  simp only [Act.put, List.setIfInBounds_toArray, List.set_cons_zero, List.set_cons_succ]
  refine wpAnyH_done (by kernel_rfl) ?_ _
  obtain ⟨w6, hw6⟩ : ∃ w6, w5.drew = w6 := ⟨_, rfl⟩
  have HV6 : Hid (VP p W (.slice av nv cv) (.slice (some ⟨g, 0, none⟩) n5 cap) (L ++ [⟨0, name.data.toList, [], 0, 0⟩]) (c :: rest) op w6) := Lib.hid (by rw [← hw6]; exact HV5.out.below ⟨rfl, rfl, rfl, Nat.le_refl _, fun _ _ => rfl⟩)
  rw [hw6]
  obtain ⟨b6, hb6l, hr6⟩ := HV6.out.st
  have HR6 := Lib.hid hr6
  have HB6 := Lib.hid hb6l
  obtain ⟨d0, d1, d2⟩ := hr6.cells
  have e0 := hr6.frozen 0
  obtain ⟨y1, y2, y3, y4, -⟩ := tl_cons hb6l
  have h06 : b6[0]'y4 = c := at_zero hb6l y4
  obtain ⟨hfz, ck0, ck2, ck3⟩ := HV6.out.own.at_ rfl nv hkl
  have hfz0 := hfz (nv * 5)
  have hfz2 := hfz (nv * 5 + 2)
  have hfz3 := hfz (nv * 5 + 3)
  obtain ⟨z0, hz0⟩ : ∃ z : Int, (((L ++ [(⟨0, name.data.toList, [], 0, 0⟩ : Cel)])[nv]'hkl).kind.toNat : Int) = z := ⟨_, rfl⟩
  rw [hz0] at ck0
  clear hw6 hr6 hfz hz0 c14 c24 f14 f24 c15 c25 f15 f25 q1 q2 q3 q4 q5 HW5
  have t06 : ((b6[0]'y4).toNat : Int) = (c.toNat : Int) := by rw [h06]
  rw [hcc] at t06
  clear h06 hb6l hHeld
  obtain ⟨b7, hb7e⟩ : ∃ b7, b6.extract 1 b6.size = b7 := ⟨_, rfl⟩
  have hb7l := ext_one HB6.out b6.size rfl
  rw [hb7e] at hb7l
  have HB7 := Lib.hid hb7l
  have hs7 : (1 : Int) ≤ (b6.size : Int) := by omega
  have hs7n : 1 ≤ b6.size := y4
  have HV6d : Hid (VP p W (.slice av nv cv) (.slice (some ⟨g, 0, none⟩) n5 cap) (L ++ [⟨0, name.data.toList, [], 0, 0⟩]) (c :: rest) op w6.drew) := Lib.hid (HV6.out.below ⟨rfl, rfl, rfl, Nat.le_refl _, fun _ _ => rfl⟩)
  have HV7 : Hid (VP p W (.slice av nv cv) (.slice (some ⟨g, 0, none⟩) n5 cap) ((((L ++ [(⟨0, name.data.toList, [], 0, 0⟩ : Cel)])).modify nv fun c => { c with kind := 7 })) (c :: rest) op (w6.drew.setCell ⟨g, nv * 5, none⟩ (.int .u8 7))) := Lib.hid (HV6d.out.set rfl hpg (by rw [List.length_modify]) (by exact celFlat_set0 _ _ 7))
  have hne : p ≠ g := by omega
  have HR7 : Hid (RdP p b6 (.slice (some ⟨g, 0, none⟩) n5 cap) op (w6.drew.setCell ⟨g, nv * 5, none⟩ (.int .u8 7))) := Lib.hid ((Below.heap_setCell _ _ _ _ (by show p ≠ g; exact hne)).trans HR6.out)
  have j0 : w6.drew.cell? ⟨p, 0, none⟩ = some (.string b6) := d0
  have j1 : w6.drew.cell? ⟨g, nv * 5, none⟩ = some (.int .u8 z0) := ck0
  have j2 : w6.drew.frozen? ⟨g, nv * 5, none⟩ = false := hfz0
  have j3 := HR7.out.cells.1
  have j4 := HR7.out.frozen 0
  clear hb7l
  go_wp2_with fail
  refine wp_region_held_drew (S := fun _ => True) (by kernel_rfl) trivial (fun hHeld => ?_)
  refine tky 0 (some 63) (v := ?_) rfl (by kernel_rfl) (by kernel_rfl) (by kernel_rfl) (fun _ _ _ h => h) ?_ hHeld ?_
  rotate_left
  focus (intro w hSw; go_simp; (try with_reducible rfl); done)
  simp only [Act.put, List.setIfInBounds_toArray, List.set_cons_zero, List.set_cons_succ]
  refine tky 1 (some 64) (v := ?_) rfl (by kernel_rfl) (by kernel_rfl) (by kernel_rfl) (fun _ _ _ h => h) ?_ hHeld ?_
  rotate_left
  focus (intro w hSw; go_simp; (try with_reducible rfl); done)
  simp only [Act.put, List.setIfInBounds_toArray, List.set_cons_zero, List.set_cons_succ]
  refine tky 2 (some 65) (v := ?_) rfl (by kernel_rfl) (by kernel_rfl) (by kernel_rfl) (fun _ _ _ h => h) ?_ hHeld ?_
  rotate_left
  focus (intro w hSw; go_simp; (try with_reducible rfl); done)
  simp only [Act.put, List.setIfInBounds_toArray, List.set_cons_zero, List.set_cons_succ]
  refine tky 3 (some 66) (v := ?_) rfl (by kernel_rfl) (by kernel_rfl) (by kernel_rfl) (fun _ _ _ h => h) ?_ hHeld ?_
  rotate_left
  focus (intro w hSw; go_simp; (try with_reducible rfl); done)
  simp only [Act.put, List.setIfInBounds_toArray, List.set_cons_zero, List.set_cons_succ]
  refine tky 4 (some 67) (v := ?_) rfl (by kernel_rfl) (by kernel_rfl) (by kernel_rfl) (fun _ _ _ h => h) ?_ hHeld ?_
  rotate_left
  focus (intro w hSw; go_simp; (try with_reducible rfl); done)
  simp only [Act.put, List.setIfInBounds_toArray, List.set_cons_zero, List.set_cons_succ]
  refine rcons 5 rfl (by kernel_rfl) (fun K hK => ?_)
  go_simp
  refine hK.out _ _ trivial (fun _ => ?_)
  clear hK K
  (try simp only [Act.put, List.setIfInBounds_toArray, List.set_cons_zero, List.set_cons_succ])
  refine tky 6 (some 69) (v := ?_) rfl (by kernel_rfl) (by kernel_rfl) (by kernel_rfl) (fun _ _ _ h => h) ?_ hHeld ?_
  rotate_left
  focus (intro w hSw; go_simp; (try with_reducible rfl); done)
  simp only [Act.put, List.setIfInBounds_toArray, List.set_cons_zero, List.set_cons_succ]
  refine tky 7 (some 70) (v := ?_) rfl (by kernel_rfl) (by kernel_rfl) (by kernel_rfl) (fun _ _ _ h => h) ?_ hHeld ?_
  rotate_left
  focus (intro w hSw; go_simp; (try with_reducible rfl); done)
  simp only [Act.put, List.setIfInBounds_toArray, List.set_cons_zero, List.set_cons_succ]
  refine tky 8 (some 71) (v := ?_) rfl (by kernel_rfl) (by kernel_rfl) (by kernel_rfl) (fun _ _ _ h => h) ?_ hHeld ?_
  rotate_left
  focus (intro w hSw; go_simp; (try with_reducible rfl); done)
  simp only [Act.put, List.setIfInBounds_toArray, List.set_cons_zero, List.set_cons_succ]
  refine rcons 9 rfl (by kernel_rfl) (fun K hK => ?_)
  go_simp
  refine hK.out _ _ trivial (fun _ => ?_)
  clear hK K
  (try simp only [Act.put, List.setIfInBounds_toArray, List.set_cons_zero, List.set_cons_succ])
  refine tky 10 (some 72) (v := ?_) rfl (by kernel_rfl) (by kernel_rfl) (by kernel_rfl) (fun _ _ _ h => h) ?_ hHeld ?_
  rotate_left
  focus (intro w hSw; go_simp; (try with_reducible rfl); done)
  simp only [Act.put, List.setIfInBounds_toArray, List.set_cons_zero, List.set_cons_succ]
  refine tky 11 (some 73) (v := ?_) rfl (by kernel_rfl) (by kernel_rfl) (by kernel_rfl) (fun _ _ _ h => h) ?_ hHeld ?_
  rotate_left
  focus (intro w hSw; go_simp; (try with_reducible rfl); done)
  simp only [Act.put, List.setIfInBounds_toArray, List.set_cons_zero, List.set_cons_succ]
  refine rcons 12 rfl (by kernel_rfl) (fun K hK => ?_)
  go_simp
  refine hK.out _ _ trivial (fun _ => ?_)
  clear hK K
  (try simp only [Act.put, List.setIfInBounds_toArray, List.set_cons_zero, List.set_cons_succ])
  refine wpAnyH_done (by kernel_rfl) ?_ _
  have HV8 : Hid (VP p W (.slice av nv cv) (.slice (some ⟨g, 0, none⟩) n5 cap) ((((L ++ [(⟨0, name.data.toList, [], 0, 0⟩ : Cel)])).modify nv fun c => { c with kind := 7 })) rest op ((w6.drew.setCell ⟨g, nv * 5, none⟩ (.int .u8 7)).setCell ⟨p, 0, none⟩ (.string b7))) := Lib.hid (HV7.out.rk ⟨b7, HB7.out, HR7.out.str b7⟩ (RK.set p 0 _ _))
  have HOUT : Hid ((((L ++ [(⟨0, name.data.toList, [], 0, 0⟩ : Cel)])).modify nv fun c => { c with kind := 7 }) = L ++ [⟨7, name.data.toList, [], 0, 0⟩]) := Lib.hid (by
    have hnl := HNV.out
    rw [modify_end' _ _ _ _ hnl])
  rw [HOUT.out] at HV8
  have hlen : (L ++ [(⟨7, name.data.toList, [], 0, 0⟩ : Cel)]).length = L.length + 1 := by simp
  go_wp2_with fail
  refine (HIT.out p op _ (L ++ [⟨7, name.data.toList, [], 0, 0⟩]) rest _ HOP.out h0 hrl hrv HV8.out.st HV8.out.own (by rw [hlen]; omega) (by rw [hlen]; omega) (HEE.out.to HV8.out.vk.1)).mono ?_; rintro x w9 hx
  rw [hlen, show L.length + 1 - 1 = L.length from rfl] at hx
  generalize manyJ d true L.length rest (L ++ [⟨7, name.data.toList, [], 0, 0⟩]) = Z at *
  cases Z with
  | error e =>
    obtain ⟨rfl, hb⟩ := hx
    have HB9 := Lib.hid (HV8.out.vk.1.trans hb)
    clear hb
    go_wp2_with fail
    refine ⟨rfl, ?_⟩
    rw [HZ.out]
    exact ⟨rfl, HB9.out⟩
  | ok y =>
    obtain ⟨t, o2⟩ := y
    obtain ⟨rfl, ho2, v9, hv9⟩ := hx
    have HV9 := Lib.hid (HV8.out.join hv9)
    clear hv9
    go_wp2_with fail
    go_end0
    rw [HZ.out]
    exact ⟨rfl, ho2, _, HV9.out⟩
set_option maxRecDepth 100000 in
set_option maxHeartbeats 4000000 in
theorem p_value_list (d p : Nat) (name : ByteArray) (op : Int) (v : Value) (L : List Cel) (l : List UInt8) (W : World) (hl : l.length ≤ 16384) (hv : validD l = true) (h : PS p l v op W) (hown : OwnC (p + 1) v L W) (hL : L.length ≤ 2048) (hE : EnvB p W) (c : UInt8) (rest : List UInt8) (hb : blJ l = c :: rest) (hbg : begJ c = true) (hf : L.length ≠ 2048) (hc : c = UInt8.ofNat 91) (hop : op + (d : Int) = 16) (h0 : 0 ≤ op) (hit : PItL d) :
    Calls Tryz.prog 85 #[.pointer (some ⟨p, 0, none⟩), .string name] W (VPE p W v op (valJ d name.data.toList l L)) := by
  have HV0 : Hid (VP p W v v L l op W) := Lib.hid ⟨h, hown, VK.refl _ _ _, fun k hk => Or.inl hk⟩
  have HBL := Lib.hid (fun (W : World) (hW : PS p l v op W) => p_blanks p l v op W hW)
  have HNO : Hid (∀ (e : Int) W, Calls Tryz.prog 87 #[.int .i64 e] W fun x w' => x = .panicked (stopL e) ∧ W = w') := Lib.hid fun e W => p_no e W
  have HEE := Lib.hid hE
  have hvl : ∃ a n c, v = .slice a n c ∧ n = L.length := by
    rcases HV0.out.own.2 with ⟨h1, h2⟩ | ⟨g, cap, cur, h1, _⟩
    · exact ⟨none, 0, 0, h1, h2.symm⟩
    · exact ⟨_, _, _, h1, rfl⟩
  obtain ⟨av, nv, cv, rfl, hnv⟩ := hvl
  have HNV := Lib.hid hnv
  have hnv8 : nv ≤ 2048 := by omega
  have hL2 : nv ≤ 2047 := by omega
  have hL3 : L.length ≤ 2047 := by omega
  have tf : ((nv : Int) == 2048) = false := by rw [beq_eq_false_iff_ne]; omega
  have hcr : (c :: rest).length ≤ 16384 := by rw [← hb]; exact Nat.le_trans (cut_bl l).1 hl
  have hcv : validD (c :: rest) = true := by rw [← hb]; exact (cut_bl l).2 hv
  have hcc : (c.toNat : Int) = 91 := by rw [hc]; rfl
  have HZ : Hid (valJ d name.data.toList l L = manyJ d false L.length rest (L ++ [⟨6, name.data.toList, [], 0, 0⟩])) := Lib.hid (by
    rw [valJ_nest d _ l L c rest hb hf (by rw [hc]; decide), hc]
    rfl)
  have hrl : rest.length ≤ 16384 := by simp only [List.length_cons] at hcr; omega
  have hrv : validD rest = true := by rw [valid_cons c rest (by rw [hc]; decide)] at hcv; exact hcv
  have HIT := Lib.hid hit
  have hmf : ∀ (fn : Fn) (first cap : Array Value) (w : World), (Instr.makeFunc fn first cap).run Tryz.prog w = .ok (.func fn first cap) w := fun _ _ _ _ => rfl
  have HOP := Lib.hid hop
  rw [hb] at HBL
  clear h hv hown hE hb hnv hf hc hit hop
  go_enter Tryz.func85, Tryz.ntmps85
  go_wp2_with fail
  refine (HBL.out _ HV0.out.st).mono ?_; rintro x w1 ⟨rfl, hst, hk⟩
  have HV1 := Lib.hid (HV0.out.rk hst hk)
  obtain ⟨b, hbl, hr⟩ := hst
  obtain ⟨c0, c1, c2⟩ := hr.cells
  obtain ⟨hb1, hb2, hb3, hb4, -⟩ := tl_cons hbl
  have h00 : b[0]'hb4 = c := at_zero hbl hb4
  obtain ⟨k, hkk⟩ : ∃ k, Lib.indexByte [123, 91, 34, 116, 102, 110, 45, 48, 49, 50, 51, 52, 53, 54, 55, 56, 57] c = k := ⟨_, rfl⟩
  have tk := beg_ix c
  rw [hkk, hbg] at tk
  simp only [Bool.not_true, Bool.not_false] at tk
  have HX1 : Hid (∀ W, Calls Tryz.prog 21 #[.string ⟨#[123, 91, 34, 116, 102, 110, 45, 48, 49, 50, 51, 52, 53, 54, 55, 56, 57]⟩, .int .u8 ((b[0]'hb4).toNat : Int)] W fun x w' => x = .returned (.int .i64 k) ∧ W = w') := Lib.hid fun W => by
    have := ix_any ⟨#[123, 91, 34, 116, 102, 110, 45, 48, 49, 50, 51, 52, 53, 54, 55, 56, 57]⟩ c W
    rw [show (⟨#[123, 91, 34, 116, 102, 110, 45, 48, 49, 50, 51, 52, 53, 54, 55, 56, 57]⟩ : ByteArray).data.toList = [123, 91, 34, 116, 102, 110, 45, 48, 49, 50, 51, 52, 53, 54, 55, 56, 57] from rfl, hkk] at this
    rw [h00]; exact this
  clear hk hr hbl h00 hkk
  go_wp2_with fail
  refine (HX1.out _).mono ?_; rintro x w2 ⟨rfl, rfl⟩
  have HVA : Hid (VP p W (.slice av nv cv) (.slice av nv cv) L (c :: rest) op (World.alloc w1 (.cells #[.int .u8 0, .string name, .string ⟨#[]⟩, .int .i64 0, .int .i64 0] 124))) := Lib.hid (HV1.out.alloc _)
  have hszp := HVA.out.st.lt
  go_wp2_with (at_builtin; refine wpList_pushC rfl _ _ rfl (p + 1) (.slice av nv cv) L rfl HVA.out.own _ 1 name.data.toList rfl (heap_alloc_new _ _) ?c1 ?c2 ?_)
  case c1 => omega
  case c2 => exact hszp
  intro v5 w4 hown' hgrow hat
  obtain ⟨hst4, hv5⟩ := HVA.out.grown hown' hgrow hat (by simp)
  obtain ⟨w5, hw5⟩ : ∃ w5, (w4.setCell ⟨p, 1, none⟩ v5) = w5 := ⟨_, rfl⟩
  have HW5 := Lib.hid hw5
  rw [hw5] at hv5
  have HV5 := Lib.hid hv5
  obtain ⟨c14, c24, f14, f24⟩ := hst4.c12
  clear hown' hgrow hat hst4 hv5 HVA hszp hw5 c0 c1 c2
  have hkl : nv < (L ++ [(⟨0, name.data.toList, [], 0, 0⟩ : Cel)]).length := by rw [HNV.out]; simp
  obtain ⟨n5, hn5⟩ : ∃ n5, (L ++ [(⟨0, name.data.toList, [], 0, 0⟩ : Cel)]).length = n5 := ⟨_, rfl⟩
  have hk5 : n5 = nv + 1 := by rw [← hn5, HNV.out]; simp
  obtain ⟨g, cap, hvg, hBg, hgl, -⟩ := HV5.out.own.form nv hkl
  rw [hn5] at hvg
  subst hvg
  obtain ⟨c15, c25, f15, f25⟩ := HV5.out.st.c12
  have hpg : p < g := by omega
  have q1 : (n5 : Int) - 1 = (nv : Int) := by omega
  have q2 : IntKind.i64.wrap (nv : Int) = (nv : Int) := IntWalk.i64_in _ (by omega)
  have q3 : (0 : Int) ≤ (nv : Int) := by omega
  have q4 : (nv : Int) < (n5 : Int) := by omega
  have q5 : (nv : Int).toNat = nv := by omega
  clear hn5 hk5
  go_wp2_with fail
  try rw [HW5.out]
  refine wp_region_held_drew (S := fun W => W.cell? ⟨p, 1, none⟩ = some (.slice (some ⟨g, 0, none⟩) n5 cap)) (by kernel_rfl) (c15) (fun hHeld => ?_)
  refine tky 0 (some 40) (v := ?_) rfl (by kernel_rfl) (by kernel_rfl) (by kernel_rfl) (fun _ _ _ h => h) ?_ hHeld ?_
  rotate_left
  focus (intro w hSw; (try dsimp only at hSw); go_simp; (try with_reducible rfl); done)
  simp only [Act.put, List.setIfInBounds_toArray, List.set_cons_zero, List.set_cons_succ]
  refine tky 1 (some 41) (v := ?_) rfl (by kernel_rfl) (by kernel_rfl) (by kernel_rfl) (fun _ _ _ h => h) ?_ hHeld ?_
  rotate_left
  focus (intro w hSw; (try dsimp only at hSw); go_simp; (try with_reducible rfl); done)
  simp only [Act.put, List.setIfInBounds_toArray, List.set_cons_zero, List.set_cons_succ]
  refine tky 2 (some 42) (v := ?_) rfl (by kernel_rfl) (by kernel_rfl) (by kernel_rfl) (fun _ _ _ h => h) ?_ hHeld ?_
  rotate_left
  focus (intro w hSw; (try dsimp only at hSw); go_simp; (try with_reducible rfl); done)
  simp only [Act.put, List.setIfInBounds_toArray, List.set_cons_zero, List.set_cons_succ]
  refine tky 3 (some 43) (v := ?_) rfl (by kernel_rfl) (by kernel_rfl) (by kernel_rfl) (fun _ _ _ h => h) ?_ hHeld ?_
  rotate_left
  focus (intro w hSw; (try dsimp only at hSw); go_simp; (try with_reducible rfl); done)
  simp only [Act.put, List.setIfInBounds_toArray, List.set_cons_zero, List.set_cons_succ]
  refine tky 4 (some 44) (v := ?_) rfl (by kernel_rfl) (by kernel_rfl) (by kernel_rfl) (fun _ _ _ h => h) ?_ hHeld ?_
  rotate_left
  focus (intro w hSw; (try dsimp only at hSw); go_simp; (try with_reducible rfl); done)
  simp only [Act.put, List.setIfInBounds_toArray, List.set_cons_zero, List.set_cons_succ]
  refine tky 5 (some 45) (v := ?_) rfl (by kernel_rfl) (by kernel_rfl) (by kernel_rfl) (fun _ _ _ h => h) ?_ hHeld ?_
  rotate_left
  focus (intro w hSw; (try dsimp only at hSw); go_simp; (try with_reducible rfl); done)
  simp only [Act.put, List.setIfInBounds_toArray, List.set_cons_zero, List.set_cons_succ]
  refine tky 6 (some 46) (v := ?_) rfl (by kernel_rfl) (by kernel_rfl) (by kernel_rfl) (fun _ _ _ h => h) ?_ hHeld ?_
  rotate_left
  focus (intro w hSw; (try dsimp only at hSw); go_simp; (try with_reducible rfl); done)
  simp only [Act.put, List.setIfInBounds_toArray, List.set_cons_zero, List.set_cons_succ]
  refine tky 7 (some 47) (v := ?_) rfl (by kernel_rfl) (by kernel_rfl) (by kernel_rfl) (fun _ _ _ h => h) ?_ hHeld ?_
  rotate_left
  focus (intro w hSw; (try dsimp only at hSw); go_simp; (try with_reducible rfl); done)
  simp only [Act.put, List.setIfInBounds_toArray, List.set_cons_zero, List.set_cons_succ]
  refine tky 8 (some 48) (v := ?_) rfl (by kernel_rfl) (by kernel_rfl) (by kernel_rfl) (fun _ _ _ h => h) ?_ hHeld ?_
  rotate_left
  focus (intro w hSw; (try dsimp only at hSw); go_simp; (try with_reducible rfl); done)
  simp only [Act.put, List.setIfInBounds_toArray, List.set_cons_zero, List.set_cons_succ]
  refine tky 9 (some 49) (v := ?_) rfl (by kernel_rfl) (by kernel_rfl) (by kernel_rfl) (fun _ _ _ h => h) ?_ hHeld ?_
  rotate_left
  focus (intro w hSw; (try dsimp only at hSw); go_simp; (try with_reducible rfl); done)
  simp only [Act.put, List.setIfInBounds_toArray, List.set_cons_zero, List.set_cons_succ]
  refine tky 10 (some 50) (v := ?_) rfl (by kernel_rfl) (by kernel_rfl) (by kernel_rfl) (fun _ _ _ h => h) ?_ hHeld ?_
  rotate_left
  focus (intro w hSw; (try dsimp only at hSw); go_simp; (try with_reducible rfl); done)
  simp only [Act.put, List.setIfInBounds_toArray, List.set_cons_zero, List.set_cons_succ]
  refine tky 11 (some 4) (v := ?_) rfl (by kernel_rfl) (by kernel_rfl) (by kernel_rfl) (fun _ _ _ h => h) ?_ hHeld ?_
  rotate_left
  focus (intro w hSw; (try dsimp only at hSw); go_simp; (try with_reducible rfl); done)
  simp only [Act.put, List.setIfInBounds_toArray, List.set_cons_zero, List.set_cons_succ]
  refine wpAnyH_done (by kernel_rfl) ?_ _
  obtain ⟨w6, hw6⟩ : ∃ w6, w5.drew = w6 := ⟨_, rfl⟩
  have HV6 : Hid (VP p W (.slice av nv cv) (.slice (some ⟨g, 0, none⟩) n5 cap) (L ++ [⟨0, name.data.toList, [], 0, 0⟩]) (c :: rest) op w6) := Lib.hid (by rw [← hw6]; exact HV5.out.below ⟨rfl, rfl, rfl, Nat.le_refl _, fun _ _ => rfl⟩)
  rw [hw6]
  obtain ⟨b6, hb6l, hr6⟩ := HV6.out.st
  have HR6 := Lib.hid hr6
  have HB6 := Lib.hid hb6l
  obtain ⟨d0, d1, d2⟩ := hr6.cells
  have e0 := hr6.frozen 0
  obtain ⟨y1, y2, y3, y4, -⟩ := tl_cons hb6l
  have h06 : b6[0]'y4 = c := at_zero hb6l y4
  obtain ⟨hfz, ck0, ck2, ck3⟩ := HV6.out.own.at_ rfl nv hkl
  have hfz0 := hfz (nv * 5)
  have hfz2 := hfz (nv * 5 + 2)
  have hfz3 := hfz (nv * 5 + 3)
  obtain ⟨z0, hz0⟩ : ∃ z : Int, (((L ++ [(⟨0, name.data.toList, [], 0, 0⟩ : Cel)])[nv]'hkl).kind.toNat : Int) = z := ⟨_, rfl⟩
  rw [hz0] at ck0
  clear hw6 hr6 hfz hz0 c14 c24 f14 f24 c15 c25 f15 f25 q1 q2 q3 q4 q5 HW5
  have t06 : ((b6[0]'y4).toNat : Int) = (c.toNat : Int) := by rw [h06]
  rw [hcc] at t06
  clear h06 hb6l hHeld
  obtain ⟨b7, hb7e⟩ : ∃ b7, b6.extract 1 b6.size = b7 := ⟨_, rfl⟩
  have hb7l := ext_one HB6.out b6.size rfl
  rw [hb7e] at hb7l
  have HB7 := Lib.hid hb7l
  have hs7 : (1 : Int) ≤ (b6.size : Int) := by omega
  have hs7n : 1 ≤ b6.size := y4
  have HV6d : Hid (VP p W (.slice av nv cv) (.slice (some ⟨g, 0, none⟩) n5 cap) (L ++ [⟨0, name.data.toList, [], 0, 0⟩]) (c :: rest) op w6.drew) := Lib.hid (HV6.out.below ⟨rfl, rfl, rfl, Nat.le_refl _, fun _ _ => rfl⟩)
  have HV7 : Hid (VP p W (.slice av nv cv) (.slice (some ⟨g, 0, none⟩) n5 cap) ((((L ++ [(⟨0, name.data.toList, [], 0, 0⟩ : Cel)])).modify nv fun c => { c with kind := 6 })) (c :: rest) op (w6.drew.setCell ⟨g, nv * 5, none⟩ (.int .u8 6))) := Lib.hid (HV6d.out.set rfl hpg (by rw [List.length_modify]) (by exact celFlat_set0 _ _ 6))
  have hne : p ≠ g := by omega
  have HR7 : Hid (RdP p b6 (.slice (some ⟨g, 0, none⟩) n5 cap) op (w6.drew.setCell ⟨g, nv * 5, none⟩ (.int .u8 6))) := Lib.hid ((Below.heap_setCell _ _ _ _ (by show p ≠ g; exact hne)).trans HR6.out)
  have j0 : w6.drew.cell? ⟨p, 0, none⟩ = some (.string b6) := d0
  have j1 : w6.drew.cell? ⟨g, nv * 5, none⟩ = some (.int .u8 z0) := ck0
  have j2 : w6.drew.frozen? ⟨g, nv * 5, none⟩ = false := hfz0
  have j3 := HR7.out.cells.1
  have j4 := HR7.out.frozen 0
  clear hb7l
  go_wp2_with fail
  refine wp_region_held_drew (S := fun _ => True) (by kernel_rfl) trivial (fun hHeld => ?_)
  refine tky 0 (some 80) (v := ?_) rfl (by kernel_rfl) (by kernel_rfl) (by kernel_rfl) (fun _ _ _ h => h) ?_ hHeld ?_
  rotate_left
  focus (intro w hSw; go_simp; (try with_reducible rfl); done)
  simp only [Act.put, List.setIfInBounds_toArray, List.set_cons_zero, List.set_cons_succ]
  refine tky 1 (some 81) (v := ?_) rfl (by kernel_rfl) (by kernel_rfl) (by kernel_rfl) (fun _ _ _ h => h) ?_ hHeld ?_
  rotate_left
  focus (intro w hSw; go_simp; (try with_reducible rfl); done)
  simp only [Act.put, List.setIfInBounds_toArray, List.set_cons_zero, List.set_cons_succ]
  refine tky 2 (some 82) (v := ?_) rfl (by kernel_rfl) (by kernel_rfl) (by kernel_rfl) (fun _ _ _ h => h) ?_ hHeld ?_
  rotate_left
  focus (intro w hSw; go_simp; (try with_reducible rfl); done)
  simp only [Act.put, List.setIfInBounds_toArray, List.set_cons_zero, List.set_cons_succ]
  refine tky 3 (some 83) (v := ?_) rfl (by kernel_rfl) (by kernel_rfl) (by kernel_rfl) (fun _ _ _ h => h) ?_ hHeld ?_
  rotate_left
  focus (intro w hSw; go_simp; (try with_reducible rfl); done)
  simp only [Act.put, List.setIfInBounds_toArray, List.set_cons_zero, List.set_cons_succ]
  refine tky 4 (some 84) (v := ?_) rfl (by kernel_rfl) (by kernel_rfl) (by kernel_rfl) (fun _ _ _ h => h) ?_ hHeld ?_
  rotate_left
  focus (intro w hSw; go_simp; (try with_reducible rfl); done)
  simp only [Act.put, List.setIfInBounds_toArray, List.set_cons_zero, List.set_cons_succ]
  refine rcons 5 rfl (by kernel_rfl) (fun K hK => ?_)
  go_simp
  refine hK.out _ _ trivial (fun _ => ?_)
  clear hK K
  (try simp only [Act.put, List.setIfInBounds_toArray, List.set_cons_zero, List.set_cons_succ])
  refine tky 6 (some 86) (v := ?_) rfl (by kernel_rfl) (by kernel_rfl) (by kernel_rfl) (fun _ _ _ h => h) ?_ hHeld ?_
  rotate_left
  focus (intro w hSw; go_simp; (try with_reducible rfl); done)
  simp only [Act.put, List.setIfInBounds_toArray, List.set_cons_zero, List.set_cons_succ]
  refine tky 7 (some 87) (v := ?_) rfl (by kernel_rfl) (by kernel_rfl) (by kernel_rfl) (fun _ _ _ h => h) ?_ hHeld ?_
  rotate_left
  focus (intro w hSw; go_simp; (try with_reducible rfl); done)
  simp only [Act.put, List.setIfInBounds_toArray, List.set_cons_zero, List.set_cons_succ]
  refine tky 8 (some 88) (v := ?_) rfl (by kernel_rfl) (by kernel_rfl) (by kernel_rfl) (fun _ _ _ h => h) ?_ hHeld ?_
  rotate_left
  focus (intro w hSw; go_simp; (try with_reducible rfl); done)
  simp only [Act.put, List.setIfInBounds_toArray, List.set_cons_zero, List.set_cons_succ]
  refine rcons 9 rfl (by kernel_rfl) (fun K hK => ?_)
  go_simp
  refine hK.out _ _ trivial (fun _ => ?_)
  clear hK K
  (try simp only [Act.put, List.setIfInBounds_toArray, List.set_cons_zero, List.set_cons_succ])
  refine tky 10 (some 89) (v := ?_) rfl (by kernel_rfl) (by kernel_rfl) (by kernel_rfl) (fun _ _ _ h => h) ?_ hHeld ?_
  rotate_left
  focus (intro w hSw; go_simp; (try with_reducible rfl); done)
  simp only [Act.put, List.setIfInBounds_toArray, List.set_cons_zero, List.set_cons_succ]
  refine tky 11 (some 90) (v := ?_) rfl (by kernel_rfl) (by kernel_rfl) (by kernel_rfl) (fun _ _ _ h => h) ?_ hHeld ?_
  rotate_left
  focus (intro w hSw; go_simp; (try with_reducible rfl); done)
  simp only [Act.put, List.setIfInBounds_toArray, List.set_cons_zero, List.set_cons_succ]
  refine rcons 12 rfl (by kernel_rfl) (fun K hK => ?_)
  go_simp
  refine hK.out _ _ trivial (fun _ => ?_)
  clear hK K
  (try simp only [Act.put, List.setIfInBounds_toArray, List.set_cons_zero, List.set_cons_succ])
  refine wpAnyH_done (by kernel_rfl) ?_ _
  have HV8 : Hid (VP p W (.slice av nv cv) (.slice (some ⟨g, 0, none⟩) n5 cap) ((((L ++ [(⟨0, name.data.toList, [], 0, 0⟩ : Cel)])).modify nv fun c => { c with kind := 6 })) rest op ((w6.drew.setCell ⟨g, nv * 5, none⟩ (.int .u8 6)).setCell ⟨p, 0, none⟩ (.string b7))) := Lib.hid (HV7.out.rk ⟨b7, HB7.out, HR7.out.str b7⟩ (RK.set p 0 _ _))
  have HOUT : Hid ((((L ++ [(⟨0, name.data.toList, [], 0, 0⟩ : Cel)])).modify nv fun c => { c with kind := 6 }) = L ++ [⟨6, name.data.toList, [], 0, 0⟩]) := Lib.hid (by
    have hnl := HNV.out
    rw [modify_end' _ _ _ _ hnl])
  rw [HOUT.out] at HV8
  have hlen : (L ++ [(⟨6, name.data.toList, [], 0, 0⟩ : Cel)]).length = L.length + 1 := by simp
  go_wp2_with fail
  refine (HIT.out p op _ (L ++ [⟨6, name.data.toList, [], 0, 0⟩]) rest _ HOP.out h0 hrl hrv HV8.out.st HV8.out.own (by rw [hlen]; omega) (by rw [hlen]; omega) (HEE.out.to HV8.out.vk.1)).mono ?_; rintro x w9 hx
  rw [hlen, show L.length + 1 - 1 = L.length from rfl] at hx
  generalize manyJ d false L.length rest (L ++ [⟨6, name.data.toList, [], 0, 0⟩]) = Z at *
  cases Z with
  | error e =>
    obtain ⟨rfl, hb⟩ := hx
    have HB9 := Lib.hid (HV8.out.vk.1.trans hb)
    clear hb
    go_wp2_with fail
    refine ⟨rfl, ?_⟩
    rw [HZ.out]
    exact ⟨rfl, HB9.out⟩
  | ok y =>
    obtain ⟨t, o2⟩ := y
    obtain ⟨rfl, ho2, v9, hv9⟩ := hx
    have HV9 := Lib.hid (HV8.out.join hv9)
    clear hv9
    go_wp2_with fail
    go_end0
    rw [HZ.out]
    exact ⟨rfl, ho2, _, HV9.out⟩
theorem p_value_step (d : Nat) (ho : PItO d) (hli : PItL d) : PValSpec d := by
  intro p name op v L l W hop h0 hl hv h hown hL hE
  cases hb : blJ l with
  | nil => exact p_value_nil d p name op v L l W hl hv h hown hL hE hb
  | cons c rest =>
    cases hbg : begJ c with
    | false => exact p_value_not d p name op v L l W hl hv h hown hL hE c rest hb hbg
    | true =>
      by_cases hf : L.length = 2048
      · exact p_value_full d p name op v L l W hl hv h hown hL hE c rest hb hbg hf
      · by_cases h1 : c = UInt8.ofNat 123
        · exact p_value_obj d p name op v L l W hl hv h hown hL hE c rest hb hbg hf h1 hop h0 ho
        by_cases h2 : c = UInt8.ofNat 91
        · exact p_value_list d p name op v L l W hl hv h hown hL hE c rest hb hbg hf h2 hop h0 hli
        by_cases h3 : c = UInt8.ofNat 34
        · cases ht : strJ (c :: rest) with
          | none => exact p_value_text_no d p name op v L l W hl hv h hown hL hE c rest hb hbg hf h3 ht
          | some st => exact p_value_text d p name op v L l W hl hv h hown hL hE c rest hb hbg hf h3 st.1 st.2 ht
        by_cases h4 : c = UInt8.ofNat 116
        · cases ht : tkJ [116, 114, 117, 101] (c :: rest) with
          | none => exact p_value_true_no d p name op v L l W hl hv h hown hL hE c rest hb hbg hf h4 ht
          | some t => exact p_value_true d p name op v L l W hl hv h hown hL hE c rest hb hbg hf h4 t ht
        by_cases h5 : c = UInt8.ofNat 102
        · cases ht : tkJ [102, 97, 108, 115, 101] (c :: rest) with
          | none => exact p_value_false_no d p name op v L l W hl hv h hown hL hE c rest hb hbg hf h5 ht
          | some t => exact p_value_false d p name op v L l W hl hv h hown hL hE c rest hb hbg hf h5 t ht
        by_cases h6 : c = UInt8.ofNat 110
        · cases ht : tkJ [110, 117, 108, 108] (c :: rest) with
          | none => exact p_value_null_no d p name op v L l W hl hv h hown hL hE c rest hb hbg hf h6 ht
          | some t => exact p_value_null d p name op v L l W hl hv h hown hL hE c rest hb hbg hf h6 t ht
        have hnum : c = 45 ∨ isDig c = true := by
          unfold begJ at hbg
          simp only [Bool.or_eq_true, beq_iff_eq] at hbg
          rcases hbg with ((((((h | h) | h) | h) | h) | h) | h) | h
          · exact absurd h h1
          · exact absurd h h2
          · exact absurd h h3
          · exact absurd h h4
          · exact absurd h h5
          · exact absurd h h6
          · exact Or.inl h
          · exact Or.inr h
        cases ht : numJ (c :: rest) with
        | error e => exact p_value_num_no d p name op v L l W hl hv h hown hL hE c rest hb hbg hf hnum e ht
        | ok nt => exact p_value_num d p name op v L l W hl hv h hown hL hE c rest hb hbg hf hnum nt.1 nt.2 ht
end Go.Proofs.YtgclnjogoghhcaaGreatDoor
namespace Go.Proofs.YtgclnjogoghhcaaGreatDoor
open Go.RowKit Go.Lib
theorem items_end (val : List UInt8 → List UInt8 → List Cel → Except Int (List UInt8 × List Cel)) (isO : Bool) (g n : Nat) (nm : List (List UInt8)) (l r : List UInt8) (out : List Cel) (h : tkJ [if isO then 125 else 93] l = some r) : itemsJ val isO (g + 1) n nm l out = .ok (n, r, out) := by
  rw [itemsJ, h]
/-- Behind the comma. -/
def itemE (val : List UInt8 → List UInt8 → List Cel → Except Int (List UInt8 × List Cel)) (isO : Bool) (g n : Nat) (nm : List (List UInt8)) (out : List Cel) (l1 : List UInt8) : Except Int (Nat × List UInt8 × List Cel) := match (if isO then memJ nm l1 else .ok ([], l1)) with
  | .error e => .error e
  | .ok (s, l2) => match val s l2 out with
    | .error e => .error e
    | .ok (l3, out2) => itemsJ val isO g (n + 1) (if isO then s :: nm else nm) (blJ l3) out2
theorem items_go (val : List UInt8 → List UInt8 → List Cel → Except Int (List UInt8 × List Cel)) (isO : Bool) (g n : Nat) (nm : List (List UInt8)) (l : List UInt8) (out : List Cel) (h : tkJ [if isO then 125 else 93] l = none) : itemsJ val isO (g + 1) n nm l out = (match (if n = 0 then some l else (tkJ [44] l).map blJ) with | none => .error 40 | some l1 => itemE val isO g n nm out l1) := by
  rw [itemsJ, h]
  cases (if n = 0 then some l else (tkJ [44] l).map blJ) <;> rfl
theorem VPE.ok_ {p : Nat} {w W : World} {v : Value} {op : Int} {t : List UInt8} {out : List Cel} {x : Ending} (h : VPE p w v op (.ok (t, out)) x W) : x = .returned (.tuple #[]) ∧ out.length ≤ 2048 ∧ ∃ v', VP p w v v' out t op W := h
theorem VPE.err {p : Nat} {w W : World} {v : Value} {op : Int} {e : Int} {x : Ending} (h : VPE p w v op (.error e) x W) : x = .panicked (stopL e) ∧ Below p w W := h
set_option maxRecDepth 100000 in
theorem p_items_obj_0 (p : Nat) (op : Int) (v : Value) (L : List Cel) (l : List UInt8) (w : World) (hop : op + (0 : Int) = 16) (hl : l.length ≤ 16384) (h : PS p l v op w) (hown : OwnC (p + 1) v L w) (hL1 : 0 < L.length) (hL : L.length ≤ 2048) :
    Calls Tryz.prog 88 #[.pointer (some ⟨p, 0, none⟩), .string ⟨#[125]⟩, .func (.func 89) #[.pointer (some ⟨p, 0, none⟩)] #[]] w (VPE p w v op (manyJ 0 true (L.length - 1) l L)) := by
  have HNO : Hid (∀ (e : Int) W, Calls Tryz.prog 87 #[.int .i64 e] W fun x w' => x = .panicked (stopL e) ∧ W = w') := Lib.hid fun e W => p_no e W
  have hvl : ∃ a n c, v = .slice a n c ∧ n = L.length := by
    rcases hown.2 with ⟨h1, h2⟩ | ⟨g, cap, cur, h1, _⟩
    · exact ⟨none, 0, 0, h1, h2.symm⟩
    · exact ⟨_, _, _, h1, rfl⟩
  obtain ⟨av, nv, cv, rfl, hnv⟩ := hvl
  have hpl := h.lt
  obtain ⟨c1, c2, f1, f2⟩ := h.c12
  have hnv8 : nv ≤ 2048 := by omega
  obtain ⟨k, hk⟩ : ∃ k, L.length - 1 = k := ⟨_, rfl⟩
  have q1 : (nv : Int) - 1 = (k : Int) := by omega
  have q2 : IntKind.i64.wrap (k : Int) = (k : Int) := IntWalk.i64_in _ (by omega)
  have q6 : IntKind.i64.wrap (op + 1) = op + 1 := IntWalk.i64_in _ (by omega)
  have HV0 : Hid (VP p w (.slice av nv cv) (.slice av nv cv) L l op w) := Lib.hid ⟨h, hown, VK.refl _ _ _, fun k hk => Or.inl hk⟩
  have HV1 : Hid (VP p w (.slice av nv cv) (.slice av nv cv) L l (op + 1) (w.setCell ⟨p, 2, none⟩ (.int .i64 (op + 1)))) := Lib.hid (HV0.out.rk (h.open_ _) (RK.set p 2 _ _))
  rw [hk]
  have t1 : decide ((16 : Int) < op + 1) = true := decide_eq_true (by omega)
  clear h hown hop hnv hk
  go_enter Tryz.func88, Tryz.ntmps88
  go_wp2_with fail
  refine (HNO.out _ _).mono ?_; rintro x w2 ⟨rfl, rfl⟩
  go_wp2_with fail
  exact ⟨rfl, rfl, HV1.out.vk.1⟩
set_option maxRecDepth 100000 in
set_option maxHeartbeats 4000000 in
theorem p_items_obj (d : Nat) (hval : PValSpec d) (p : Nat) (op : Int) (v : Value) (L : List Cel) (l : List UInt8) (w : World) (hop : op + ((d + 1 : Nat) : Int) = 16) (h0 : 0 ≤ op) (hl : l.length ≤ 16384) (hv : validD l = true) (h : PS p l v op w) (hown : OwnC (p + 1) v L w) (hL1 : 0 < L.length) (hL : L.length ≤ 2048) (hE : EnvB p w) :
    Calls Tryz.prog 88 #[.pointer (some ⟨p, 0, none⟩), .string ⟨#[125]⟩, .func (.func 89) #[.pointer (some ⟨p, 0, none⟩)] #[]] w (VPE p w v op (manyJ (d + 1) true (L.length - 1) l L)) := by
  have HNO : Hid (∀ (e : Int) W, Calls Tryz.prog 87 #[.int .i64 e] W fun x w' => x = .panicked (stopL e) ∧ W = w') := Lib.hid fun e W => p_no e W
  have hvl : ∃ a n c, v = .slice a n c ∧ n = L.length := by
    rcases hown.2 with ⟨h1, h2⟩ | ⟨g, cap, cur, h1, _⟩
    · exact ⟨none, 0, 0, h1, h2.symm⟩
    · exact ⟨_, _, _, h1, rfl⟩
  obtain ⟨av, nv, cv, rfl, hnv⟩ := hvl
  have hpl := h.lt
  obtain ⟨c1, c2, f1, f2⟩ := h.c12
  have hnv8 : nv ≤ 2048 := by omega
  obtain ⟨k, hk⟩ : ∃ k, L.length - 1 = k := ⟨_, rfl⟩
  have q1 : (nv : Int) - 1 = (k : Int) := by omega
  have q2 : IntKind.i64.wrap (k : Int) = (k : Int) := IntWalk.i64_in _ (by omega)
  have q6 : IntKind.i64.wrap (op + 1) = op + 1 := IntWalk.i64_in _ (by omega)
  have HV0 : Hid (VP p w (.slice av nv cv) (.slice av nv cv) L l op w) := Lib.hid ⟨h, hown, VK.refl _ _ _, fun k hk => Or.inl hk⟩
  have HV1 : Hid (VP p w (.slice av nv cv) (.slice av nv cv) L l (op + 1) (w.setCell ⟨p, 2, none⟩ (.int .i64 (op + 1)))) := Lib.hid (HV0.out.rk (h.open_ _) (RK.set p 2 _ _))
  rw [hk]
  have t1 : decide ((16 : Int) < op + 1) = false := decide_eq_false (by omega)
  have hopd : op + 1 + (d : Int) = 16 := by omega
  have HEE := Lib.hid hE
  have HVL : Hid (∀ (s l3 : List UInt8) (out : List Cel) (v1 : Value) (W : World), l3.length ≤ 16384 → validD l3 = true → PS p l3 v1 (op + 1) W → OwnC (p + 1) v1 out W → out.length ≤ 2048 → EnvB p W → Calls Tryz.prog 85 #[.pointer (some ⟨p, 0, none⟩), .string ⟨s.toArray⟩] W (VPE p W v1 (op + 1) (valJ d s l3 out))) := Lib.hid fun s l3 out v1 W h1 h2 h3 h4 h5 h6 => by
    have := hval p ⟨s.toArray⟩ (op + 1) v1 out l3 W hopd (by omega) h1 h2 h3 h4 h5 h6
    simpa using this
  obtain ⟨Z, hZ⟩ : ∃ Z, manyJ (d + 1) true k l L = Z := ⟨_, rfl⟩
  have HZ0 : Hid (finJ k (itemsJ (valJ d) true (l.length + 1) 0 [] (blJ l) L) = Z) := Lib.hid hZ
  rw [hZ]
  have hbl1 := (cut_bl l).1
  have hvb : validD (blJ l) = true := (cut_bl l).2 hv
  have hkL : k < L.length := by omega
  have hmm := @run_makeMap Tryz.prog
  have HVB := Lib.hid hvb
  clear h hown hop hZ hval hv hE hvb hnv hk
  go_enter Tryz.func88, Tryz.ntmps88
  go_wp2_with fail
  obtain ⟨w1, hw1⟩ : ∃ w1, (w.setCell ⟨p, 2, none⟩ (.int .i64 (op + 1))) = w1 := ⟨_, rfl⟩
  have hsz1 : w.heap.size = w1.heap.size := by rw [← hw1]; simp
  rw [hw1] at HV1
  try rw [hw1]
  have HI0 : Hid (IS p w.heap.size w (.slice av nv cv) (.slice av nv cv) L l (op + 1) [] (w1.alloc (.map #[] 0))) := Lib.hid (by
    refine ⟨HV1.out.alloc _, by rw [hsz1]; exact NamesM.made w1, by omega, hpl, fun e => ?_⟩
    rcases own_some HV1.out.own with h1 | ⟨g, _, _, h1, h2, h3, h4⟩
    · rw [h1] at e; cases e
    · rw [h2] at e; injection e with e
      have := heap_lt h4
      omega)
  refine (p_blanks p l _ (op + 1) _ HI0.out.vp.st).mono ?_; rintro x w2 ⟨rfl, hst, hk2⟩
  have HI1 := Lib.hid (HI0.out.rk hst hk2)
  clear hst hk2 hw1 c1 c2 f1 f2 q1 t1 hmm
  clear hsz1
  go_wp2_with fail
  go_loopg [8] (l.length + 1) (fun gk nvv wr => ∃ (n : Nat) (l1 : List UInt8) (nm : List (List UInt8)) (out : List Cel) (v1 : Value), nvv = .int .i64 (n : Int) ∧ l1.length < gk ∧ n + l1.length ≤ 16384 ∧ nm.length ≤ n ∧ out.length ≤ 2048 ∧ L.length ≤ out.length ∧ Hid (validD l1 = true) ∧ Hid (IS p w.heap.size w (.slice av nv cv) v1 out l1 (op + 1) nm wr) ∧ Hid (finJ k (itemsJ (valJ d) true gk n nm l1 out) = Z))
  case atStart => exact ⟨0, blJ l, [], L, _, rfl, by omega, by omega, by simp, hL, Nat.le_refl _, HVB, HI1, HZ0⟩
  case round =>
    rename World => wr
    obtain ⟨n, l1, nm, out, v1, rfl, hg, hn, hnm, hout, hLo, HV, HI, HQ⟩ := hrel
    obtain ⟨g, rfl⟩ : ∃ g, gk = g + 1 := ⟨gk - 1, by omega⟩
    cases ht : tkJ [125] l1 with
    | some r =>
      have HZ : Hid (.ok (r, manyAt k n out) = Z) := Lib.hid (by have := HQ.out; rw [items_end (valJ d) true g n nm l1 r out ht] at this; exact this)
      have hkl : k < out.length := by omega
      go_wp2_with fail
      refine (is_yes (what := ⟨#[125]⟩) ht _ HI.out.vp.st).mono ?_; rintro x w3 ⟨rfl, hst, hk3⟩
      have HI3 := Lib.hid (HI.out.rk hst hk3)
      clear hst hk3 ht HQ
      obtain ⟨d1, d2, e1, e2⟩ := HI3.out.vp.st.c12
      have q7 : IntKind.i64.wrap (op + 1 - 1) = op := by rw [IntWalk.i64_in _ (by omega)]; omega
      have q8 : op + 1 - 1 = op := by omega
      have q9 : IntKind.i64.wrap op = op := IntWalk.i64_in _ (by omega)
      have HV4 : Hid (VP p w (.slice av nv cv) v1 out r op (w3.setCell ⟨p, 2, none⟩ (.int .i64 op))) := Lib.hid (HI3.out.vp.rk (HI3.out.vp.st.open_ _) (RK.set p 2 _ _))
      obtain ⟨g1, cap1, hv1, hBg, hgl, hfz, ck0, ck2, ck3, ck4⟩ := HV4.out.own.form k hkl
      have hff := hfz (k * 5 + 4)
      obtain ⟨z4, hz4⟩ : ∃ z4, (out[k]'hkl).many = z4 := ⟨_, rfl⟩
      rw [hz4] at ck4
      obtain ⟨j1, j2, j3, j4⟩ := HV4.out.st.c12
      have HV5 : Hid (VP p w (.slice av nv cv) v1 (manyAt k n out) r op ((w3.setCell ⟨p, 2, none⟩ (.int .i64 op)).setCell ⟨g1, k * 5 + 4, none⟩ (.int .i64 (n : Int)))) := Lib.hid (HV4.out.set hv1 (by omega) (by rw [manyAt_len]) (by exact celFlat_set4 _ _ _))
      have hol : (manyAt k n out).length ≤ 2048 := by rw [manyAt_len]; exact hout
      obtain ⟨n6, hn6⟩ : ∃ n6, out.length = n6 := ⟨_, rfl⟩
      rw [hn6] at hv1
      have q10 : (k : Int) < (n6 : Int) := by omega
      have q11 : (k : Int).toNat = k := by omega
      have q12 : (0 : Int) ≤ (k : Int) := by omega
      have q13 : k < n6 := by omega
      clear ck0 ck2 ck3 hz4 hn6 hfz
      subst hv1
      go_wp2_with fail
      go_end0
      rw [← HZ.out]
      exact ⟨rfl, hol, _, HV5.out⟩
    | none =>
      have HQ1 : Hid (finJ k (match (if n = 0 then some l1 else (tkJ [44] l1).map blJ) with | none => .error 40 | some l1 => itemE (valJ d) true g n nm out l1) = Z) := Lib.hid (by have := HQ.out; rw [items_go (valJ d) true g n nm l1 out ht] at this; exact this)
      go_wp2_with fail
      refine (is_no (what := ⟨#[125]⟩) ht _ HI.out.vp.st).mono ?_; rintro x w3 ⟨rfl, hst, hk3⟩
      have HI3 := Lib.hid (HI.out.rk hst hk3)
      clear hst hk3 ht HQ
      by_cases hn0 : n = 0
      · obtain ⟨l2, hl2e⟩ : ∃ l2, l1 = l2 := ⟨_, rfl⟩
        have hl2 : l2.length ≤ 16384 := by rw [← hl2e]; omega
        have hl21 : l2.length ≤ l1.length := by rw [hl2e]; exact Nat.le_refl _
        have hv2 : validD l2 = true := by rw [← hl2e]; exact HV.out
        have HQ2 : Hid (finJ k (itemE (valJ d) true g n nm out l2) = Z) := Lib.hid (by have := HQ1.out; rw [if_pos hn0] at this; rw [← hl2e]; exact this)
        rw [hl2e] at HI3
        have t0 : decide ((0 : Int) < (n : Int)) = false := decide_eq_false (by omega)
        have t0n : ¬ 0 < n := by omega
        clear hn0 hl2e
        clear HQ1
        go_wp2_with fail
        have HI4 := HI3
        have HMB := Lib.hid (p_name p w.heap.size l2 nm v1 (op + 1) hl2 hv2 _ HI4.out.vp.st HI4.out.nm (by have := HI4.out.lo; have := HI4.out.pl; omega) (by omega) (HEE.out.to HI4.out.vp.vk.1).u)
        cases hm : memJ nm l2 with
        | error e =>
          have HZ : Hid (.error e = Z) := Lib.hid (by have := HQ2.out; simp only [itemE, hm, if_true] at this; exact this)
          rw [hm] at HMB
          clear hm
          refine HMB.out.mono ?_; rintro x wa ⟨rfl, hb⟩
          have HBA := Lib.hid (HI4.out.vp.vk.1.trans hb)
          clear hb
          go_wp2_with fail
          refine ⟨rfl, ?_⟩
          rw [← HZ.out]
          exact ⟨rfl, HBA.out⟩
        | ok sl =>
          obtain ⟨s, l3⟩ := sl
          obtain ⟨k1, k2, k3⟩ := cut_mem nm l2 s l3 hv2 hm
          have hl3 : l3.length ≤ l2.length := by omega
          have hv3 := k1.2 hv2
          have HQ3 : Hid (finJ k (match valJ d s l3 out with | .error e => .error e | .ok (l3, out2) => itemsJ (valJ d) true g (n + 1) (s :: nm) (blJ l3) out2) = Z) := Lib.hid (by have := HQ2.out; simp only [itemE, hm, if_true] at this; exact this)
          rw [hm] at HMB
          clear hm k1 k2 k3
          refine HMB.out.mono ?_; rintro x wa ⟨rfl, hst, hnm, hmk⟩
          have HIA := Lib.hid (HI4.out.mk_ hst hnm hmk)
          clear hst hnm hmk
          go_wp2_with fail
          have HVA := Lib.hid (HVL.out s l3 out v1 _ (by omega) hv3 HIA.out.vp.st HIA.out.vp.own hout (HEE.out.to HIA.out.vp.vk.1))
          cases hx : valJ d s l3 out with
          | error e =>
            have HZ : Hid (.error e = Z) := Lib.hid (by have := HQ3.out; rw [hx] at this; exact this)
            rw [hx] at HVA
            clear hx
            refine HVA.out.mono ?_; rintro x wb hvx
            obtain ⟨hxe, hbb⟩ := hvx.err
            have HBB := Lib.hid (HIA.out.vp.vk.1.trans hbb)
            clear hvx hbb
            subst hxe
            go_wp2_with fail
            refine ⟨rfl, ?_⟩
            rw [← HZ.out]
            exact ⟨rfl, HBB.out⟩
          | ok y =>
            obtain ⟨l4, out2⟩ := y
            obtain ⟨k1, k2, new, k3, k4⟩ := cut_val d _ _ _ _ _ hv3 hx
            have hol : out.length ≤ out2.length := by rw [k3]; simp
            have hb4 := (cut_bl l4).1
            have hv5 : validD (blJ l4) = true := (cut_bl l4).2 (k1.2 hv3)
            have HQ4 : Hid (finJ k (itemsJ (valJ d) true g (n + 1) (s :: nm) (blJ l4) out2) = Z) := Lib.hid (by have := HQ3.out; rw [hx] at this; exact this)
            rw [hx] at HVA
            clear hx k1 k3 k4
            refine HVA.out.mono ?_; rintro x wb hvx
            obtain ⟨hxe, ho2, v2, hvp⟩ := hvx.ok_
            have HIB := Lib.hid (HIA.out.val hvp)
            clear hvx hvp
            subst hxe
            go_wp2_with fail
            refine (p_blanks p l4 v2 (op + 1) _ HIB.out.vp.st).mono ?_; rintro x wc ⟨rfl, hst, hk⟩
            have HIC := Lib.hid (HIB.out.rk hst hk)
            clear hst hk
            have hn1 : IntKind.i64.wrap ((n : Int) + 1) = ((n + 1 : Nat) : Int) := by rw [IntWalk.i64_in _ (by omega)]; omega
            go_wp2_with fail
            go_roundg g
            case measure => omega
            case rel => exact ⟨n + 1, blJ l4, (s :: nm), out2, v2, by first | rfl | go_num, by omega, by omega, by simp; omega, ho2, by omega, Lib.hid hv5, HIC, HQ4⟩
      · have t0 : decide ((0 : Int) < (n : Int)) = true := decide_eq_true (by omega)
        rw [if_neg hn0] at HQ1
        cases hc : tkJ [44] l1 with
        | none =>
          have HZ : Hid (.error 40 = Z) := Lib.hid (by have := HQ1.out; rw [hc] at this; exact this)
          go_wp2_with fail
          refine (must_no (what := ⟨#[44]⟩) hc _ HI3.out.vp.st).mono ?_; rintro x w4 ⟨rfl, hb⟩
          have HB4 := Lib.hid (HI3.out.vp.vk.1.trans hb)
          clear hb hc
          go_wp2_with fail
          refine ⟨rfl, ?_⟩
          rw [← HZ.out]
          exact ⟨rfl, HB4.out⟩
        | some r =>
          have hcr := cut_tk _ _ _ (by decide) hc
          have HQ2 : Hid (finJ k (itemE (valJ d) true g n nm out (blJ r)) = Z) := Lib.hid (by have := HQ1.out; rw [hc] at this; exact this)
          have hb1 := (cut_bl r).1
          have hl21 : (blJ r).length ≤ l1.length := Nat.le_trans hb1 hcr.1.1
          have hv2 : validD (blJ r) = true := (cut_bl r).2 (hcr.1.2 HV.out)
          go_wp2_with fail
          refine (must_ok (what := ⟨#[44]⟩) hc _ HI3.out.vp.st).mono ?_; rintro x w4 ⟨rfl, hst, hk4⟩
          have HI5 := Lib.hid (HI3.out.rk hst hk4)
          clear hst hk4 hc hcr HQ1
          go_wp2_with fail
          refine (p_blanks p r _ (op + 1) _ HI5.out.vp.st).mono ?_; rintro x w5 ⟨rfl, hst, hk5⟩
          have HI4 := Lib.hid (HI5.out.rk hst hk5)
          clear hst hk5
          obtain ⟨l2, hl2e⟩ : ∃ l2, blJ r = l2 := ⟨_, rfl⟩
          rw [hl2e] at HI4 HQ2 hl21 hv2
          have hl2 : l2.length ≤ 16384 := by omega
          clear hl2e hb1
          go_wp2_with fail
          have HMB := Lib.hid (p_name p w.heap.size l2 nm v1 (op + 1) hl2 hv2 _ HI4.out.vp.st HI4.out.nm (by have := HI4.out.lo; have := HI4.out.pl; omega) (by omega) (HEE.out.to HI4.out.vp.vk.1).u)
          cases hm : memJ nm l2 with
          | error e =>
            have HZ : Hid (.error e = Z) := Lib.hid (by have := HQ2.out; simp only [itemE, hm, if_true] at this; exact this)
            rw [hm] at HMB
            clear hm
            refine HMB.out.mono ?_; rintro x wa ⟨rfl, hb⟩
            have HBA := Lib.hid (HI4.out.vp.vk.1.trans hb)
            clear hb
            go_wp2_with fail
            refine ⟨rfl, ?_⟩
            rw [← HZ.out]
            exact ⟨rfl, HBA.out⟩
          | ok sl =>
            obtain ⟨s, l3⟩ := sl
            obtain ⟨k1, k2, k3⟩ := cut_mem nm l2 s l3 hv2 hm
            have hl3 : l3.length ≤ l2.length := by omega
            have hv3 := k1.2 hv2
            have HQ3 : Hid (finJ k (match valJ d s l3 out with | .error e => .error e | .ok (l3, out2) => itemsJ (valJ d) true g (n + 1) (s :: nm) (blJ l3) out2) = Z) := Lib.hid (by have := HQ2.out; simp only [itemE, hm, if_true] at this; exact this)
            rw [hm] at HMB
            clear hm k1 k2 k3
            refine HMB.out.mono ?_; rintro x wa ⟨rfl, hst, hnm, hmk⟩
            have HIA := Lib.hid (HI4.out.mk_ hst hnm hmk)
            clear hst hnm hmk
            go_wp2_with fail
            have HVA := Lib.hid (HVL.out s l3 out v1 _ (by omega) hv3 HIA.out.vp.st HIA.out.vp.own hout (HEE.out.to HIA.out.vp.vk.1))
            cases hx : valJ d s l3 out with
            | error e =>
              have HZ : Hid (.error e = Z) := Lib.hid (by have := HQ3.out; rw [hx] at this; exact this)
              rw [hx] at HVA
              clear hx
              refine HVA.out.mono ?_; rintro x wb hvx
              obtain ⟨hxe, hbb⟩ := hvx.err
              have HBB := Lib.hid (HIA.out.vp.vk.1.trans hbb)
              clear hvx hbb
              subst hxe
              go_wp2_with fail
              refine ⟨rfl, ?_⟩
              rw [← HZ.out]
              exact ⟨rfl, HBB.out⟩
            | ok y =>
              obtain ⟨l4, out2⟩ := y
              obtain ⟨k1, k2, new, k3, k4⟩ := cut_val d _ _ _ _ _ hv3 hx
              have hol : out.length ≤ out2.length := by rw [k3]; simp
              have hb4 := (cut_bl l4).1
              have hv5 : validD (blJ l4) = true := (cut_bl l4).2 (k1.2 hv3)
              have HQ4 : Hid (finJ k (itemsJ (valJ d) true g (n + 1) (s :: nm) (blJ l4) out2) = Z) := Lib.hid (by have := HQ3.out; rw [hx] at this; exact this)
              rw [hx] at HVA
              clear hx k1 k3 k4
              refine HVA.out.mono ?_; rintro x wb hvx
              obtain ⟨hxe, ho2, v2, hvp⟩ := hvx.ok_
              have HIB := Lib.hid (HIA.out.val hvp)
              clear hvx hvp
              subst hxe
              go_wp2_with fail
              refine (p_blanks p l4 v2 (op + 1) _ HIB.out.vp.st).mono ?_; rintro x wc ⟨rfl, hst, hk⟩
              have HIC := Lib.hid (HIB.out.rk hst hk)
              clear hst hk
              have hn1 : IntKind.i64.wrap ((n : Int) + 1) = ((n + 1 : Nat) : Int) := by rw [IntWalk.i64_in _ (by omega)]; omega
              go_wp2_with fail
              go_roundg g
              case measure => omega
              case rel => exact ⟨n + 1, blJ l4, (s :: nm), out2, v2, by first | rfl | go_num, by omega, by omega, by simp; omega, ho2, by omega, Lib.hid hv5, HIC, HQ4⟩
set_option maxRecDepth 100000 in
theorem p_items_list_0 (p : Nat) (op : Int) (v : Value) (L : List Cel) (l : List UInt8) (w : World) (hop : op + (0 : Int) = 16) (hl : l.length ≤ 16384) (h : PS p l v op w) (hown : OwnC (p + 1) v L w) (hL1 : 0 < L.length) (hL : L.length ≤ 2048) :
    Calls Tryz.prog 88 #[.pointer (some ⟨p, 0, none⟩), .string ⟨#[93]⟩, .func (.func 90) #[.pointer (some ⟨p, 0, none⟩)] #[]] w (VPE p w v op (manyJ 0 false (L.length - 1) l L)) := by
  have HNO : Hid (∀ (e : Int) W, Calls Tryz.prog 87 #[.int .i64 e] W fun x w' => x = .panicked (stopL e) ∧ W = w') := Lib.hid fun e W => p_no e W
  have hvl : ∃ a n c, v = .slice a n c ∧ n = L.length := by
    rcases hown.2 with ⟨h1, h2⟩ | ⟨g, cap, cur, h1, _⟩
    · exact ⟨none, 0, 0, h1, h2.symm⟩
    · exact ⟨_, _, _, h1, rfl⟩
  obtain ⟨av, nv, cv, rfl, hnv⟩ := hvl
  have hpl := h.lt
  obtain ⟨c1, c2, f1, f2⟩ := h.c12
  have hnv8 : nv ≤ 2048 := by omega
  obtain ⟨k, hk⟩ : ∃ k, L.length - 1 = k := ⟨_, rfl⟩
  have q1 : (nv : Int) - 1 = (k : Int) := by omega
  have q2 : IntKind.i64.wrap (k : Int) = (k : Int) := IntWalk.i64_in _ (by omega)
  have q6 : IntKind.i64.wrap (op + 1) = op + 1 := IntWalk.i64_in _ (by omega)
  have HV0 : Hid (VP p w (.slice av nv cv) (.slice av nv cv) L l op w) := Lib.hid ⟨h, hown, VK.refl _ _ _, fun k hk => Or.inl hk⟩
  have HV1 : Hid (VP p w (.slice av nv cv) (.slice av nv cv) L l (op + 1) (w.setCell ⟨p, 2, none⟩ (.int .i64 (op + 1)))) := Lib.hid (HV0.out.rk (h.open_ _) (RK.set p 2 _ _))
  rw [hk]
  have t1 : decide ((16 : Int) < op + 1) = true := decide_eq_true (by omega)
  clear h hown hop hnv hk
  go_enter Tryz.func88, Tryz.ntmps88
  go_wp2_with fail
  refine (HNO.out _ _).mono ?_; rintro x w2 ⟨rfl, rfl⟩
  go_wp2_with fail
  exact ⟨rfl, rfl, HV1.out.vk.1⟩
set_option maxRecDepth 100000 in
set_option maxHeartbeats 4000000 in
theorem p_items_list (d : Nat) (hval : PValSpec d) (p : Nat) (op : Int) (v : Value) (L : List Cel) (l : List UInt8) (w : World) (hop : op + ((d + 1 : Nat) : Int) = 16) (h0 : 0 ≤ op) (hl : l.length ≤ 16384) (hv : validD l = true) (h : PS p l v op w) (hown : OwnC (p + 1) v L w) (hL1 : 0 < L.length) (hL : L.length ≤ 2048) (hE : EnvB p w) :
    Calls Tryz.prog 88 #[.pointer (some ⟨p, 0, none⟩), .string ⟨#[93]⟩, .func (.func 90) #[.pointer (some ⟨p, 0, none⟩)] #[]] w (VPE p w v op (manyJ (d + 1) false (L.length - 1) l L)) := by
  have HNO : Hid (∀ (e : Int) W, Calls Tryz.prog 87 #[.int .i64 e] W fun x w' => x = .panicked (stopL e) ∧ W = w') := Lib.hid fun e W => p_no e W
  have hvl : ∃ a n c, v = .slice a n c ∧ n = L.length := by
    rcases hown.2 with ⟨h1, h2⟩ | ⟨g, cap, cur, h1, _⟩
    · exact ⟨none, 0, 0, h1, h2.symm⟩
    · exact ⟨_, _, _, h1, rfl⟩
  obtain ⟨av, nv, cv, rfl, hnv⟩ := hvl
  have hpl := h.lt
  obtain ⟨c1, c2, f1, f2⟩ := h.c12
  have hnv8 : nv ≤ 2048 := by omega
  obtain ⟨k, hk⟩ : ∃ k, L.length - 1 = k := ⟨_, rfl⟩
  have q1 : (nv : Int) - 1 = (k : Int) := by omega
  have q2 : IntKind.i64.wrap (k : Int) = (k : Int) := IntWalk.i64_in _ (by omega)
  have q6 : IntKind.i64.wrap (op + 1) = op + 1 := IntWalk.i64_in _ (by omega)
  have HV0 : Hid (VP p w (.slice av nv cv) (.slice av nv cv) L l op w) := Lib.hid ⟨h, hown, VK.refl _ _ _, fun k hk => Or.inl hk⟩
  have HV1 : Hid (VP p w (.slice av nv cv) (.slice av nv cv) L l (op + 1) (w.setCell ⟨p, 2, none⟩ (.int .i64 (op + 1)))) := Lib.hid (HV0.out.rk (h.open_ _) (RK.set p 2 _ _))
  rw [hk]
  have t1 : decide ((16 : Int) < op + 1) = false := decide_eq_false (by omega)
  have hopd : op + 1 + (d : Int) = 16 := by omega
  have HEE := Lib.hid hE
  have HVL : Hid (∀ (s l3 : List UInt8) (out : List Cel) (v1 : Value) (W : World), l3.length ≤ 16384 → validD l3 = true → PS p l3 v1 (op + 1) W → OwnC (p + 1) v1 out W → out.length ≤ 2048 → EnvB p W → Calls Tryz.prog 85 #[.pointer (some ⟨p, 0, none⟩), .string ⟨s.toArray⟩] W (VPE p W v1 (op + 1) (valJ d s l3 out))) := Lib.hid fun s l3 out v1 W h1 h2 h3 h4 h5 h6 => by
    have := hval p ⟨s.toArray⟩ (op + 1) v1 out l3 W hopd (by omega) h1 h2 h3 h4 h5 h6
    simpa using this
  obtain ⟨Z, hZ⟩ : ∃ Z, manyJ (d + 1) false k l L = Z := ⟨_, rfl⟩
  have HZ0 : Hid (finJ k (itemsJ (valJ d) false (l.length + 1) 0 [] (blJ l) L) = Z) := Lib.hid hZ
  rw [hZ]
  have hbl1 := (cut_bl l).1
  have hvb : validD (blJ l) = true := (cut_bl l).2 hv
  have hkL : k < L.length := by omega
  have hmm := @run_makeMap Tryz.prog
  have HVB := Lib.hid hvb
  clear h hown hop hZ hval hv hE hvb hnv hk
  go_enter Tryz.func88, Tryz.ntmps88
  go_wp2_with fail
  obtain ⟨w1, hw1⟩ : ∃ w1, (w.setCell ⟨p, 2, none⟩ (.int .i64 (op + 1))) = w1 := ⟨_, rfl⟩
  have hsz1 : w.heap.size = w1.heap.size := by rw [← hw1]; simp
  rw [hw1] at HV1
  try rw [hw1]
  have HI0 : Hid (IS p w.heap.size w (.slice av nv cv) (.slice av nv cv) L l (op + 1) [] (w1.alloc (.map #[] 0))) := Lib.hid (by
    refine ⟨HV1.out.alloc _, by rw [hsz1]; exact NamesM.made w1, by omega, hpl, fun e => ?_⟩
    rcases own_some HV1.out.own with h1 | ⟨g, _, _, h1, h2, h3, h4⟩
    · rw [h1] at e; cases e
    · rw [h2] at e; injection e with e
      have := heap_lt h4
      omega)
  refine (p_blanks p l _ (op + 1) _ HI0.out.vp.st).mono ?_; rintro x w2 ⟨rfl, hst, hk2⟩
  have HI1 := Lib.hid (HI0.out.rk hst hk2)
  clear hst hk2 hw1 c1 c2 f1 f2 q1 t1 hmm
  clear hsz1
  go_wp2_with fail
  go_loopg [8] (l.length + 1) (fun gk nvv wr => ∃ (n : Nat) (l1 : List UInt8) (nm : List (List UInt8)) (out : List Cel) (v1 : Value), nvv = .int .i64 (n : Int) ∧ l1.length < gk ∧ n + l1.length ≤ 16384 ∧ nm.length ≤ n ∧ out.length ≤ 2048 ∧ L.length ≤ out.length ∧ Hid (validD l1 = true) ∧ Hid (IS p w.heap.size w (.slice av nv cv) v1 out l1 (op + 1) nm wr) ∧ Hid (finJ k (itemsJ (valJ d) false gk n nm l1 out) = Z))
  case atStart => exact ⟨0, blJ l, [], L, _, rfl, by omega, by omega, by simp, hL, Nat.le_refl _, HVB, HI1, HZ0⟩
  case round =>
    rename World => wr
    obtain ⟨n, l1, nm, out, v1, rfl, hg, hn, hnm, hout, hLo, HV, HI, HQ⟩ := hrel
    obtain ⟨g, rfl⟩ : ∃ g, gk = g + 1 := ⟨gk - 1, by omega⟩
    cases ht : tkJ [93] l1 with
    | some r =>
      have HZ : Hid (.ok (r, manyAt k n out) = Z) := Lib.hid (by have := HQ.out; rw [items_end (valJ d) false g n nm l1 r out ht] at this; exact this)
      have hkl : k < out.length := by omega
      go_wp2_with fail
      refine (is_yes (what := ⟨#[93]⟩) ht _ HI.out.vp.st).mono ?_; rintro x w3 ⟨rfl, hst, hk3⟩
      have HI3 := Lib.hid (HI.out.rk hst hk3)
      clear hst hk3 ht HQ
      obtain ⟨d1, d2, e1, e2⟩ := HI3.out.vp.st.c12
      have q7 : IntKind.i64.wrap (op + 1 - 1) = op := by rw [IntWalk.i64_in _ (by omega)]; omega
      have q8 : op + 1 - 1 = op := by omega
      have q9 : IntKind.i64.wrap op = op := IntWalk.i64_in _ (by omega)
      have HV4 : Hid (VP p w (.slice av nv cv) v1 out r op (w3.setCell ⟨p, 2, none⟩ (.int .i64 op))) := Lib.hid (HI3.out.vp.rk (HI3.out.vp.st.open_ _) (RK.set p 2 _ _))
      obtain ⟨g1, cap1, hv1, hBg, hgl, hfz, ck0, ck2, ck3, ck4⟩ := HV4.out.own.form k hkl
      have hff := hfz (k * 5 + 4)
      obtain ⟨z4, hz4⟩ : ∃ z4, (out[k]'hkl).many = z4 := ⟨_, rfl⟩
      rw [hz4] at ck4
      obtain ⟨j1, j2, j3, j4⟩ := HV4.out.st.c12
      have HV5 : Hid (VP p w (.slice av nv cv) v1 (manyAt k n out) r op ((w3.setCell ⟨p, 2, none⟩ (.int .i64 op)).setCell ⟨g1, k * 5 + 4, none⟩ (.int .i64 (n : Int)))) := Lib.hid (HV4.out.set hv1 (by omega) (by rw [manyAt_len]) (by exact celFlat_set4 _ _ _))
      have hol : (manyAt k n out).length ≤ 2048 := by rw [manyAt_len]; exact hout
      obtain ⟨n6, hn6⟩ : ∃ n6, out.length = n6 := ⟨_, rfl⟩
      rw [hn6] at hv1
      have q10 : (k : Int) < (n6 : Int) := by omega
      have q11 : (k : Int).toNat = k := by omega
      have q12 : (0 : Int) ≤ (k : Int) := by omega
      have q13 : k < n6 := by omega
      clear ck0 ck2 ck3 hz4 hn6 hfz
      subst hv1
      go_wp2_with fail
      go_end0
      rw [← HZ.out]
      exact ⟨rfl, hol, _, HV5.out⟩
    | none =>
      have HQ1 : Hid (finJ k (match (if n = 0 then some l1 else (tkJ [44] l1).map blJ) with | none => .error 40 | some l1 => itemE (valJ d) false g n nm out l1) = Z) := Lib.hid (by have := HQ.out; rw [items_go (valJ d) false g n nm l1 out ht] at this; exact this)
      go_wp2_with fail
      refine (is_no (what := ⟨#[93]⟩) ht _ HI.out.vp.st).mono ?_; rintro x w3 ⟨rfl, hst, hk3⟩
      have HI3 := Lib.hid (HI.out.rk hst hk3)
      clear hst hk3 ht HQ
      by_cases hn0 : n = 0
      · obtain ⟨l2, hl2e⟩ : ∃ l2, l1 = l2 := ⟨_, rfl⟩
        have hl2 : l2.length ≤ 16384 := by rw [← hl2e]; omega
        have hl21 : l2.length ≤ l1.length := by rw [hl2e]; exact Nat.le_refl _
        have hv2 : validD l2 = true := by rw [← hl2e]; exact HV.out
        have HQ2 : Hid (finJ k (itemE (valJ d) false g n nm out l2) = Z) := Lib.hid (by have := HQ1.out; rw [if_pos hn0] at this; rw [← hl2e]; exact this)
        rw [hl2e] at HI3
        have t0 : decide ((0 : Int) < (n : Int)) = false := decide_eq_false (by omega)
        have t0n : ¬ 0 < n := by omega
        clear hn0 hl2e
        clear HQ1
        go_wp2_with fail
        have HI4 := HI3
        have hl3 := Nat.le_refl l2.length
        obtain ⟨l3, hl3e⟩ : ∃ l3, l2 = l3 := ⟨_, rfl⟩
        subst hl3e
        have hv3 := hv2
        have HQ3 : Hid (finJ k (match valJ d [] l2 out with | .error e => .error e | .ok (l3, out2) => itemsJ (valJ d) false g (n + 1) nm (blJ l3) out2) = Z) := Lib.hid (by have := HQ2.out; simp only [itemE, Bool.false_eq_true, if_false] at this; exact this)
        refine (p_none _ _ _).mono ?_; rintro x wa ⟨rfl, rfl⟩
        have HIA := HI4
        go_wp2_with fail
        have HVA := Lib.hid (HVL.out [] l2 out v1 _ (by omega) hv3 HIA.out.vp.st HIA.out.vp.own hout (HEE.out.to HIA.out.vp.vk.1))
        cases hx : valJ d [] l2 out with
        | error e =>
          have HZ : Hid (.error e = Z) := Lib.hid (by have := HQ3.out; rw [hx] at this; exact this)
          rw [hx] at HVA
          clear hx
          refine HVA.out.mono ?_; rintro x wb hvx
          obtain ⟨hxe, hbb⟩ := hvx.err
          have HBB := Lib.hid (HIA.out.vp.vk.1.trans hbb)
          clear hvx hbb
          subst hxe
          go_wp2_with fail
          refine ⟨rfl, ?_⟩
          rw [← HZ.out]
          exact ⟨rfl, HBB.out⟩
        | ok y =>
          obtain ⟨l4, out2⟩ := y
          obtain ⟨k1, k2, new, k3, k4⟩ := cut_val d _ _ _ _ _ hv3 hx
          have hol : out.length ≤ out2.length := by rw [k3]; simp
          have hb4 := (cut_bl l4).1
          have hv5 : validD (blJ l4) = true := (cut_bl l4).2 (k1.2 hv3)
          have HQ4 : Hid (finJ k (itemsJ (valJ d) false g (n + 1) nm (blJ l4) out2) = Z) := Lib.hid (by have := HQ3.out; rw [hx] at this; exact this)
          rw [hx] at HVA
          clear hx k1 k3 k4
          refine HVA.out.mono ?_; rintro x wb hvx
          obtain ⟨hxe, ho2, v2, hvp⟩ := hvx.ok_
          have HIB := Lib.hid (HIA.out.val hvp)
          clear hvx hvp
          subst hxe
          go_wp2_with fail
          refine (p_blanks p l4 v2 (op + 1) _ HIB.out.vp.st).mono ?_; rintro x wc ⟨rfl, hst, hk⟩
          have HIC := Lib.hid (HIB.out.rk hst hk)
          clear hst hk
          have hn1 : IntKind.i64.wrap ((n : Int) + 1) = ((n + 1 : Nat) : Int) := by rw [IntWalk.i64_in _ (by omega)]; omega
          go_wp2_with fail
          go_roundg g
          case measure => omega
          case rel => exact ⟨n + 1, blJ l4, nm, out2, v2, by first | rfl | go_num, by omega, by omega, by omega, ho2, by omega, Lib.hid hv5, HIC, HQ4⟩
      · have t0 : decide ((0 : Int) < (n : Int)) = true := decide_eq_true (by omega)
        rw [if_neg hn0] at HQ1
        cases hc : tkJ [44] l1 with
        | none =>
          have HZ : Hid (.error 40 = Z) := Lib.hid (by have := HQ1.out; rw [hc] at this; exact this)
          go_wp2_with fail
          refine (must_no (what := ⟨#[44]⟩) hc _ HI3.out.vp.st).mono ?_; rintro x w4 ⟨rfl, hb⟩
          have HB4 := Lib.hid (HI3.out.vp.vk.1.trans hb)
          clear hb hc
          go_wp2_with fail
          refine ⟨rfl, ?_⟩
          rw [← HZ.out]
          exact ⟨rfl, HB4.out⟩
        | some r =>
          have hcr := cut_tk _ _ _ (by decide) hc
          have HQ2 : Hid (finJ k (itemE (valJ d) false g n nm out (blJ r)) = Z) := Lib.hid (by have := HQ1.out; rw [hc] at this; exact this)
          have hb1 := (cut_bl r).1
          have hl21 : (blJ r).length ≤ l1.length := Nat.le_trans hb1 hcr.1.1
          have hv2 : validD (blJ r) = true := (cut_bl r).2 (hcr.1.2 HV.out)
          go_wp2_with fail
          refine (must_ok (what := ⟨#[44]⟩) hc _ HI3.out.vp.st).mono ?_; rintro x w4 ⟨rfl, hst, hk4⟩
          have HI5 := Lib.hid (HI3.out.rk hst hk4)
          clear hst hk4 hc hcr HQ1
          go_wp2_with fail
          refine (p_blanks p r _ (op + 1) _ HI5.out.vp.st).mono ?_; rintro x w5 ⟨rfl, hst, hk5⟩
          have HI4 := Lib.hid (HI5.out.rk hst hk5)
          clear hst hk5
          obtain ⟨l2, hl2e⟩ : ∃ l2, blJ r = l2 := ⟨_, rfl⟩
          rw [hl2e] at HI4 HQ2 hl21 hv2
          have hl2 : l2.length ≤ 16384 := by omega
          clear hl2e hb1
          go_wp2_with fail
          have hl3 := Nat.le_refl l2.length
          obtain ⟨l3, hl3e⟩ : ∃ l3, l2 = l3 := ⟨_, rfl⟩
          subst hl3e
          have hv3 := hv2
          have HQ3 : Hid (finJ k (match valJ d [] l2 out with | .error e => .error e | .ok (l3, out2) => itemsJ (valJ d) false g (n + 1) nm (blJ l3) out2) = Z) := Lib.hid (by have := HQ2.out; simp only [itemE, Bool.false_eq_true, if_false] at this; exact this)
          refine (p_none _ _ _).mono ?_; rintro x wa ⟨rfl, rfl⟩
          have HIA := HI4
          go_wp2_with fail
          have HVA := Lib.hid (HVL.out [] l2 out v1 _ (by omega) hv3 HIA.out.vp.st HIA.out.vp.own hout (HEE.out.to HIA.out.vp.vk.1))
          cases hx : valJ d [] l2 out with
          | error e =>
            have HZ : Hid (.error e = Z) := Lib.hid (by have := HQ3.out; rw [hx] at this; exact this)
            rw [hx] at HVA
            clear hx
            refine HVA.out.mono ?_; rintro x wb hvx
            obtain ⟨hxe, hbb⟩ := hvx.err
            have HBB := Lib.hid (HIA.out.vp.vk.1.trans hbb)
            clear hvx hbb
            subst hxe
            go_wp2_with fail
            refine ⟨rfl, ?_⟩
            rw [← HZ.out]
            exact ⟨rfl, HBB.out⟩
          | ok y =>
            obtain ⟨l4, out2⟩ := y
            obtain ⟨k1, k2, new, k3, k4⟩ := cut_val d _ _ _ _ _ hv3 hx
            have hol : out.length ≤ out2.length := by rw [k3]; simp
            have hb4 := (cut_bl l4).1
            have hv5 : validD (blJ l4) = true := (cut_bl l4).2 (k1.2 hv3)
            have HQ4 : Hid (finJ k (itemsJ (valJ d) false g (n + 1) nm (blJ l4) out2) = Z) := Lib.hid (by have := HQ3.out; rw [hx] at this; exact this)
            rw [hx] at HVA
            clear hx k1 k3 k4
            refine HVA.out.mono ?_; rintro x wb hvx
            obtain ⟨hxe, ho2, v2, hvp⟩ := hvx.ok_
            have HIB := Lib.hid (HIA.out.val hvp)
            clear hvx hvp
            subst hxe
            go_wp2_with fail
            refine (p_blanks p l4 v2 (op + 1) _ HIB.out.vp.st).mono ?_; rintro x wc ⟨rfl, hst, hk⟩
            have HIC := Lib.hid (HIB.out.rk hst hk)
            clear hst hk
            have hn1 : IntKind.i64.wrap ((n : Int) + 1) = ((n + 1 : Nat) : Int) := by rw [IntWalk.i64_in _ (by omega)]; omega
            go_wp2_with fail
            go_roundg g
            case measure => omega
            case rel => exact ⟨n + 1, blJ l4, nm, out2, v2, by first | rfl | go_num, by omega, by omega, by omega, ho2, by omega, Lib.hid hv5, HIC, HQ4⟩
theorem p_ito (d : Nat) (hval : ∀ e, d = e + 1 → PValSpec e) : PItO d := by
  intro p op v L l W hop h0 hl hv h hown hL1 hL hE
  cases d with
  | zero => exact p_items_obj_0 p op v L l W hop hl h hown hL1 hL
  | succ d => exact p_items_obj d (hval d rfl) p op v L l W hop h0 hl hv h hown hL1 hL hE
theorem p_itl (d : Nat) (hval : ∀ e, d = e + 1 → PValSpec e) : PItL d := by
  intro p op v L l W hop h0 hl hv h hown hL1 hL hE
  cases d with
  | zero => exact p_items_list_0 p op v L l W hop hl h hown hL1 hL
  | succ d => exact p_items_list d (hval d rfl) p op v L l W hop h0 hl hv h hown hL1 hL hE
theorem p_value_any : ∀ d : Nat, PValSpec d
  | 0 => p_value_step 0 (p_ito 0 fun e h => by omega) (p_itl 0 fun e h => by omega)
  | d + 1 => p_value_step (d + 1) (p_ito (d + 1) fun e h => by
    have : e = d := by omega
    subst this
    exact p_value_any e) (p_itl (d + 1) fun e h => by
    have : e = d := by omega
    subst this
    exact p_value_any e)
end Go.Proofs.YtgclnjogoghhcaaGreatDoor
namespace Go.Proofs.YtgclnjogoghhcaaGreatDoor
open Go.RowKit Go.Lib
/-- What Read tells: of any bytes. -/
def rdJ (l : List UInt8) : Except Int (List Cel) := if chkE l = 0 then readJ l else .error (chkE l)
theorem chk_valid (l : List UInt8) (h : chkE l = 0) : l.length ≤ 16384 ∧ validD l = true := by
  unfold chkE at h
  split at h
  · cases h
  · split at h
    · exact ⟨by omega, by assumption⟩
    · cases h
end Go.Proofs.YtgclnjogoghhcaaGreatDoor
namespace Go.Proofs.YtgclnjogoghhcaaGreatDoor
open Go.RowKit Go.Lib
theorem catch_idle (q2 q3 : Addr) (w : World) :
    CallsD Tryz.prog 84 #[.pointer (some q2), .pointer (some q3)] .returning w fun e u' w' => e = .returned (.tuple #[]) ∧ u' = .returning ∧ w' = w := by
  refine callsD_of_wpS Tryz.func84 rfl fun c₀ cs hu => ?_
  apply wpS_seq
  apply wpS_region
  simp [wpOpsS, go_sem, recoverD, hu, Tryz.ntmps84, Exit.thenS]
  refine wpS_of_wp ?_
  simp only [List.replicate_succ, List.replicate_zero, Array.replicate, List.setIfInBounds_toArray, List.set_cons_zero, List.set_cons_succ, List.append_toArray, List.cons_append, List.nil_append]
  go_wp2_with fail
  cases c₀
  simp_all [bodyPostS, results, Tryz.results84]
set_option maxRecDepth 100000 in
theorem catch_panicking (b2 b3 : Nat) (x2 : Value) (x3 e : Int) (older : List PanicEntry) (w : World) (hne : b2 ≠ b3) (h2 : w.cell? ⟨b2, 0, none⟩ = some x2) (h3 : w.cell? ⟨b3, 0, none⟩ = some (.int .i64 x3)) (z2 : w.frozen? ⟨b2, 0, none⟩ = false) (z3 : w.frozen? ⟨b3, 0, none⟩ = false) :
    CallsD Tryz.prog 84 #[.pointer (some ⟨b2, 0, none⟩), .pointer (some ⟨b3, 0, none⟩)] (.panicking ({ v := .iface 126 (.agg #[.int .i64 e]), recovered := false } :: older)) w fun e' u' w' =>
      e' = .returned (.tuple #[]) ∧ u' = .panicking ({ v := .iface 126 (.agg #[.int .i64 e]), recovered := true } :: older) ∧ w'.cell? ⟨b2, 0, none⟩ = some (.slice none 0 0) ∧ w'.cell? ⟨b3, 0, none⟩ = some (.int .i64 e) ∧ ∀ B, B ≤ b2 → B ≤ b3 → B ≤ w.heap.size → Below B w w' := by
  have hta : ∀ w, (Instr.typeAssert (.iface 126 (.agg #[.int .i64 e])) 20 126 true).run Tryz.prog w = .ok (.tuple #[.agg #[.int .i64 e], .bool true]) w := fun w => by kernel_rfl
  refine callsD_of_wpS Tryz.func84 rfl fun c₀ cs hu => ?_
  apply wpS_seq
  apply wpS_region
  simp [wpOpsS, go_sem, recoverD, hu, Tryz.ntmps84, Exit.thenS]
  refine wpS_of_wp ?_
  simp only [List.replicate_succ, List.replicate_zero, Array.replicate, List.setIfInBounds_toArray, List.set_cons_zero, List.set_cons_succ, List.append_toArray, List.cons_append, List.nil_append]
  go_wp2_with fail
  have l2 := lt_of_cell h2
  have l3 := lt_of_cell h3
  obtain ⟨n, hn⟩ : ∃ n, w.heap.size = n := ⟨_, rfl⟩
  obtain ⟨w1, hw1⟩ : ∃ w1, w.alloc (.cells #[.int .i64 e] 126) = w1 := ⟨_, rfl⟩
  have g0 : w1.cell? ⟨n, 0, none⟩ = some (.int .i64 e) := by rw [← hw1, ← hn]; exact new_cell0 w _ _
  have g2 : w1.cell? ⟨b2, 0, none⟩ = some x2 := by rw [← hw1, World.cell?_alloc_lt _ _ _ l2]; exact h2
  have g3 : w1.cell? ⟨b3, 0, none⟩ = some (.int .i64 x3) := by rw [← hw1, World.cell?_alloc_lt _ _ _ l3]; exact h3
  have y2 : w1.frozen? ⟨b2, 0, none⟩ = false := by rw [← hw1]; exact (((Below.refl w.heap.size w).alloc (Nat.le_refl _) _).frozen l2).trans z2
  have y3 : w1.frozen? ⟨b3, 0, none⟩ = false := by rw [← hw1]; exact (((Below.refl w.heap.size w).alloc (Nat.le_refl _) _).frozen l3).trans z3
  have n2 : ¬ b2 = n := by omega
  have n3 : ¬ b3 = n := by omega
  have k0 : ∀ u, (w1.setCell ⟨b2, 0, none⟩ u).cell? ⟨n, 0, none⟩ = some (.int .i64 e) := fun u => by
    rw [World.cell?_setCell_other _ _ _ _ (by intro h; injection h with h; exact n2 h)]; exact g0
  have k3 : ∀ u, (w1.setCell ⟨b2, 0, none⟩ u).cell? ⟨b3, 0, none⟩ = some (.int .i64 x3) := fun u => by
    rw [World.cell?_setCell_other _ _ _ _ (by intro h; injection h with h; omega)]; exact g3
  have hb1 : Below n w w1 := by rw [← hw1, ← hn]; exact (Below.refl _ _).alloc (Nat.le_refl _) _
  rw [hn, hw1]
  have HFIN : Hid (∀ wf, wf = ((w1.setCell ⟨b2, 0, none⟩ (.slice none 0 0)).setCell ⟨b3, 0, none⟩ (.int .i64 e)).drew → wf.cell? ⟨b2, 0, none⟩ = some (.slice none 0 0) ∧ wf.cell? ⟨b3, 0, none⟩ = some (.int .i64 e) ∧ ∀ B, B ≤ b2 → B ≤ b3 → B ≤ w.heap.size → Below B w wf) := Lib.hid (by
    rintro wf rfl
    refine ⟨?_, ?_, fun B p2 p3 p1 => ?_⟩
    · show ((w1.setCell ⟨b2, 0, none⟩ (.slice none 0 0)).setCell ⟨b3, 0, none⟩ (.int .i64 e)).cell? ⟨b2, 0, none⟩ = _
      rw [World.cell?_setCell_other _ _ _ _ (by intro h; injection h with h; omega)]
      exact World.cell?_setCell_same _ _ _ g2
    · show ((w1.setCell ⟨b2, 0, none⟩ (.slice none 0 0)).setCell ⟨b3, 0, none⟩ (.int .i64 e)).cell? ⟨b3, 0, none⟩ = _
      exact World.cell?_setCell_same _ _ _ (k3 _)
    · have h0 : Below B w w1 := hb1.mono (by omega)
      exact ((h0.setCell (p := ⟨b2, 0, none⟩) p2 _).setCell (p := ⟨b3, 0, none⟩) p3 _).drew)
  clear hn hw1 h2 h3 z2 z3 l2 l3 n2 n3 hb1
  go_region
  clear g0 g2 g3 y2 y3 k0 k3 hta
  go_wp2_with fail
  cases c₀
  simp only at hu
  subst hu
  simp [bodyPostS, results, Tryz.results84]
  exact HFIN.out _ rfl
/-- What Read tells: of any bytes. -/
def PReadE (B : Nat) (o : Except Int (List Cel)) (x : Ending) (W : World) : Prop := match o with
  | .error e => x = .returned (.tuple #[.slice none 0 0, .int .i64 e])
  | .ok out => out.length ≤ 2048 ∧ ∃ u, x = .returned (.tuple #[u, .int .i64 0]) ∧ OwnC B u out W
theorem OwnC.less {B B' : Nat} {v : Value} {L : List Cel} {W : World} (h : OwnC B v L W) (hB : B' ≤ B) : OwnC B' v L W := by
  obtain ⟨h1, h2⟩ := h
  refine ⟨h1, ?_⟩
  rcases h2 with h2 | ⟨g, cap, cur, hv, hg, hrest⟩
  · exact Or.inl h2
  · exact Or.inr ⟨g, cap, cur, hv, by omega, hrest⟩
set_option maxRecDepth 100000 in
theorem pread_chk (s : ByteArray) (hs : s.size ≤ 1000000) (hc : chkE s.data.toList ≠ 0) (w : World) (hE : EnvU w) :
    Calls Tryz.prog 83 #[.string s] w fun x w' => PReadE (w.heap.size + 1) (rdJ s.data.toList) x w' ∧ Below w.heap.size w w' := by
  have HC := Lib.hid (fun (W : World) (h : Below w.heap.size w W) => tcheck_any s (by omega) W (hE.below h))
  have HZ : Hid (rdJ s.data.toList = .error (chkE s.data.toList)) := Lib.hid (by unfold rdJ; rw [if_neg hc])
  obtain ⟨e, he⟩ : ∃ e, chkE s.data.toList = e := ⟨_, rfl⟩
  rw [he] at HC hc HZ
  have te : (e != 0) = true := by simpa using hc
  have hmf : ∀ (fn : Fn) (first cap : Array Value) (w : World), (Instr.makeFunc fn first cap).run Tryz.prog w = .ok (.func fn first cap) w := fun _ _ _ _ => rfl
  rw [HZ.out]
  clear he hE hc
  go_enter_defers Tryz.func83, Tryz.ntmps83
  go_wp2_with fail
  obtain ⟨w0, hw0⟩ : ∃ w0, ((w.alloc (.cells #[.slice none 0 0] 120)).alloc (.cells #[.int .i64 0] 23)) = w0 := ⟨_, rfl⟩
  have hb0 : Below w.heap.size w w0 := by rw [← hw0]; exact ((Below.refl _ _).alloc (Nat.le_refl _) _).alloc (by simp) _
  have hz0 : w0.heap.size = w.heap.size + 2 := by rw [← hw0]; simp
  have ha0 : w0.heap[w.heap.size]? = some (.cells #[.slice none 0 0] 120 (0, 0)) := by rw [← hw0]; exact heap_old (heap_new _ _ _ rfl)
  have ha1 : w0.heap[w.heap.size + 1]? = some (.cells #[.int .i64 0] 23 (0, 0)) := by rw [← hw0]; exact heap_new _ _ _ (by simp)
  rw [hw0]
  refine (HC.out _ hb0).mono ?_; rintro x w1 ⟨rfl, hb⟩
  have HB1 : Hid (Below w.heap.size w w1) := Lib.hid (hb0.trans (hb.mono (by omega)))
  have HA0 : Hid (w1.heap[w.heap.size]? = some (.cells #[.slice none 0 0] 120 (0, 0))) := Lib.hid ((hb.block _ (by omega)).trans ha0)
  have HA1 : Hid (w1.heap[w.heap.size + 1]? = some (.cells #[.int .i64 0] 23 (0, 0))) := Lib.hid ((hb.block _ (by omega)).trans ha1)
  clear hb0 hb ha0 ha1 hw0 hz0
  have d0 : w1.cell? ⟨w.heap.size, 0, none⟩ = some (.slice none 0 0) := Lib.cell_of_heap HA0.out 0
  have d1 : w1.cell? ⟨w.heap.size + 1, 0, none⟩ = some (.int .i64 0) := Lib.cell_of_heap HA1.out 0
  have z0 : w1.frozen? ⟨w.heap.size, 0, none⟩ = false := Lib.frozen_of_heap HA0.out 0
  have z1 : w1.frozen? ⟨w.heap.size + 1, 0, none⟩ = false := Lib.frozen_of_heap HA1.out 0
  have hlt : w.heap.size + 1 < w1.heap.size := heap_lt HA1.out
  have s0 := RK.set w.heap.size 0 w1 (.slice none 0 0)
  have HF : Hid (Below w.heap.size w ((w1.setCell ⟨w.heap.size, 0, none⟩ (.slice none 0 0)).setCell ⟨w.heap.size + 1, 0, none⟩ (.int .i64 e))) := Lib.hid ((HB1.out.setCell (p := ⟨w.heap.size, 0, none⟩) (Nat.le_refl _) _).setCell (p := ⟨w.heap.size + 1, 0, none⟩) (by show w.heap.size ≤ w.heap.size + 1; omega) _)
  clear s0
  go_wp2_with fail
  simp [bodyPostD, Leaves, settle, results, Tryz.results83, go_sem, d0, d1, z0, z1]
  exact ⟨rfl, HF.out⟩
set_option maxRecDepth 100000 in
theorem pread_go (s : ByteArray) (hs : s.size ≤ 17000) (hc : chkE s.data.toList = 0) (w : World) (hE : EnvU w) (hE2 : Env w) :
    Calls Tryz.prog 83 #[.string s] w fun x w' => PReadE (w.heap.size + 1) (rdJ s.data.toList) x w' ∧ Below w.heap.size w w' := by
  have HC := Lib.hid (fun (W : World) (h : Below w.heap.size w W) => tcheck_any s (by omega) W (hE.below h))
  obtain ⟨hl16, hvd⟩ := chk_valid _ hc
  have HRJ : Hid (rdJ s.data.toList = readJ s.data.toList) := Lib.hid (by unfold rdJ; rw [if_pos hc])
  rw [hc] at HC
  have HEB : Hid (∀ p W, w.heap.size ≤ p → Below w.heap.size w W → EnvB p W) := Lib.hid fun p W hp hW W' hW' => ⟨hE.below (hW.trans (hW'.mono hp)), hE2.below (hW.trans (hW'.mono hp)) (Nat.le_refl _)⟩
  have hmf : ∀ (fn : Fn) (first cap : Array Value) (w : World), (Instr.makeFunc fn first cap).run Tryz.prog w = .ok (.func fn first cap) w := fun _ _ _ _ => rfl
  rw [HRJ.out]
  obtain ⟨R, hR⟩ : ∃ R, readJ s.data.toList = R := ⟨_, rfl⟩
  have HR := Lib.hid hR
  rw [hR]
  clear hE hE2 hc hR
  go_enter_defers Tryz.func83, Tryz.ntmps83
  go_wp2_with fail
  obtain ⟨w0, hw0⟩ : ∃ w0, ((w.alloc (.cells #[.slice none 0 0] 120)).alloc (.cells #[.int .i64 0] 23)) = w0 := ⟨_, rfl⟩
  have hb0 : Below w.heap.size w w0 := by rw [← hw0]; exact ((Below.refl _ _).alloc (Nat.le_refl _) _).alloc (by simp) _
  have hz0 : w0.heap.size = w.heap.size + 2 := by rw [← hw0]; simp
  have ha0 : w0.heap[w.heap.size]? = some (.cells #[.slice none 0 0] 120 (0, 0)) := by rw [← hw0]; exact heap_old (heap_new _ _ _ rfl)
  have ha1 : w0.heap[w.heap.size + 1]? = some (.cells #[.int .i64 0] 23 (0, 0)) := by rw [← hw0]; exact heap_new _ _ _ (by simp)
  rw [hw0]
  refine (HC.out _ hb0).mono ?_; rintro x w1 ⟨rfl, hb⟩
  have HB1 : Hid (Below w.heap.size w w1) := Lib.hid (hb0.trans (hb.mono (by omega)))
  have HA0 : Hid (w1.heap[w.heap.size]? = some (.cells #[.slice none 0 0] 120 (0, 0))) := Lib.hid ((hb.block _ (by omega)).trans ha0)
  have HA1 : Hid (w1.heap[w.heap.size + 1]? = some (.cells #[.int .i64 0] 23 (0, 0))) := Lib.hid ((hb.block _ (by omega)).trans ha1)
  clear hb0 hb ha0 ha1 hw0 hz0
  have d0 : w1.cell? ⟨w.heap.size, 0, none⟩ = some (.slice none 0 0) := Lib.cell_of_heap HA0.out 0
  have d1 : w1.cell? ⟨w.heap.size + 1, 0, none⟩ = some (.int .i64 0) := Lib.cell_of_heap HA1.out 0
  have z0 : w1.frozen? ⟨w.heap.size, 0, none⟩ = false := Lib.frozen_of_heap HA0.out 0
  have z1 : w1.frozen? ⟨w.heap.size + 1, 0, none⟩ = false := Lib.frozen_of_heap HA1.out 0
  have hlt : w.heap.size + 1 < w1.heap.size := heap_lt HA1.out
  have HPS : Hid (PS w1.heap.size s.data.toList (.slice none 0 0) 0 (w1.alloc (.cells #[.string s, .slice none 0 0, .int .i64 0] 129))) := Lib.hid ⟨s, rfl, heap_alloc_new _ _⟩
  obtain ⟨p, hp⟩ : ∃ p, w1.heap.size = p := ⟨_, rfl⟩
  obtain ⟨w2, hw2⟩ : ∃ w2, w1.alloc (.cells #[.string s, .slice none 0 0, .int .i64 0] 129) = w2 := ⟨_, rfl⟩
  have hb2 : Below p w1 w2 := by rw [← hw2, ← hp]; exact (Below.refl _ _).alloc (Nat.le_refl _) _
  rw [hp, hw2] at HPS
  rw [hp] at hlt
  have HB2 : Hid (Below w.heap.size w w2) := Lib.hid (HB1.out.trans (hb2.mono (by omega)))
  have HV := Lib.hid (p_value_any 16 p ⟨#[]⟩ 0 (.slice none 0 0) [] s.data.toList w2 (by decide) (by decide) hl16 hvd HPS.out (OwnC.nil _ _) (by decide) (HEB.out p w2 (by omega) HB2.out))
  have HH0 : Hid (∀ W, Below p w2 W → W.heap[w.heap.size]? = some (.cells #[.slice none 0 0] 120 (0, 0)) ∧ W.heap[w.heap.size + 1]? = some (.cells #[.int .i64 0] 23 (0, 0))) := Lib.hid fun W hW =>
    ⟨(hW.block _ (by omega)).trans ((hb2.block _ (by omega)).trans HA0.out), (hW.block _ (by omega)).trans ((hb2.block _ (by omega)).trans HA1.out)⟩
  rw [show (⟨#[]⟩ : ByteArray).data.toList = [] from rfl] at HV
  clear hb2 d0 d1 z0 z1 HA0 HA1 hvd hl16
  go_wp2_with fail
  cases hv : valJ 16 [] s.data.toList [] with
  | error e =>
    have HZ : Hid (R = .error e) := Lib.hid (by rw [← HR.out]; unfold readJ; rw [hv])
    rw [hv] at HV
    clear hv
    refine HV.out.mono ?_; rintro x w3 hx
    obtain ⟨hxe, hb3⟩ := hx.err
    have HZA := Lib.hid (HH0.out w3 hb3)
    have HBZ : Hid (Below w.heap.size w w3) := Lib.hid (HB2.out.trans (hb3.mono (by omega)))
    clear hx hb3
    subst hxe
    go_wp2_with fail
    refine leaves_cons (f := 84) (args := #[.pointer (some ⟨w.heap.size, 0, none⟩), .pointer (some ⟨w.heap.size + 1, 0, none⟩)]) (by simp) (by simp [go_sem]) ?_
    refine (catch_panicking w.heap.size (w.heap.size + 1) (.slice none 0 0) 0 e [] _ (by omega) (Lib.cell_of_heap HZA.out.1 0) (Lib.cell_of_heap HZA.out.2 0) (Lib.frozen_of_heap HZA.out.1 0) (Lib.frozen_of_heap HZA.out.2 0)).mono ?_
    rintro x u wf ⟨rfl, rfl, m0, m1, hbf⟩
    have HBF : Hid (Below w.heap.size w wf) := Lib.hid (HBZ.out.trans (hbf _ (Nat.le_refl _) (by omega) HBZ.out.size))
    clear hbf
    simp [Leaves, settle, results, Tryz.results83, go_sem, m0, m1]
    rw [HZ.out]
    exact ⟨rfl, HBF.out⟩
  | ok y =>
    obtain ⟨t, out⟩ := y
    have HRD : Hid (R = if (blJ t).isEmpty then .ok out else .error 40) := Lib.hid (by rw [← HR.out]; unfold readJ; rw [hv])
    rw [hv] at HV
    clear hv
    refine HV.out.mono ?_; rintro x w3 hx
    obtain ⟨hxe, hol, v3, hvp⟩ := hx.ok_
    have HV3 := Lib.hid hvp
    clear hx hvp
    subst hxe
    go_wp2_with fail
    refine (p_blanks p t v3 0 _ HV3.out.st).mono ?_; rintro x w4 ⟨rfl, hst, hk⟩
    have HV4 := Lib.hid (HV3.out.rk hst hk)
    clear hst hk
    have HZA := Lib.hid (HH0.out w4 HV4.out.vk.1)
    have HBZ : Hid (Below w.heap.size w w4) := Lib.hid (HB2.out.trans (HV4.out.vk.1.mono (by omega)))
    obtain ⟨b, hbl, hr⟩ := HV4.out.st
    obtain ⟨c0, c1, c2⟩ := hr.cells
    clear hr
    cases hbt : blJ t with
    | cons c r =>
      rw [hbt] at hbl HRD
      have HZ : Hid (R = .error 40) := Lib.hid (by rw [HRD.out]; rfl)
      obtain ⟨hb1, hb2, hb3, hb4, -⟩ := tl_cons hbl
      clear hbt hbl
      go_wp2_with fail
      refine (p_no 40 _).mono ?_; rintro x w5 ⟨rfl, rfl⟩
      go_wp2_with fail
      refine leaves_cons (f := 84) (args := #[.pointer (some ⟨w.heap.size, 0, none⟩), .pointer (some ⟨w.heap.size + 1, 0, none⟩)]) (by simp) (by simp [go_sem]) ?_
      refine (catch_panicking w.heap.size (w.heap.size + 1) (.slice none 0 0) 0 40 [] _ (by omega) (Lib.cell_of_heap HZA.out.1 0) (Lib.cell_of_heap HZA.out.2 0) (Lib.frozen_of_heap HZA.out.1 0) (Lib.frozen_of_heap HZA.out.2 0)).mono ?_
      rintro x u wf ⟨rfl, rfl, m0, m1, hbf⟩
      have HBF : Hid (Below w.heap.size w wf) := Lib.hid (HBZ.out.trans (hbf _ (Nat.le_refl _) (by omega) HBZ.out.size))
      clear hbf
      simp [Leaves, settle, results, Tryz.results83, go_sem, m0, m1]
      rw [HZ.out]
      exact ⟨rfl, HBF.out⟩
    | nil =>
      rw [hbt] at hbl HRD
      have HZ : Hid (R = .ok out) := Lib.hid (by rw [HRD.out]; rfl)
      have hbe : b = ByteArray.empty := by
        apply ByteArray.ext; apply Array.toList_inj.1; rw [hbl]; rfl
      subst hbe
      have d0 : w4.cell? ⟨w.heap.size, 0, none⟩ = some (.slice none 0 0) := Lib.cell_of_heap HZA.out.1 0
      have d1 : w4.cell? ⟨w.heap.size + 1, 0, none⟩ = some (.int .i64 0) := Lib.cell_of_heap HZA.out.2 0
      have z0 : w4.frozen? ⟨w.heap.size, 0, none⟩ = false := Lib.frozen_of_heap HZA.out.1 0
      have z1 : w4.frozen? ⟨w.heap.size + 1, 0, none⟩ = false := Lib.frozen_of_heap HZA.out.2 0
      have HF : Hid (Below w.heap.size w ((w4.setCell ⟨w.heap.size, 0, none⟩ v3).setCell ⟨w.heap.size + 1, 0, none⟩ (.int .i64 0))) := Lib.hid ((HBZ.out.setCell (p := ⟨w.heap.size, 0, none⟩) (Nat.le_refl _) _).setCell (p := ⟨w.heap.size + 1, 0, none⟩) (by show w.heap.size ≤ w.heap.size + 1; omega) _)
      have HO : Hid (OwnC (w.heap.size + 1) v3 out ((w4.setCell ⟨w.heap.size, 0, none⟩ v3).setCell ⟨w.heap.size + 1, 0, none⟩ (.int .i64 0))) := Lib.hid (((HV4.out.own.rk (RK.set w.heap.size 0 _ _) (by omega)).rk (RK.set (w.heap.size + 1) 0 _ _) (by omega)).less (by omega))
      have hvl : ∃ a n c, v3 = .slice a n c := by
        rcases HV4.out.own.2 with ⟨h1, h2⟩ | ⟨g, cap, cur, h1, _⟩
        · exact ⟨none, 0, 0, h1⟩
        · exact ⟨_, _, _, h1⟩
      obtain ⟨av, nv, cv, rfl⟩ := hvl
      clear hbt hbl
      go_wp2_with fail
      refine leaves_cons (f := 84) (args := #[.pointer (some ⟨w.heap.size, 0, none⟩), .pointer (some ⟨w.heap.size + 1, 0, none⟩)]) (by simp) (by simp [go_sem]) ?_
      refine (catch_idle ⟨w.heap.size, 0, none⟩ ⟨w.heap.size + 1, 0, none⟩ _).mono ?_
      rintro x u wf ⟨rfl, rfl, rfl⟩
      simp [Leaves, settle, results, Tryz.results83, go_sem, d0, d1, z0, z1]
      rw [HZ.out]
      exact ⟨⟨hol, _, rfl, HO.out⟩, HF.out⟩
theorem pread_any (s : ByteArray) (hs : s.size ≤ 17000) (w : World) (hE : EnvU w) (hE2 : Env w) :
    Calls Tryz.prog 83 #[.string s] w fun x w' => PReadE (w.heap.size + 1) (rdJ s.data.toList) x w' ∧ Below w.heap.size w w' := by
  by_cases hc : chkE s.data.toList = 0
  · exact pread_go s hs hc w hE hE2
  · exact pread_chk s (by omega) hc w hE
end Go.Proofs.YtgclnjogoghhcaaGreatDoor
namespace Go.Proofs.YtgclnjogoghhcaaGreatDoor
open Go.RowKit
def rdErr (o : Except Int (List Cel)) : Int := match o with | .error e => e | .ok _ => 0
def rdOut (o : Except Int (List Cel)) : List Cel := match o with | .error _ => [] | .ok l => l
theorem CelSl.nil (W : World) : CelSl (.slice none 0 0) [] W := (OwnC.nil 0 W).sl
theorem PReadE.sl {B : Nat} {o : Except Int (List Cel)} {x : Ending} {W : World} (h : PReadE B o x W) : (rdOut o).length ≤ 2048 ∧ ∃ u, x = .returned (.tuple #[u, .int .i64 (rdErr o)]) ∧ CelSl u (rdOut o) W := by
  cases o with
  | error e => exact ⟨by simp [rdOut], _, h, CelSl.nil W⟩
  | ok out => obtain ⟨h1, u, h2, h3⟩ := h; exact ⟨h1, u, h2, h3.sl⟩
theorem pread_sl (s : ByteArray) (hs : s.size ≤ 17000) (w : World) (hE : EnvU w) (hE2 : Env w) :
    Calls Tryz.prog 83 #[.string s] w fun x w' => (∃ u, x = .returned (.tuple #[u, .int .i64 (rdErr (rdJ s.data.toList))]) ∧ CelSl u (rdOut (rdJ s.data.toList)) w') ∧ Below w.heap.size w w' :=
  (pread_any s hs w hE hE2).mono fun x w' ⟨h1, h2⟩ => ⟨h1.sl.2, h2⟩
/-- What is read has 2048 cells at most. -/
theorem items_small (val : List UInt8 → List UInt8 → List Cel → Except Int (List UInt8 × List Cel)) (hv : ∀ name l out t o2, out.length ≤ 2048 → val name l out = .ok (t, o2) → o2.length ≤ 2048) (isO : Bool) : ∀ (f n : Nat) (nm : List (List UInt8)) (l : List UInt8) (out : List Cel) (k : Nat) (t : List UInt8) (o2 : List Cel), out.length ≤ 2048 → itemsJ val isO f n nm l out = .ok (k, t, o2) → o2.length ≤ 2048
  | 0, n, nm, l, out, k, t, o2, ho, h => by rw [itemsJ] at h; cases h
  | f + 1, n, nm, l, out, k, t, o2, ho, h => by
    rw [itemsJ] at h
    cases ht : tkJ [if isO then 125 else 93] l with
    | some r =>
      rw [ht] at h
      injection h with h; injection h with h1 h2; injection h2 with h2 h3
      subst h3; exact ho
    | none =>
      rw [ht] at h
      simp only at h
      cases hc : (if n = 0 then some l else (tkJ [44] l).map blJ) with
      | none => rw [hc] at h; cases h
      | some l1 =>
        rw [hc] at h
        simp only at h
        cases hm : (if isO then memJ nm l1 else .ok ([], l1)) with
        | error e => rw [hm] at h; cases h
        | ok x =>
          obtain ⟨s, l2⟩ := x
          rw [hm] at h
          simp only at h
          cases hx : val s l2 out with
          | error e => rw [hx] at h; cases h
          | ok y =>
            obtain ⟨l3, out2⟩ := y
            rw [hx] at h
            simp only at h
            exact items_small val hv isO f _ _ _ out2 k t o2 (hv _ _ _ _ _ ho hx) h
theorem val_small_step (d : Nat) (ih : ∀ e, d = e + 1 → ∀ name l out t o2, out.length ≤ 2048 → valJ e name l out = .ok (t, o2) → o2.length ≤ 2048) (name l : List UInt8) (out : List Cel) (t : List UInt8) (o2 : List Cel) (ho : out.length ≤ 2048) (h : valJ d name l out = .ok (t, o2)) : o2.length ≤ 2048 := by
  unfold valJ at h
  cases hb : blJ l with
  | nil => rw [hb] at h; simp at h
  | cons c r =>
    rw [hb] at h
    simp only at h
    split at h
    · cases h
    · split at h
      · cases h
      · rename_i hf
        split at h
        · cases d with
          | zero => simp at h
          | succ d =>
            simp only at h
            cases hi : itemsJ (valJ d) (c == 123) (r.length + 1) 0 [] (blJ r) (out ++ [⟨if c = 123 then 7 else 6, name, [], 0, 0⟩]) with
            | error e => rw [hi] at h; cases h
            | ok y =>
              obtain ⟨n, u, o3⟩ := y
              rw [hi] at h
              injection h with h; injection h with h1 h2
              subst h2
              rw [manyAt_len]
              exact items_small _ (ih d rfl) _ _ _ _ _ _ _ _ _ (by simp; omega) hi
        · have : ∃ x : Cel, o2 = out ++ [x] := by
            unfold leafJ at h
            repeat' split at h
            all_goals first
              | (cases h; done)
              | (injection h with h; injection h with h1 h2; exact ⟨_, h2.symm⟩)
          obtain ⟨x, rfl⟩ := this
          simp; omega
theorem val_small : ∀ (d : Nat) (name l : List UInt8) (out : List Cel) (t : List UInt8) (o2 : List Cel), out.length ≤ 2048 → valJ d name l out = .ok (t, o2) → o2.length ≤ 2048
  | 0 => val_small_step 0 fun e h => by omega
  | d + 1 => val_small_step (d + 1) fun e h => by
    have : e = d := by omega
    subst this
    exact val_small e
theorem rdJ_small (l : List UInt8) : (rdOut (rdJ l)).length ≤ 2048 := by
  unfold rdJ
  split
  · unfold readJ
    cases hv : valJ 16 [] l [] with
    | error e => simp [rdOut]
    | ok y =>
      obtain ⟨t, out⟩ := y
      have := val_small 16 [] l [] t out (by simp) hv
      simp only
      split
      · exact this
      · simp [rdOut]
  · simp [rdOut]
theorem ite_err {α : Type} {c : Prop} [Decidable c] {x : α} {e : Int} (h : (if c then (.error 41 : Except Int α) else .ok x) = .error e) : e ≠ 0 := by
  by_cases hc : c
  · rw [if_pos hc] at h; injection h with h; omega
  · rw [if_neg hc] at h; cases h
theorem num_err (l : List UInt8) (e : Int) (h : numJ l = .error e) : e ≠ 0 := by
  unfold numJ at h
  simp only at h
  by_cases hd : (wholeJ (body l)).isEmpty = true
  · rw [if_pos hd] at h; injection h with h; omega
  · rw [if_neg hd] at h
    exact ite_err h
theorem mem_err (nm : List (List UInt8)) (l : List UInt8) (e : Int) (h : memJ nm l = .error e) : e ≠ 0 := by
  unfold memJ at h
  repeat' split at h
  all_goals first
    | (cases h; done)
    | (injection h with h; omega)
theorem items_err (val : List UInt8 → List UInt8 → List Cel → Except Int (List UInt8 × List Cel)) (hv : ∀ name l out e, val name l out = .error e → e ≠ 0) (isO : Bool) : ∀ (f n : Nat) (nm : List (List UInt8)) (l : List UInt8) (out : List Cel) (e : Int), itemsJ val isO f n nm l out = .error e → e ≠ 0
  | 0, n, nm, l, out, e, h => by rw [itemsJ] at h; injection h with h; omega
  | f + 1, n, nm, l, out, e, h => by
    rw [itemsJ] at h
    cases ht : tkJ [if isO then 125 else 93] l with
    | some r => rw [ht] at h; cases h
    | none =>
      rw [ht] at h
      simp only at h
      cases hc : (if n = 0 then some l else (tkJ [44] l).map blJ) with
      | none => rw [hc] at h; injection h with h; omega
      | some l1 =>
        rw [hc] at h
        simp only at h
        cases hm : (if isO then memJ nm l1 else .ok ([], l1)) with
        | error e' =>
          rw [hm] at h
          injection h with h
          subst h
          cases isO with
          | true => exact mem_err nm l1 e' hm
          | false => cases hm
        | ok x =>
          obtain ⟨s, l2⟩ := x
          rw [hm] at h
          simp only at h
          cases hx : val s l2 out with
          | error e' => rw [hx] at h; injection h with h; subst h; exact hv _ _ _ _ hx
          | ok y =>
            obtain ⟨l3, out2⟩ := y
            rw [hx] at h
            simp only at h
            exact items_err val hv isO f _ _ _ out2 e h
theorem val_err_step (d : Nat) (ih : ∀ e, d = e + 1 → ∀ name l out k, valJ e name l out = .error k → k ≠ 0) (name l : List UInt8) (out : List Cel) (k : Int) (h : valJ d name l out = .error k) : k ≠ 0 := by
  unfold valJ at h
  cases hb : blJ l with
  | nil => rw [hb] at h; simp only at h; injection h with h; omega
  | cons c r =>
    rw [hb] at h
    simp only at h
    split at h
    · injection h with h; omega
    · split at h
      · injection h with h; omega
      · split at h
        · cases d with
          | zero => simp only at h; injection h with h; omega
          | succ d =>
            simp only at h
            cases hi : itemsJ (valJ d) (c == 123) (r.length + 1) 0 [] (blJ r) (out ++ [⟨if c = 123 then 7 else 6, name, [], 0, 0⟩]) with
            | error e => rw [hi] at h; injection h with h; subst h; exact items_err _ (ih d rfl) _ _ _ _ _ _ _ hi
            | ok y => rw [hi] at h; cases h
        · unfold leafJ at h
          repeat' split at h
          all_goals first
            | (cases h; done)
            | (injection h with h; omega)
            | (injection h with h; subst h; exact num_err _ _ (by assumption))
theorem val_err : ∀ (d : Nat) (name l : List UInt8) (out : List Cel) (k : Int), valJ d name l out = .error k → k ≠ 0
  | 0 => val_err_step 0 fun e h => by omega
  | d + 1 => val_err_step (d + 1) fun e h => by
    have : e = d := by omega
    subst this
    exact val_err e
theorem rdJ_err (l : List UInt8) (k : Int) (h : rdJ l = .error k) : k ≠ 0 := by
  unfold rdJ at h
  split at h
  · unfold readJ at h
    split at h
    · injection h with h; subst h
      rename_i hv
      exact val_err _ _ _ _ _ hv
    · split at h
      · cases h
      · injection h with h; omega
  · rename_i hc
    injection h with h; subst h; exact hc
end Go.Proofs.YtgclnjogoghhcaaGreatDoor
