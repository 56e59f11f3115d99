/- What scalars read, plainly, and their readers' contracts; plain at every cell. -/
import Derived.Test.YtpkkejcndmcbiaaGreatDoorIh
import Derived.Test.YtpkkejcndmcbiaaGreatDoorIk
import Derived.Test.YtpkkejcndmcbiaaGreatDoorWw
set_option linter.unusedSimpArgs false
set_option linter.unusedVariables false
namespace Go.Proofs.YtpkkejcndmcbiaaGreatDoor
open Go.RowKit Go.Shelf
set_option maxRecDepth 100000 in
set_option maxHeartbeats 4000000 in
theorem plain_many (g : Nat) (cap : Array Value) (c a : Value) (l : Bool) (ck : Int) (nm tx : ByteArray) (n m : Int) (w : World) (hm : (m != 0) = true) :
    Calls Tryz.prog 21 #[.agg #[.func (.func g) #[] cap, c, a, .bool l], .agg #[.int .u8 ck, .string nm, .string tx, .int .i64 n, .int .i64 m]] w fun e w' => e = .returned (.tuple #[.agg #[.int .u8 0, .string ⟨#[]⟩, .string ⟨#[]⟩, .int .i64 0, .int .i64 0], .bool false]) ∧ Below w.heap.size w w' := by
  go_enter Tryz.func21, Tryz.ntmps21
  go_wp2_with fail
  refine bodyPost_ret (v := .tuple #[.agg #[.int .u8 0, .string ⟨#[]⟩, .string ⟨#[]⟩, .int .i64 0, .int .i64 0], .bool false]) (by simp [results, Tryz.results21, go_sem]; try rfl) rfl ?_
  exact ⟨rfl, by go_grown⟩
set_option maxRecDepth 100000 in
set_option maxHeartbeats 4000000 in
theorem plain_txt (g : Nat) (cap : Array Value) (c a : Value) (l : Bool) (ck : Int) (nm tx : ByteArray) (n : Int) (w : World) (hk : (ck != 3) = true) (hk2 : (ck == 3) = false) (ht : tx.toList.isEmpty = false) (ht2 : ¬ tx.toList = []) :
    Calls Tryz.prog 21 #[.agg #[.func (.func g) #[] cap, c, a, .bool l], .agg #[.int .u8 ck, .string nm, .string tx, .int .i64 n, .int .i64 0]] w fun e w' => e = .returned (.tuple #[.agg #[.int .u8 0, .string ⟨#[]⟩, .string ⟨#[]⟩, .int .i64 0, .int .i64 0], .bool false]) ∧ Below w.heap.size w w' := by
  go_enter Tryz.func21, Tryz.ntmps21
  go_wp2_with fail
  refine bodyPost_ret (v := .tuple #[.agg #[.int .u8 0, .string ⟨#[]⟩, .string ⟨#[]⟩, .int .i64 0, .int .i64 0], .bool false]) (by simp [results, Tryz.results21, go_sem]; try rfl) rfl ?_
  exact ⟨rfl, by go_grown⟩
set_option maxRecDepth 100000 in
set_option maxHeartbeats 4000000 in
theorem plain_num (g : Nat) (cap : Array Value) (c a : Value) (l : Bool) (nm tx : ByteArray) (n : Int) (w : World) (hn : (n != 0) = true) :
    Calls Tryz.prog 21 #[.agg #[.func (.func g) #[] cap, c, a, .bool l], .agg #[.int .u8 3, .string nm, .string tx, .int .i64 n, .int .i64 0]] w fun e w' => e = .returned (.tuple #[.agg #[.int .u8 0, .string ⟨#[]⟩, .string ⟨#[]⟩, .int .i64 0, .int .i64 0], .bool false]) ∧ Below w.heap.size w w' := by
  go_enter Tryz.func21, Tryz.ntmps21
  go_wp2_with fail
  refine bodyPost_ret (v := .tuple #[.agg #[.int .u8 0, .string ⟨#[]⟩, .string ⟨#[]⟩, .int .i64 0, .int .i64 0], .bool false]) (by simp [results, Tryz.results21, go_sem]; try rfl) rfl ?_
  exact ⟨rfl, by go_grown⟩
/-- What a scalar reads of a cell without a name, without fields: kind, text, number, and whether it is one. -/
abbrev RdV := Int → ByteArray → Int → Int × ByteArray × Int × Bool
def toldR (cs : ByteArray → ByteArray × Int) : RdV := fun ck tx n => if ck = 3 ∧ chkE tx.data.toList = 0 then (3, (cs tx).1, 0, (cs tx).2 == 0) else (ck, tx, n, false)
def digsR (rd : RdV) : RdV := fun ck tx n => if ck = 2 then (3, ⟨(Lib.itoa n).toArray⟩, 0, true) else rd ck tx n
def numR : RdV := fun ck tx n => (ck, tx, n, ck == 2 && decide (-2147483648 ≤ n ∧ n ≤ 2147483647))
def boolR : RdV := fun ck tx n => (ck, tx, n, ck == 1 && (n == 0 || n == 1))
def plainR (rd : RdV) : Int → ByteArray → Int → Int → Int × ByteArray × Int × Bool := fun ck tx n m => if m = 0 ∧ (if ck = 3 then n = 0 else tx.toList = []) then rd ck tx n else (0, ⟨#[]⟩, 0, false)
/-- A text's function, of those that scalars hold. -/
def CanC (w : World) (g : Nat) (cap : Array Value) (cs : ByteArray → ByteArray × Int) : Prop := ∀ s : ByteArray, s.size ≤ 16384 → DoesU w g (#[.string s] ++ cap) (.tuple #[.string (cs s).1, .int .i64 (cs s).2])
/-- A reader. -/
def RdC (w : World) (g : Nat) (cap : Array Value) (rd : RdV) : Prop := ∀ (ck : Int) (tx : ByteArray) (n : Int), 0 ≤ ck → ck ≤ 255 → tx.size ≤ 1000000 → R n →
  DoesU w g (#[.agg #[.int .u8 ck, .string ⟨#[]⟩, .string tx, .int .i64 n, .int .i64 0]] ++ cap) (.tuple #[.agg #[.int .u8 (rd ck tx n).1, .string ⟨#[]⟩, .string (rd ck tx n).2.1, .int .i64 (rd ck tx n).2.2.1, .int .i64 0], .bool (rd ck tx n).2.2.2])
theorem CanC.below {w w' : World} {g : Nat} {cap : Array Value} {cs : ByteArray → ByteArray × Int} (h : CanC w g cap cs) (hb : Below w.heap.size w w') : CanC w' g cap cs := fun s hs => (h s hs).below hb
theorem RdC.below {w w' : World} {g : Nat} {cap : Array Value} {rd : RdV} (h : RdC w g cap rd) (hb : Below w.heap.size w w') : RdC w' g cap rd := fun ck tx n h0 h1 h2 h3 => (h ck tx n h0 h1 h2 h3).below hb
theorem app_nil (x : Value) : #[x] ++ #[] = #[x] := by simp
theorem told_c (p g : Nat) (cap : Array Value) (cs : ByteArray → ByteArray × Int) (w : World) (HP : w.cell? ⟨p, 0, none⟩ = some (.func (.func g) #[] cap)) (eg : ∀ args w, (callFunc g args).run Tryz.prog w = .ok (.enter g args) w) (hE : EnvU w) (HC : CanC w g cap cs) :
    RdC w 52 #[.pointer (some ⟨p, 0, none⟩)] (toldR cs) := by
  intro ck tx n h0 h1 h2 h3 W hW
  have HK : Hid (DoesU W 22 #[.string tx] (.int .i64 (chkE tx.data.toList))) := Lib.hid fun W' hW' => tcheck_any tx h2 W' ((hE.below hW).below hW')
  unfold toldR
  by_cases hk : ck = 3
  · subst hk
    by_cases hc : chkE tx.data.toList = 0
    · rw [if_pos ⟨rfl, hc⟩]
      rw [hc] at HK
      have hs : tx.size ≤ 16384 := by
        unfold chkE at hc
        by_cases h : 16384 < tx.data.toList.length
        · rw [if_pos h] at hc; cases hc
        · have : tx.data.toList.length = tx.size := by rw [Array.length_toList]; rfl
          omega
      exact told_go ⟨#[]⟩ tx n 0 p g cap (cs tx).1 (cs tx).2 _ W (Lib.hid ((hW.cell (p := ⟨p, 0, none⟩) (lt_of_cell HP)).trans HP)) (Nat.lt_of_lt_of_le (lt_of_cell HP) hW.size) eg rfl HK (Lib.hid ((HC tx hs).below hW))
    · rw [if_neg (fun h => hc h.2)]
      exact told_bad ⟨#[]⟩ tx n 0 p _ W (by simpa using hc) HK
  · rw [if_neg (fun h => hk h.1)]
    exact told_kind ck ⟨#[]⟩ tx n 0 p W (by simpa using hk)
theorem digs_c (p g : Nat) (cap : Array Value) (rd : RdV) (w : World) (HP : w.cell? ⟨p, 0, none⟩ = some (.func (.func g) #[] cap)) (eg : ∀ args w, (callFunc g args).run Tryz.prog w = .ok (.enter g args) w) (hE : EnvT w) (HC : RdC w g cap rd) :
    RdC w 53 #[.pointer (some ⟨p, 0, none⟩)] (digsR rd) := by
  intro ck tx n h0 h1 h2 h3 W hW
  unfold digsR
  by_cases hk : ck = 2
  · subst hk
    rw [if_pos rfl]
    exact digs_int ⟨#[]⟩ tx n 0 p _ W (Lib.hid fun W' hW' => write_tab n h3 W' ((EnvT.stays hE hW).stays hW'))
  · rw [if_neg hk]
    exact digs_go ck ⟨#[]⟩ tx n 0 p g cap _ _ _ _ _ _ W (Lib.hid ((hW.cell (p := ⟨p, 0, none⟩) (lt_of_cell HP)).trans HP)) (Nat.lt_of_lt_of_le (lt_of_cell HP) hW.size) eg (by simpa using hk) (Lib.hid ((HC ck tx n h0 h1 h2 h3).below hW))
theorem number_c (w : World) : RdC w 29 #[] numR := by
  intro ck tx n h0 h1 h2 h3 W hW
  rw [app_nil]
  unfold numR
  by_cases hk : ck = 2
  · subst hk
    exact number_2 _ _ _ _ h3 W
  · have e : (ck == 2) = false := by simpa using hk
    rw [e]
    exact number_k ck _ _ _ _ e W
theorem bool_c (w : World) : RdC w 35 #[] boolR := by
  intro ck tx n h0 h1 h2 h3 W hW
  rw [app_nil]
  unfold boolR
  by_cases hk : ck = 1
  · subst hk
    by_cases hn : n = 0
    · subst hn; exact bool_0 _ _ _ W
    · by_cases hn1 : n = 1
      · subst hn1; exact bool_1 _ _ _ W
      · have e0 : (n == 0) = false := by simpa using hn
        have e1 : (n == 1) = false := by simpa using hn1
        rw [e0, e1]
        exact bool_n _ _ _ _ e0 e1 W
  · have e : (ck == 1) = false := by simpa using hk
    rw [e]
    exact bool_k ck _ _ _ _ e W
/-- plain, of a scalar. -/
def PlC (w : World) (g : Nat) (cap : Array Value) (c a : Value) (l : Bool) (rd : RdV) : Prop := ∀ (ck : Int) (nm tx : ByteArray) (n m : Int), 0 ≤ ck → ck ≤ 255 → tx.size ≤ 1000000 → R n → R m →
  DoesU w 21 #[.agg #[.func (.func g) #[] cap, c, a, .bool l], .agg #[.int .u8 ck, .string nm, .string tx, .int .i64 n, .int .i64 m]] (.tuple #[.agg #[.int .u8 (plainR rd ck tx n m).1, .string ⟨#[]⟩, .string (plainR rd ck tx n m).2.1, .int .i64 (plainR rd ck tx n m).2.2.1, .int .i64 0], .bool (plainR rd ck tx n m).2.2.2])
theorem plain_c (g : Nat) (cap : Array Value) (c a : Value) (l : Bool) (rd : RdV) (w : World) (eg : ∀ args w, (callFunc g args).run Tryz.prog w = .ok (.enter g args) w) (HR : RdC w g cap rd) : PlC w g cap c a l rd := by
  intro ck nm tx n m h0 h1 h2 h3 h4 W hW
  have HR' := HR.below hW
  unfold plainR
  by_cases hm : m = 0
  · subst hm
    by_cases hk : ck = 3
    · subst hk
      by_cases hn : n = 0
      · subst hn
        rw [if_pos ⟨rfl, by rw [if_pos rfl]⟩]
        exact plain_text g cap c a l nm tx _ _ _ _ _ _ W eg (Lib.hid (HR' 3 tx 0 h0 h1 h2 h3))
      · rw [if_neg (fun h => hn (by simpa using h.2))]
        exact plain_num g cap c a l nm tx n W (by simpa using hn)
    · have e1 : (ck != 3) = true := by simpa using hk
      have e2 : (ck == 3) = false := by simpa using hk
      by_cases ht : tx.toList = []
      · rw [if_pos ⟨rfl, by rw [if_neg hk]; exact ht⟩]
        obtain rfl : tx = ⟨#[]⟩ := by
          rw [ByteArray.toList_eq] at ht
          have : tx.data = #[] := Array.toList_inj.1 (by rw [ht])
          cases tx; simp_all
        exact plain_other g cap c a l ck nm n _ _ _ _ _ _ W eg e1 e2 (Lib.hid (HR' ck ⟨#[]⟩ n h0 h1 (by decide) h3))
      · rw [if_neg (fun h => ht (by have := h.2; rw [if_neg hk] at this; exact this))]
        exact plain_txt g cap c a l ck nm tx n W e1 e2 (by simpa using ht) ht
  · rw [if_neg (fun h => hm h.1)]
    exact plain_many g cap c a l ck nm tx n m W (by simpa using hm)
end Go.Proofs.YtpkkejcndmcbiaaGreatDoor
