/- The walks through the reference's code points (provostref01: Is, Bytes, number, One, Next). -/
import Derived.Test.YtglhanblbojkhaaGreatDoorTu
import Derived.Test.YtglhanblbojkhaaGreatDoorSb
import Derived.IntWalk
import Derived.LoopTactic
import Derived.Deep.LoopGhost
import Derived.Deep.QuietTactic
import Derived.BigQuiet
import Derived.Deep.RegionHeld3
import Derived.Outline
set_option linter.unusedSimpArgs false
set_option linter.unusedVariables false
namespace Go.Proofs.YtglhanblbojkhaaGreatDoor
open Go.RowKit
theorem ret_n {k : IntKind} {a c : Int} (h : a = c) : Ending.returned (.int k a) = .returned (.int k c) := by rw [h]
theorem ret_b {a c : Bool} (h : a = c) : Ending.returned (.bool a) = .returned (.bool c) := by rw [h]
theorem drop_at (s : ByteArray) (k : Nat) (h : k < s.size) : s.data.toList.drop k = s[k] :: s.data.toList.drop (k + 1) := by
  rw [List.drop_eq_getElem_cons (by rw [Array.length_toList]; exact h)]; rfl
set_option maxRecDepth 100000 in
theorem ris_any (n : Nat) (hn : n ≤ 100000000) (w : World) :
    Calls Tryz.prog 122 #[.int .i64 (n : Int)] w fun e w' => e = .returned (.bool (isPt n)) ∧ w = w' := by
  have hx : isPt n = decide (n ≤ 1114111 ∧ (n < 55296 ∨ 57343 < n)) := rfl
  generalize isPt n = r at *
  have HX := Lib.hid hx
  clear hx
  go_enter Tryz.func122, Tryz.ntmps122
  go_wp2
  all_goals
    go_ret
    refine ⟨ret_b ?_, rfl⟩
    have hx := HX.out
    rw [hx, Bool.eq_iff_iff]
    (try simp at *) <;> omega
set_option maxRecDepth 100000 in
set_option maxHeartbeats 1000000 in
theorem rnumber1 (s : ByteArray) (k : Nat) (h : k + 1 ≤ s.size) (hs : s.size ≤ 1000000) (w : World) :
    Calls Tryz.prog 121 #[.string s, .int .i64 (k : Int), .int .i64 1] w fun e w' => e = .returned (.int .i64 (numN ((s.data.toList.drop k).take 1) : Nat)) ∧ w = w' := by
  rw [drop_at s (k) (by omega)]
  have h0 : k < s.size := by omega
  have c0 : s[k].toNat < 256 := UInt8.toNat_lt _
  simp only [List.take_succ_cons, List.take_zero, numN]
  go_enter Tryz.func121, Tryz.ntmps121
  go_wp2
  refine wp_loop_rounds 1 ?_
  repeat any_goals (rw [rounds_succ]; go_wp2)
  go_ret
  refine ⟨ret_n ?_, rfl⟩
  omega
set_option maxRecDepth 100000 in
set_option maxHeartbeats 1000000 in
theorem rnumber2 (s : ByteArray) (k : Nat) (h : k + 2 ≤ s.size) (hs : s.size ≤ 1000000) (w : World) :
    Calls Tryz.prog 121 #[.string s, .int .i64 (k : Int), .int .i64 2] w fun e w' => e = .returned (.int .i64 (numN ((s.data.toList.drop k).take 2) : Nat)) ∧ w = w' := by
  rw [drop_at s (k) (by omega), drop_at s (k + 1) (by omega)]
  have h0 : k < s.size := by omega
  have c0 : s[k].toNat < 256 := UInt8.toNat_lt _
  have h1 : k + 1 < s.size := by omega
  have c1 : s[k + 1].toNat < 256 := UInt8.toNat_lt _
  simp only [List.take_succ_cons, List.take_zero, numN]
  go_enter Tryz.func121, Tryz.ntmps121
  go_wp2
  refine wp_loop_rounds 2 ?_
  repeat any_goals (rw [rounds_succ]; go_wp2)
  go_ret
  refine ⟨ret_n ?_, rfl⟩
  omega
set_option maxRecDepth 100000 in
set_option maxHeartbeats 1000000 in
theorem rnumber3 (s : ByteArray) (k : Nat) (h : k + 3 ≤ s.size) (hs : s.size ≤ 1000000) (w : World) :
    Calls Tryz.prog 121 #[.string s, .int .i64 (k : Int), .int .i64 3] w fun e w' => e = .returned (.int .i64 (numN ((s.data.toList.drop k).take 3) : Nat)) ∧ w = w' := by
  rw [drop_at s (k) (by omega), drop_at s (k + 1) (by omega), drop_at s (k + 2) (by omega)]
  have h0 : k < s.size := by omega
  have c0 : s[k].toNat < 256 := UInt8.toNat_lt _
  have h1 : k + 1 < s.size := by omega
  have c1 : s[k + 1].toNat < 256 := UInt8.toNat_lt _
  have h2 : k + 2 < s.size := by omega
  have c2 : s[k + 2].toNat < 256 := UInt8.toNat_lt _
  simp only [List.take_succ_cons, List.take_zero, numN]
  go_enter Tryz.func121, Tryz.ntmps121
  go_wp2
  refine wp_loop_rounds 3 ?_
  repeat any_goals (rw [rounds_succ]; go_wp2)
  go_ret
  refine ⟨ret_n ?_, rfl⟩
  omega
set_option maxRecDepth 100000 in
set_option maxHeartbeats 1000000 in
theorem rnumber4 (s : ByteArray) (k : Nat) (h : k + 4 ≤ s.size) (hs : s.size ≤ 1000000) (w : World) :
    Calls Tryz.prog 121 #[.string s, .int .i64 (k : Int), .int .i64 4] w fun e w' => e = .returned (.int .i64 (numN ((s.data.toList.drop k).take 4) : Nat)) ∧ w = w' := by
  rw [drop_at s (k) (by omega), drop_at s (k + 1) (by omega), drop_at s (k + 2) (by omega), drop_at s (k + 3) (by omega)]
  have h0 : k < s.size := by omega
  have c0 : s[k].toNat < 256 := UInt8.toNat_lt _
  have h1 : k + 1 < s.size := by omega
  have c1 : s[k + 1].toNat < 256 := UInt8.toNat_lt _
  have h2 : k + 2 < s.size := by omega
  have c2 : s[k + 2].toNat < 256 := UInt8.toNat_lt _
  have h3 : k + 3 < s.size := by omega
  have c3 : s[k + 3].toNat < 256 := UInt8.toNat_lt _
  simp only [List.take_succ_cons, List.take_zero, numN]
  go_enter Tryz.func121, Tryz.ntmps121
  go_wp2
  refine wp_loop_rounds 4 ?_
  repeat any_goals (rw [rounds_succ]; go_wp2)
  go_ret
  refine ⟨ret_n ?_, rfl⟩
  omega
set_option maxRecDepth 100000 in
set_option maxHeartbeats 1000000 in
theorem rbytes1 (n : Nat) (hn : n ≤ 1114111) (hb : n < 128) (w : World) :
    Calls Tryz.prog 96 #[.int .i64 (n : Int)] w fun e w' => ∃ v, e = .returned v ∧ Own w.heap.size v (encN n) w' ∧ Below w.heap.size w w' := by
  have e : encN n = [UInt8.ofNat n] := by unfold encN; rw [if_pos (by omega)]
  rw [e]
  clear e
  go_enter Tryz.func96, Tryz.ntmps96
  go_wp2
  refine bodyPost_ret (v := .slice (some ⟨w.heap.size, 0, none⟩) 1 1) (by simp [results, Tryz.results96, go_sem]) rfl ⟨_, rfl, Own.fresh rfl ?_ (by simp) w, (Below.refl _ _).alloc (Nat.le_refl _) _⟩
  simp only [Lib.byteCells, List.map_cons, List.map_nil]
  rw [ofN _ (by omega)]
set_option maxRecDepth 100000 in
set_option maxHeartbeats 1000000 in
theorem rbytes2 (n : Nat) (hn : n ≤ 1114111) (ha : ¬ n < 128) (hb : n < 2048) (w : World) :
    Calls Tryz.prog 96 #[.int .i64 (n : Int)] w fun e w' => ∃ v, e = .returned v ∧ Own w.heap.size v (encN n) w' ∧ Below w.heap.size w w' := by
  have e : encN n = [UInt8.ofNat (192 + n / 64), UInt8.ofNat (128 + n % 64)] := by unfold encN; rw [if_neg (by omega)]; rw [if_pos (by omega)]
  rw [e]
  clear e
  go_enter Tryz.func96, Tryz.ntmps96
  go_wp2
  refine bodyPost_ret (v := .slice (some ⟨w.heap.size, 0, none⟩) 2 2) (by simp [results, Tryz.results96, go_sem]) rfl ⟨_, rfl, Own.fresh rfl ?_ (by simp) w, (Below.refl _ _).alloc (Nat.le_refl _) _⟩
  simp only [Lib.byteCells, List.map_cons, List.map_nil]
  rw [ofN _ (by omega), ofN _ (by omega)]; simp
set_option maxRecDepth 100000 in
set_option maxHeartbeats 1000000 in
theorem rbytes3 (n : Nat) (hn : n ≤ 1114111) (ha0 : ¬ n < 128) (ha : ¬ n < 2048) (hb : n < 65536) (w : World) :
    Calls Tryz.prog 96 #[.int .i64 (n : Int)] w fun e w' => ∃ v, e = .returned v ∧ Own w.heap.size v (encN n) w' ∧ Below w.heap.size w w' := by
  have e : encN n = [UInt8.ofNat (224 + n / 4096), UInt8.ofNat (128 + n / 64 % 64), UInt8.ofNat (128 + n % 64)] := by unfold encN; rw [if_neg (by omega)]; rw [if_neg (by omega)]; rw [if_pos (by omega)]
  rw [e]
  clear e
  obtain ⟨a, ea⟩ : ∃ a, n / 4096 = a := ⟨_, rfl⟩
  obtain ⟨d, ed⟩ : ∃ d, n / 64 = d := ⟨_, rfl⟩
  obtain ⟨b, eb⟩ : ∃ b, d % 64 = b := ⟨_, rfl⟩
  obtain ⟨c, ec⟩ : ∃ c, n % 64 = c := ⟨_, rfl⟩
  have la : a < 16 := by omega
  have ld : d < 1024 := by omega
  have lb : b < 64 := by omega
  have lc : c < 64 := by omega
  have fa : (n : Int) / 4096 = a := by omega
  have fd : (n : Int) / 64 = d := by omega
  have fb : (d : Int) % 64 = b := by omega
  have fc : (n : Int) % 64 = c := by omega
  rw [ea, ed, eb, ec]
  have i1 : (128 : Int) ≤ n := by omega
  have i2 : (2048 : Int) ≤ n := by omega
  have i3 : (n : Int) < 65536 := by omega
  clear ea ed eb ec hn ha0 ha hb
  obtain ⟨m, hm⟩ : ∃ m : Int, (n : Int) = m := ⟨_, rfl⟩
  rw [hm] at fa fd fc i1 i2 i3
  rw [hm]
  clear hm
  go_enter Tryz.func96, Tryz.ntmps96
  go_wp2
  refine bodyPost_ret (v := .slice (some ⟨w.heap.size, 0, none⟩) 3 3) (by simp [results, Tryz.results96, go_sem]) rfl ⟨_, rfl, Own.fresh rfl ?_ (by simp) w, (Below.refl _ _).alloc (Nat.le_refl _) _⟩
  simp only [Lib.byteCells, List.map_cons, List.map_nil]
  rw [ofN _ (by omega), ofN _ (by omega), ofN _ (by omega)]; simp
set_option maxRecDepth 100000 in
set_option maxHeartbeats 1000000 in
theorem rbytes4 (n : Nat) (hn : n ≤ 1114111) (ha0 : ¬ n < 128) (ha1 : ¬ n < 2048) (ha : ¬ n < 65536) (w : World) :
    Calls Tryz.prog 96 #[.int .i64 (n : Int)] w fun e w' => ∃ v, e = .returned v ∧ Own w.heap.size v (encN n) w' ∧ Below w.heap.size w w' := by
  have e : encN n = [UInt8.ofNat (240 + n / 262144), UInt8.ofNat (128 + n / 4096 % 64), UInt8.ofNat (128 + n / 64 % 64), UInt8.ofNat (128 + n % 64)] := by unfold encN; rw [if_neg (by omega)]; rw [if_neg (by omega)]; rw [if_neg (by omega)]
  rw [e]
  clear e
  obtain ⟨a, ea⟩ : ∃ a, n / 262144 = a := ⟨_, rfl⟩
  obtain ⟨x, ex⟩ : ∃ x, n / 4096 = x := ⟨_, rfl⟩
  obtain ⟨b, eb⟩ : ∃ b, x % 64 = b := ⟨_, rfl⟩
  obtain ⟨y, ey⟩ : ∃ y, n / 64 = y := ⟨_, rfl⟩
  obtain ⟨c, ec⟩ : ∃ c, y % 64 = c := ⟨_, rfl⟩
  obtain ⟨d, ed⟩ : ∃ d, n % 64 = d := ⟨_, rfl⟩
  have la : a < 5 := by omega
  have lx : x < 300 := by omega
  have ly : y < 20000 := by omega
  have lb : b < 64 := by omega
  have lc : c < 64 := by omega
  have ld : d < 64 := by omega
  have fa : (n : Int) / 262144 = a := by omega
  have fx : (n : Int) / 4096 = x := by omega
  have fb : (x : Int) % 64 = b := by omega
  have fy : (n : Int) / 64 = y := by omega
  have fc : (y : Int) % 64 = c := by omega
  have fd : (n : Int) % 64 = d := by omega
  rw [ea, ex, eb, ey, ec, ed]
  have i1 : (128 : Int) ≤ n := by omega
  have i2 : (2048 : Int) ≤ n := by omega
  have i3 : (65536 : Int) ≤ n := by omega
  clear ea ex eb ey ec ed hn ha0 ha ha1
  obtain ⟨m, hm⟩ : ∃ m : Int, (n : Int) = m := ⟨_, rfl⟩
  rw [hm] at fa fx fy fd i1 i2 i3
  rw [hm]
  clear hm
  go_enter Tryz.func96, Tryz.ntmps96
  go_wp2
  refine bodyPost_ret (v := .slice (some ⟨w.heap.size, 0, none⟩) 4 4) (by simp [results, Tryz.results96, go_sem]) rfl ⟨_, rfl, Own.fresh rfl ?_ (by simp) w, (Below.refl _ _).alloc (Nat.le_refl _) _⟩
  simp only [Lib.byteCells, List.map_cons, List.map_nil]
  rw [ofN _ (by omega), ofN _ (by omega), ofN _ (by omega), ofN _ (by omega)]; simp
theorem rbytes_any (n : Nat) (hn : isPt n = true) (w : World) :
    Calls Tryz.prog 96 #[.int .i64 (n : Int)] w fun e w' => ∃ v, e = .returned v ∧ Own w.heap.size v (encN n) w' ∧ Below w.heap.size w w' := by
  simp only [isPt, decide_eq_true_eq] at hn
  by_cases h1 : n < 128
  · exact rbytes1 n hn.1 h1 w
  by_cases h2 : n < 2048
  · exact rbytes2 n hn.1 h1 h2 w
  by_cases h3 : n < 65536
  · exact rbytes3 n hn.1 h1 h2 h3 w
  · exact rbytes4 n hn.1 h1 h2 h3 w
end Go.Proofs.YtglhanblbojkhaaGreatDoor
