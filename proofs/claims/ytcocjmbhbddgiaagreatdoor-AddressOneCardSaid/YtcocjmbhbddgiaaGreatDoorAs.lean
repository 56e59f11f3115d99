/- The walks through the program's Text (address). -/
import Derived.Test.YtcocjmbhbddgiaaGreatDoorAr
set_option linter.unusedSimpArgs false
set_option linter.unusedVariables false
namespace Go.Proofs.YtcocjmbhbddgiaaGreatDoor
open Go.RowKit
set_option maxRecDepth 100000 in
theorem text_any (sc us ho po pa qu : ByteArray) (hu hq : Bool) (h1 : sc.size ≤ 100000) (h2 : us.size ≤ 100000) (h3 : ho.size ≤ 100000) (h4 : po.size ≤ 100000) (h5 : pa.size ≤ 100000) (h6 : qu.size ≤ 100000) (w : World) :
    Calls Tryz.prog 11 #[.agg #[.string sc, .string us, .string ho, .string po, .string pa, .string qu, .bool hu, .bool hq]] w fun e w' => e = .returned (if mayL sc.data.toList us.data.toList ho.data.toList po.data.toList pa.data.toList qu.data.toList hu hq then .tuple #[.string ⟨(tellL sc.data.toList us.data.toList ho.data.toList po.data.toList pa.data.toList qu.data.toList hu hq).toArray⟩, .int .i64 0] else .tuple #[.string ⟨#[]⟩, .int .i64 150]) ∧ Below w.heap.size w w' := by
  have H1 := Lib.hid (fun w => check_any sc us ho po pa qu hu hq h1 h2 h3 h4 h5 h6 w)
  have H7 := Lib.hid (fun w => tell_any sc us ho po pa qu hu hq h1 h2 h3 h4 h5 h6 w)
  generalize mayL sc.data.toList us.data.toList ho.data.toList po.data.toList pa.data.toList qu.data.toList hu hq = b at *
  generalize (⟨(tellL sc.data.toList us.data.toList ho.data.toList po.data.toList pa.data.toList qu.data.toList hu hq).toArray⟩ : ByteArray) = tx at *
  cases b
  · go_enter Tryz.func11, Tryz.ntmps11
    go_wp2_with fail
    refine (H1.out _).mono ?_; rintro e w1 ⟨rfl, hb⟩
    go_wp2_with fail
    go_ret2
    refine ⟨rfl, ?_⟩
    refine Below.trans ?_ (hb.mono (by first | (simp; done) | (simp; omega)))
    go_grown
  · go_enter Tryz.func11, Tryz.ntmps11
    go_wp2_with fail
    refine (H1.out _).mono ?_; rintro e w1 ⟨rfl, hb⟩
    obtain ⟨cc, ff⟩ := bcell hb
    have sz1 : w.heap.size + 1 ≤ w1.heap.size := by have := hb.size; first | exact this | (simp at this; omega)
    have bw1 : Below w.heap.size w w1 := by
      refine Below.trans ?_ (hb.mono (by first | omega | (simp; done) | (simp; omega)))
      go_grown
    have c0 : w1.cell? ⟨w.heap.size, 0, none⟩ = some (.string sc) := by rw [cc _ _ (by first | omega | (simp; done) | (simp; omega))]; first | assumption | (simp [go_sem, *]; done)
    have c1 : w1.cell? ⟨w.heap.size, 1, none⟩ = some (.string us) := by rw [cc _ _ (by first | omega | (simp; done) | (simp; omega))]; first | assumption | (simp [go_sem, *]; done)
    have c2 : w1.cell? ⟨w.heap.size, 2, none⟩ = some (.string ho) := by rw [cc _ _ (by first | omega | (simp; done) | (simp; omega))]; first | assumption | (simp [go_sem, *]; done)
    have c3 : w1.cell? ⟨w.heap.size, 3, none⟩ = some (.string po) := by rw [cc _ _ (by first | omega | (simp; done) | (simp; omega))]; first | assumption | (simp [go_sem, *]; done)
    have c4 : w1.cell? ⟨w.heap.size, 4, none⟩ = some (.string pa) := by rw [cc _ _ (by first | omega | (simp; done) | (simp; omega))]; first | assumption | (simp [go_sem, *]; done)
    have c5 : w1.cell? ⟨w.heap.size, 5, none⟩ = some (.string qu) := by rw [cc _ _ (by first | omega | (simp; done) | (simp; omega))]; first | assumption | (simp [go_sem, *]; done)
    have c6 : w1.cell? ⟨w.heap.size, 6, none⟩ = some (.bool hu) := by rw [cc _ _ (by first | omega | (simp; done) | (simp; omega))]; first | assumption | (simp [go_sem, *]; done)
    have c7 : w1.cell? ⟨w.heap.size, 7, none⟩ = some (.bool hq) := by rw [cc _ _ (by first | omega | (simp; done) | (simp; omega))]; first | assumption | (simp [go_sem, *]; done)
    clear cc ff hb
    go_wp2_with fail
    refine (H7.out _).mono ?_; rintro e w2 ⟨rfl, hb2⟩
    go_wp2_with fail
    go_ret2
    refine ⟨rfl, ?_⟩
    refine Below.trans ?_ (hb2.mono (by omega))
    exact bw1
end Go.Proofs.YtcocjmbhbddgiaaGreatDoor
